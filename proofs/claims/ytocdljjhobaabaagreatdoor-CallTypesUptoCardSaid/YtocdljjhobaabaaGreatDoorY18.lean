/- The proof, part Y18: Ic, Im, Ie, Id, If, Nc. -/
import Derived.Test.YtocdljjhobaabaaGreatDoorY17
import Derived.Laws.Strings
namespace Go.Hp
open Go Go.RowKit Go.Slot
variable {P:Program} {Γ:List (Nat×List Cell)} {e:List SB} {G:List (Nat×List GhH)}
theorem y6q {p:Prop} [Decidable p] {X Y:Bool->Prop} (hx:p->decide p=true->X true) (hy:¬p->decide p=false->Y true):wp9 (decide p) true X Y:=⟨fun h=>hx (of_decide_eq_true h) h,fun h=>hy (of_decide_eq_false h) h⟩
theorem xz7 {p:Prop} [Decidable p] {X Y:Bool->Prop} (hx:¬p->decide p=false->X true) (hy:p->decide p=true->Y true):wp9 (decide p) false X Y:=⟨fun h=>hx (of_decide_eq_false h) h,fun h=>hy (of_decide_eq_true h) h⟩
theorem zc1 {c:Bool} {X Y:Bool->Prop} (hx:c=true->X true) (hy:c=false->Y true):wp9 c true X Y:=⟨hx,hy⟩
theorem zzl {c:Bool} {X Y:Bool->Prop} (hx:c=false->X true) (hy:c=true->Y true):wp9 c false X Y:=⟨hx,hy⟩
theorem xw4 {p:Prop} [Decidable p] {X Y:Bool->Prop} (hx:p->decide p=true->X true) (hy:¬p->decide p=false->Y true):zht (decide p) X Y:=⟨fun h=>hx (of_decide_eq_true h) h,fun h=>hy (of_decide_eq_false h) h⟩
theorem x20 {c:Bool} {X Y:Bool->Prop} (hx:c=true->X true) (hy:c=false->Y true):zht c X Y:=⟨hx,hy⟩
theorem yyt {c:Bool} {X Y:Bool->Prop} (hx:c=false->X true) (hy:c=true->Y true):wp9 (!c) true X Y:=⟨fun h=>hx (by simpa using h),fun h=>hy (by simpa using h)⟩
theorem xm0 {c:Bool} {X Y:Bool->Prop} (hx:c=true->X true) (hy:c=false->Y true):wp9 (!c) false X Y:=⟨fun h=>hx (by simpa using h),fun h=>hy (by simpa using h)⟩
theorem z7k {c:Bool} {X Y:Bool->Prop} (hx:c=false->X true) (hy:c=true->Y true):zht (!c) X Y:=⟨fun h=>hx (by simpa using h),fun h=>hy (by simpa using h)⟩
theorem hg {p q:Prop} (k:q) (h:p=q:=by conv=>lhs;simp (maxSteps:=2000000) (disch:=omega) only [go_sem,Nat.reduceAdd,Nat.reduceSub,Nat.reduceMul,Int.reduceToNat,Nat.reduceEqDiff,Nat.reduceBEq,Nat.reduceBneDiff,Nat.reduceLT,Int.reduceEq,Int.reduceLT,Int.reduceLE,Int.reduceNeg,Int.reduceAdd,Int.reduceSub,Int.reduceMul]):p:=Eq.mpr h k
theorem hgS {p q:Prop} (k:q) (h:p=q:=by conv=>lhs;simp (maxSteps:=2000000) (disch:=omega) only [go_sem,Nat.reduceAdd,Nat.reduceSub,Nat.reduceMul,Int.reduceToNat,Nat.reduceEqDiff,Nat.reduceBEq,Nat.reduceBneDiff,Nat.reduceLT,Int.reduceEq,Int.reduceLT,Int.reduceLE,Int.reduceNeg,Int.reduceAdd,Int.reduceSub,Int.reduceMul, *]):p:=Eq.mpr h k
theorem hgR {p q:Prop} (k:q) (h:p=q:=by conv=>lhs;simp (maxSteps:=2000000) (disch:=omega) only [go_sem,Nat.reduceAdd,Nat.reduceSub,Nat.reduceMul,Int.reduceToNat,Nat.reduceEqDiff,Nat.reduceBEq,Nat.reduceBneDiff,Nat.reduceLT,Int.reduceEq,Int.reduceLT,Int.reduceLE,Int.reduceNeg,Int.reduceAdd,Int.reduceSub,Int.reduceMul,List.replicate]):p:=Eq.mpr h k
theorem hfk {p q r:Prop} (k:q) (l:r) (h:q->r->p:=by with_reducible first | exact fun a b=>y6q a b | exact fun a b=>xz7 a b | exact fun a b=>yyt a b | exact fun a b=>xm0 a b | exact fun a b=>zc1 a b | exact fun a b=>zzl a b | exact fun a b=>xw4 a b | exact fun a b=>z7k a b | exact fun a b=>x20 a b):p:=h k l
theorem hik {ops:List Oper} {acc:List HR} {k:Bool->Prop} (hk:k true) (h:yir ops acc=true:=by kernel_rfl):xa7 ops acc k:=⟨h,hk⟩
theorem svl {a b:List SV} (h:xll a b:=by repeat' first | exact .nil | refine .cons (by first | exact .refl _ | exact .any _) ?_):xll a b:=h
theorem RLe.ofEq {x y:AV} (h:x=y):RLe x y:=h▸.one (.refl _)
theorem ztq {p:Prop} [Decidable p]:(!decide p)=decide (¬p):=by by_cases h:p<;>simp [h]
theorem lfE {x y:AV} {p:Prop} (k:p) (h:(x=y)=p:=by conv=>lhs;simp only [Bool.and_true,Bool.true_and,Bool.and_false,Bool.false_and,Bool.or_true,Bool.true_or,Bool.or_false,Bool.false_or,Bool.not_true,Bool.not_false,decide_true,decide_false,not_true_eq_false,not_false_eq_true,ztq,if_true,if_false,Bool.and_self,Bool.or_self,cond_true,cond_false,List.length_map,ne_eq,Int.reduceEq,Int.reduceLT,Int.reduceLE, *]):RLe x y:=RLe.ofEq (h.symm▸k)
theorem lf1 {x y:AV} {a p:Prop} (ra:a) (k:p) (h:a->(x=y)=p:=by intro z1;conv=>lhs;simp only [Bool.and_true,Bool.true_and,Bool.and_false,Bool.false_and,Bool.or_true,Bool.true_or,Bool.or_false,Bool.false_or,Bool.not_true,Bool.not_false,decide_true,decide_false,not_true_eq_false,not_false_eq_true,ztq,if_true,if_false,Bool.and_self,Bool.or_self,cond_true,cond_false,List.length_map,ne_eq,Int.reduceEq,Int.reduceLT,Int.reduceLE, *]):RLe x y:=RLe.ofEq ((h ra).symm▸k)
theorem lf2 {x y:AV} {a b p:Prop} (ra:a) (rb:b) (k:p) (h:a->b->(x=y)=p:=by intro z1 z2;conv=>lhs;simp only [Bool.and_true,Bool.true_and,Bool.and_false,Bool.false_and,Bool.or_true,Bool.true_or,Bool.or_false,Bool.false_or,Bool.not_true,Bool.not_false,decide_true,decide_false,not_true_eq_false,not_false_eq_true,ztq,if_true,if_false,Bool.and_self,Bool.or_self,cond_true,cond_false,List.length_map,ne_eq,Int.reduceEq,Int.reduceLT,Int.reduceLE, *]):RLe x y:=RLe.ofEq ((h ra rb).symm▸k)
theorem bsE {q p:Prop} (k:p) (h:q=p:=by conv=>lhs;simp only [Bool.and_true,Bool.true_and,Bool.and_false,Bool.false_and,Bool.or_true,Bool.true_or,Bool.or_false,Bool.false_or,Bool.not_true,Bool.not_false,decide_true,decide_false,not_true_eq_false,not_false_eq_true,ztq,if_true,if_false,Bool.and_self,Bool.or_self,cond_true,cond_false,List.length_map,ne_eq,Int.reduceEq,Int.reduceLT,Int.reduceLE, *]):q:=h.symm▸k
theorem bs1 {a q p:Prop} (ra:a) (k:p) (h:a->q=p:=by intro z1;conv=>lhs;simp only [Bool.and_true,Bool.true_and,Bool.and_false,Bool.false_and,Bool.or_true,Bool.true_or,Bool.or_false,Bool.false_or,Bool.not_true,Bool.not_false,decide_true,decide_false,not_true_eq_false,not_false_eq_true,ztq,if_true,if_false,Bool.and_self,Bool.or_self,cond_true,cond_false,List.length_map,ne_eq,Int.reduceEq,Int.reduceLT,Int.reduceLE, *]):q:=(h ra).symm▸k
theorem bs2 {a b q p:Prop} (ra:a) (rb:b) (k:p) (h:a->b->q=p:=by intro z1 z2;conv=>lhs;simp only [Bool.and_true,Bool.true_and,Bool.and_false,Bool.false_and,Bool.or_true,Bool.true_or,Bool.or_false,Bool.false_or,Bool.not_true,Bool.not_false,decide_true,decide_false,not_true_eq_false,not_false_eq_true,ztq,if_true,if_false,Bool.and_self,Bool.or_self,cond_true,cond_false,List.length_map,ne_eq,Int.reduceEq,Int.reduceLT,Int.reduceLE, *]):q:=(h ra rb).symm▸k
theorem hg1 {a p q:Prop} (ra:a) (k:q) (h:a->p=q:=by intro z1;conv=>lhs;simp (maxSteps:=2000000) (disch:=omega) only [go_sem,Nat.reduceAdd,Nat.reduceSub,Nat.reduceMul,Int.reduceToNat,Nat.reduceEqDiff,Nat.reduceBEq,Nat.reduceBneDiff,Nat.reduceLT,Int.reduceEq,Int.reduceLT,Int.reduceLE,Int.reduceNeg,Int.reduceAdd,Int.reduceSub,Int.reduceMul,z1]):p:=Eq.mpr (h ra) k
theorem hg2 {a b p q:Prop} (ra:a) (rb:b) (k:q) (h:a->b->p=q:=by intro z1 z2;conv=>lhs;simp (maxSteps:=2000000) (disch:=omega) only [go_sem,Nat.reduceAdd,Nat.reduceSub,Nat.reduceMul,Int.reduceToNat,Nat.reduceEqDiff,Nat.reduceBEq,Nat.reduceBneDiff,Nat.reduceLT,Int.reduceEq,Int.reduceLT,Int.reduceLE,Int.reduceNeg,Int.reduceAdd,Int.reduceSub,Int.reduceMul,z1,z2]):p:=Eq.mpr (h ra rb) k
theorem hg3 {a b c p q:Prop} (ra:a) (rb:b) (rc:c) (k:q) (h:a->b->c->p=q:=by intro z1 z2 z3;conv=>lhs;simp (maxSteps:=2000000) (disch:=omega) only [go_sem,Nat.reduceAdd,Nat.reduceSub,Nat.reduceMul,Int.reduceToNat,Nat.reduceEqDiff,Nat.reduceBEq,Nat.reduceBneDiff,Nat.reduceLT,Int.reduceEq,Int.reduceLT,Int.reduceLE,Int.reduceNeg,Int.reduceAdd,Int.reduceSub,Int.reduceMul,z1,z2,z3]):p:=Eq.mpr (h ra rb rc) k
def swL (i j:Nat) (η:List SB):List SB:=(List.range η.length).map fun k=>swSB i j (gB η (sw i j k))
theorem wsy {i j k n:Nat} (hi:i<n) (hj:j<n) (hk:k<n):sw i j k<n:=by unfold sw;split<;>(try split)<;>omega
theorem StH.v2m {σ:List SV} {η:List SB} {i j:Nat} (hi:e.length<=i) (hj:e.length<=j) (hil:i<η.length) (hjl:j<η.length):StH Γ e σ η (σ.map (swSV i j)) (swL i j η):=by
 refine StH.swap hi hj hil hjl (fun b x hb=>.inl ?_) (by simp [swL]);have hbl:b<η.length:=(List.getElem?_eq_some_iff.1 hb).1;unfold swL;rw [List.getElem?_map,List.getElem?_range (wsy hil hjl hbl)];simp only [Option.map_some,xhi];unfold gB;rw [hb];rfl
def vxf (m:Nat) (σ:List SV) (η:List SB):Bool:=(σ.all fun x=>(xx4 x).all fun b=>Nat.blt b m)&&((η.take m).all fun x=>(wnr x).all fun b=>Nat.blt b m)
theorem StH.cutB {σ:List SV} {η:List SB} (m:Nat) (hm:e.length<=m) (h:vxf m σ η=true):StH Γ e σ η σ (η.take m):=by
 unfold vxf at h;rw [Bool.and_eq_true,List.all_eq_true,List.all_eq_true] at h;refine StH.cut hm (fun i x hx b hb=>?_) (fun i x hi hx=>.inr fun b hb=>?_)
 . have:=h.1 x (List.mem_of_getElem? hx)
   rw [List.all_eq_true] at this;simpa using this b hb
 . have:=h.2 x (List.mem_of_getElem? (by rw [List.getElem?_take_of_lt hi];exact hx))
   rw [List.all_eq_true] at this;simpa using this b hb
theorem StH.back {σ σ':List SV} {η η':List SB} (ks:List Nat) (i j m:Nat) (hi:Nat.ble e.length i=true) (hj:Nat.ble e.length j=true) (hm:Nat.ble e.length m=true) (hil:Nat.blt i η.length=true) (hjl:Nat.blt j η.length=true) (h:vxf m ((xzq ks 0 σ).map (swSV i j)) (swL i j η)=true)
 (hk:StH Γ e ((xzq ks 0 σ).map (swSV i j)) ((swL i j η).take m) σ' η'):StH Γ e σ η σ' η':=
 StH.trans (StH.only ks) (StH.trans (StH.v2m (by simpa using hi) (by simpa using hj) (by simpa using hil) (by simpa using hjl)) (StH.trans (StH.cutB m (by simpa using hm) h) hk))
theorem StH.same {σ:List SV} {η:List SB} {σ':List SV} {η':List SB} (h:xll σ σ') (hη:η=η'):StH Γ e σ η σ' η':=hη▸StH.ygu h
theorem StH.done {σ σ':List SV} {η η':List SB} (m:Nat) (hm:Nat.ble e.length m=true) (h:vxf m σ η=true) (hσ:σ=σ') (hη:η.take m=η'):StH Γ e σ η σ' η':=
 hσ▸hη▸StH.cutB m (by simpa using hm) h
theorem w6y.of {φ:List Nat} {η ηs:List SB} (h:φ.map (fun j=>η[j]?)=ηs.map (fun x=>some (rnSB (atR φ η.length) x))):w6y φ η ηs:=by
 have hl:ηs.length=φ.length:=by
  have:=congrArg List.length h
  simpa using this.symm
 refine ⟨hl,fun i x hx=>?_⟩;have hi:i<ηs.length:=(List.getElem?_eq_some_iff.1 hx).1;refine ⟨φ[i]'(by omega),List.getElem?_eq_getElem _,?_⟩;have h1:=congrArg (fun l=>l[i]?) h;simp only [List.getElem?_map,hx,Option.map_some] at h1;rw [List.getElem?_eq_getElem (by omega)] at h1;simpa using h1
theorem xgj.at (φ:List Nat) {f:FuncId} {η ηs ηs':List SB} {args:List SV} {res:SV} (h:xgj Γ P f ηs args ηs' res) (hn:φ.Nodup) (hb:(φ.all fun j=>Nat.blt j η.length)=true)
 (hp:φ.map (fun j=>η[j]?)=ηs.map (fun x=>some (rnSB (atR φ η.length) x))) (hlen:Nat.ble φ.length ηs'.length=true):xgj Γ P f η (args.map (x09 (atR φ η.length))) (putR φ η ηs') (rnSV (atR φ η.length) res):=
 xgj.frame hn (fun j hj=>by simpa using List.all_eq_true.1 hb j hj) (w6y.of hp) (by simpa using hlen) h
theorem xmn (φ:List Nat) {f:FuncId} {η ηs ηs':List SB} {args l:List SV} {res:SV} {K:Bool->List SB->SV->Prop} (h:xgj Γ P f ηs args ηs' res) (hl:args.map (x09 (atR φ η.length))=l) (hn:φ.Nodup) (hb:(φ.all fun j=>Nat.blt j η.length)=true)
 (hp:φ.map (fun j=>η[j]?)=ηs.map (fun x=>some (rnSB (atR φ η.length) x))) (hlen:Nat.ble φ.length ηs'.length=true) (hk:K true (putR φ η ηs') (rnSV (atR φ η.length) res)):xw3 Γ P f η l K:=
 hl▸wq6 (xgj.at φ h hn hb hp hlen) hk
theorem veo {a b:ByteArray}:seq a b=decide (a=b):=by
 unfold seq;rw [ByteArray.toList_eq,ByteArray.toList_eq];by_cases h:a=b
 . rw [h];simp
 . rw [decide_eq_false h]
   have:a.data.toList≠b.data.toList:=fun he=>h (ByteArray.ext (Array.toList_inj.1 he))
   simpa using this
theorem vxl {s:ByteArray}:seq s ⟨#[]⟩=decide (s.size=0):=by
 rw [veo];refine decide_eq_decide.2 ⟨fun h=>by rw [h];rfl,fun h=>ByteArray.ext (Array.eq_empty_of_size_eq_zero h)⟩
theorem w8 {n:Int} (h:0<=n/\n<=255):IntKind.u8.wrap n=n:=by rw [IntKind.wrap_u8];omega
attribute [go_sem] w8
theorem vcj {n:Nat}:((n:Int)-1).toNat=n-1:=by omega
theorem yyk {n:Nat}:((n:Int)+1).toNat=n+1:=by omega
attribute [go_sem] vcj yyk
theorem x8h {σ:List SV} {t:Nat}:gt (σ.map vw) t=vw (gtS σ t):=v25 t
attribute [go_sem] x8h zo8 valB elemAt
attribute [go_sem] vxl ztq List.size_toArray List.length_map List.getD_cons_zero List.getD_cons_succ
attribute [go_sem] yml zzr xby eqOf litH zjl zka y9g usdH usH x8k z5u xga zqi eqL
attribute [go_sem] putR atR rnSB rnHC x09 rnSV List.zip_cons_cons List.zip_nil_left List.zip_nil_right List.drop_succ_cons
attribute [go_sem] swSV z0j swHC swSB sw List.map_nil
end Go.Hp
namespace Go.Hp.T
open Go Go.RowKit Go.Slot Go.Hp
set_option maxRecDepth 10000
theorem toD {Γ:List (Nat×List Cell)} {P:Program} {f:FuncId} {args:List AV} {res:AV} (h:CallsD Γ P f args res):CallsD Γ P f args res:=h
abbrev cI (n:Int):Cell:=.raw (.int .i64 n)
abbrev c8 (n:Int):Cell:=.raw (.int .u8 n)
abbrev cS (s:ByteArray):Cell:=.raw (.string s)
abbrev cB (b:Bool):Cell:=.raw (.bool b)
abbrev fN (f:FuncId):AV:=.one (.raw (.func (.func f) #[] #[]))
def z1x (s:ByteArray):List Int:=(List.range s.size).map (w7f s)
theorem v54 (s:ByteArray):(z1x s).length=s.size:=by simp [z1x]
theorem vh2 (s:ByteArray) (i:Nat) (h:i<s.size):(z1x s)[i]? = some (w7f s i):=by simp [z1x,h]
def vhr (p:Int->Bool) (s:ByteArray):Nat:=((z1x s).takeWhile p).length
theorem ylz {α:Type} (p:α->Bool):∀(l:List α) (n:Nat),n<=l.length->(∀ j x,j<n->l[j]? = some x->p x=true)->(n=l.length\/∃ x,l[n]? = some x/\p x=false)->(l.takeWhile p).length=n
 | [],n,hn,_,_=>by simp at hn;simp [hn]
 | a::l,0,_,_,h=>by
  rcases h with h | ⟨x,hx,hp⟩
  . simp at h
  . simp at hx;subst hx;simp [List.takeWhile,hp]
 | a::l,n+1,hn,hj,h=>by
  have ha:p a=true:=hj 0 a (by omega) rfl;rw [List.takeWhile_cons_of_pos ha,List.length_cons,ylz p l n (by simpa using hn) (fun j x h1 h2=>hj (j+1) x (by omega) (by simpa using h2)) ?_]
  rcases h with h | ⟨x,hx,hp⟩
  . exact .inl (by simpa using h)
  . exact .inr ⟨x,by simpa using hx,hp⟩
theorem w9k {p:Int->Bool} {s:ByteArray} {n:Nat} (hn:n<=s.size) (hj:∀ j,j<n->p (w7f s j)=true) (h:n=s.size\/p (w7f s n)=false):vhr p s=n:=by
 refine ylz p _ n (by rw [v54];exact hn) (fun j x h1 h2=>?_) ?_
 . rw [vh2 s j (by omega)] at h2;cases h2;exact hj j h1
 . by_cases e:n=s.size
   . exact .inl (by rw [v54];exact e)
   . rcases h with h | h
     . exact absurd h e
     . exact .inr ⟨_,vh2 s n (by omega),h⟩
theorem zhj (p:Int->Bool) (s:ByteArray):vhr p s<=s.size:=by
 have:=(List.takeWhile_sublist p (l:=z1x s)).length_le
 rw [v54] at this;exact this
def zlq (c:Int):Bool:=(decide (97<=c)&&decide (c<=122))||(decide (65<=c)&&decide (c<=90))
def isDigit (c:Int):Bool:=decide (48<=c)&&decide (c<=57)
def waz (c:Int):Bool:=zlq c||isDigit c||decide (c=95)
def yuk (c:Int):Bool:=decide (32<=c)&&decide (c<=126)
def isName (s:ByteArray):Bool:=decide (¬s.size=0)&&zlq (w7f s 0)&&decide ((s.size:Int)<=20)&&decide ((vhr waz s:Int)=s.size)
def x6w (s:ByteArray):Bool:=!(decide (400<(s.size:Int))||decide (¬(vhr yuk s:Int)=s.size))
def escB (c:Int):List Int:=bif decide (c=34)||decide (c=92) then [92,c] else [c]
def escA (s:ByteArray) (i:Nat):List Int:=34::((z1x s).take i).flatMap escB
def escS (s:ByteArray):ByteArray:=strOfNums (escA s s.size++[34])
theorem v4n {s:ByteArray} {i:Nat} (h:i<s.size):escA s (i+1)=escA s i++escB (w7f s i):=by
 unfold escA
 have:(z1x s).take (i+1)=(z1x s).take i++[w7f s i]:=by
  rw [List.take_add_one,vh2 s i h];rfl
 rw [this];simp
theorem zed (s:ByteArray) (i:Nat):x5a (w7f s i)=true:=by
 unfold x5a w7f
 have:=((s.data[i]?).getD 0).toNat_lt
 simp;omega
theorem y8b {c:Int} (h:x5a c=true):(escB c).all x5a=true:=by
 unfold escB
 have h':0<=c/\c<256:=by simpa [x5a] using h
 cases decide (c=34)||decide (c=92)<;>simp [x5a,h']
theorem xpq (s:ByteArray) (i:Nat):(escA s i).all x5a=true:=by
 have hb:∀ c∈z1x s,x5a c=true:=fun c hc=>by
  simp only [z1x,List.mem_map] at hc;obtain ⟨j,_,rfl⟩:=hc;exact zed s j
 unfold escA;rw [List.all_cons,Bool.and_eq_true];refine ⟨rfl,?_⟩;rw [List.all_flatMap,List.all_eq_true]
 exact fun c hc=>y8b (hb c (List.mem_of_mem_take hc))
theorem ysu (c:Int):(escB c).length<=2:=by unfold escB;cases decide (c=34)||decide (c=92)<;>simp
theorem vtr:∀ l:List Int,(l.flatMap escB).length<=2*l.length
 | []=>by simp
 | c::l=>by
  have:=vtr l
  have:=ysu c
  simp only [List.flatMap_cons,List.length_append,List.length_cons];omega
theorem z2i (s:ByteArray) (i:Nat):1<=(escA s i).length/\(escA s i).length<=1+2*s.size:=by
 unfold escA
 have:=vtr ((z1x s).take i)
 have h2:((z1x s).take i).length<=s.size:=by rw [List.length_take,v54];omega
 simp only [List.length_cons];omega
inductive Ex where
 | mk (op n:Int) (unit name:ByteArray) (args:List Ex)
def Ex.op:Ex->Int | .mk o _ _ _ _=>o
def Ex.n:Ex->Int | .mk _ n _ _ _=>n
def Ex.unit:Ex->ByteArray | .mk _ _ u _ _=>u
def Ex.name:Ex->ByteArray | .mk _ _ _ s _=>s
def Ex.args:Ex->List Ex | .mk _ _ _ _ l=>l
def Ex.zero:Ex:=.mk 0 0 ⟨#[]⟩ ⟨#[]⟩ []
instance:Inhabited Ex:=⟨Ex.zero⟩
theorem Ex.ind {Q:Ex->Prop} (h:∀ x:Ex,(∀ y∈x.args,Q y)->Q x):∀ x,Q x
 | .mk o n u s l=>h _ (fun y _hy=>Ex.ind h y)
termination_by x=>SizeOf.sizeOf x
decreasing_by
 have:=List.sizeOf_lt_of_mem (show y∈l from _hy)
 simp only [Ex.mk.sizeOf_spec];omega
mutual
def Ex.cells:Ex->List Cell
 | .mk o n u s l=>[cI o,cI n,cS u,cS s,.sl 5 (Ex.x19 l)]
def Ex.x19:List Ex->List (List Cell)
 | []=>[]
 | x::l=>Ex.cells x::Ex.x19 l
end
theorem Ex.zfj:∀ l:List Ex,Ex.x19 l=l.map Ex.cells
 | []=>by rw [Ex.x19];rfl
 | x::l=>by rw [Ex.x19,Ex.zfj l];rfl
abbrev exC (x:Ex):List Cell:=[cI x.op,cI x.n,cS x.unit,cS x.name,.sl 5 (x.args.map Ex.cells)]
theorem Ex.wrj (x:Ex):Ex.cells x=exC x:=by
 cases x with
 | mk o n u s l=>rw [Ex.cells,Ex.zfj];rfl
theorem getD_map' {α β:Type} [Inhabited α] (f:α->β) (d:β):∀(l:List α) (i:Nat),i<l.length->(l.map f).getD i d=f (l.getD i default)
 | [],_,h=>by simp at h
 | _::_,0,_=>rfl
 | _::l,i+1,h=>by simpa using getD_map' f d l i (by simpa using h)
theorem getD_map {α β:Type} [Inhabited α] {f:α->β} {d:β} {l:List α} {i:Nat} (h:i<l.length):(l.map f).getD i d=f (l.getD i default):=getD_map' f d l i h
attribute [go_sem] getD_map Ex.wrj
theorem xdq {α:Type} [Inhabited α] {l:List α} {i:Nat} (h:i<l.length):l.getD i default∈l:=by
 have:l.getD i default=l[i]:=by simp [h]
 rw [this];exact List.getElem_mem h
theorem wde {α:Type} [Inhabited α] {l:List α} {i:Nat} (h:i<l.length):l.drop i=l.getD i default::l.drop (i+1):=by
 have:l.getD i default=l[i]:=by simp [h]
 rw [this];exact List.drop_eq_getElem_cons h
theorem zea {α:Type} [Inhabited α] {l:List α} {i:Nat} (h:i<l.length):l.take (i+1)=l.take i++[l.getD i default]:=by
 have:l.getD i default=l[i]:=by simp [h]
 rw [this,List.take_add_one];simp [h]
inductive Ex.Sm:Ex->Prop
 | mk (x:Ex) (hl:x.args.length<=1073741824) (hu:x.unit.size<=1073741824) (hs:x.name.size<=1073741824) (h:∀ y∈x.args,Ex.Sm y):Ex.Sm x
theorem Ex.Sm.len {x:Ex} (h:x.Sm):x.args.length<=1073741824:=by cases h;assumption
theorem Ex.Sm.u {x:Ex} (h:x.Sm):x.unit.size<=1073741824:=by cases h;assumption
theorem Ex.Sm.s {x:Ex} (h:x.Sm):x.name.size<=1073741824:=by cases h;assumption
theorem Ex.Sm.arg {x:Ex} (h:x.Sm):∀ y∈x.args,y.Sm:=by cases h;assumption
def isWord (s:ByteArray):Bool:=seq s ⟨#[110,111,116]⟩||seq s ⟨#[105,102]⟩||seq s ⟨#[116,104,101,110]⟩||seq s ⟨#[101,108,115,101]⟩||seq s ⟨#[97,110,100]⟩||seq s ⟨#[111,114]⟩||seq s ⟨#[108,111,111,107]⟩||seq s ⟨#[109,105,110]⟩||seq s ⟨#[109,97,120]⟩||seq s ⟨#[105,110,116,111]⟩||seq s ⟨#[116,111]⟩||seq s ⟨#[97,115]⟩
def isNamed (s:ByteArray):Bool:=isName s&&!isWord s
def xeq (o:Int):ByteArray:=bif decide (o=6) then ⟨#[43]⟩ else bif decide (o=7) then ⟨#[45]⟩ else bif decide (o=8) then ⟨#[42]⟩ else bif decide (o=9) then ⟨#[47]⟩ else bif decide (o=12) then ⟨#[60]⟩ else bif decide (o=13) then ⟨#[61]⟩ else bif decide (o=14) then ⟨#[97,110,100]⟩ else bif decide (o=15) then ⟨#[111,114]⟩ else ⟨#[]⟩
def isOp (o:Int):Bool:=decide (o=6)||decide (o=7)||decide (o=8)||decide (o=9)||decide (o=12)||decide (o=13)||decide (o=14)||decide (o=15)
mutual
def Ex.cnt:Ex->Int->Int->Bool×Int
 | .mk _ _ _ _ l,n,lv=>bif decide (200<n+1)||decide (20<lv) then (false,n+1) else Ex.cntL l (n+1) (lv+1)
def Ex.cntL:List Ex->Int->Int->Bool×Int
 | [],n,_=>(true,n)
 | y::l,n,lv=>match Ex.cnt y n lv with
  | (false,m)=>(false,m)
  | (true,m)=>Ex.cntL l m lv
end
theorem Ex.zl2 (x:Ex) (n lv:Int):x.cnt n lv=bif decide (200<n+1)||decide (20<lv) then (false,n+1) else Ex.cntL x.args (n+1) (lv+1):=by cases x;rw [Ex.cnt];rfl
theorem Ex.zeu:∀(x:Ex) (n lv k:Int),x.cnt n lv=(true,k)->n<k/\k<=200:=by
 have hL:∀ l:List Ex,(∀ y∈l,∀(n lv k:Int),y.cnt n lv=(true,k)->n<k/\k<=200)->∀ n lv k:Int,n<=200->Ex.cntL l n lv=(true,k)->n<=k/\k<=200:=by
  intro l
  induction l with
  | nil=>intro _ n lv k hn h;rw [Ex.cntL] at h;cases h;omega
  | cons y l ih=>
   intro hy n lv k hn h;rw [Ex.cntL] at h;split at h
   . cases h
   . rename_i m hm;have h1:=hy y (by simp) _ _ _ hm;have h2:=ih (fun z hz=>hy z (by simp [hz])) _ _ _ h1.2 h;omega
 refine Ex.ind (fun x ih n lv k h=>?_);rw [Ex.zl2] at h;by_cases h1:200<n+1
 . simp [h1] at h
 . by_cases h2:20<lv
   . simp [h2] at h
   . simp only [h1,h2,decide_false,Bool.or_self,cond_false] at h
     have:=hL x.args ih _ _ _ (by omega) h
     omega
def w7g (x:Ex):Bool:=
 bif decide (x.op=0) then x6w x.unit&&decide (0<=x.n)&&decide (x.n<=1099511627776)&&decide (x.name.size=0)&&decide ((x.args.length:Int)=0) else
 bif decide (¬x.n=0)||decide (¬x.unit.size=0) then false else
 bif decide (x.op=1) then isNamed x.name&&decide ((x.args.length:Int)=0) else
 bif decide (x.op=2) then isNamed x.name&&decide ((x.args.length:Int)=1) else
 bif decide (x.op=3) then isNamed x.name&&decide (1<=(x.args.length:Int))&&decide ((x.args.length:Int)<=6) else
 bif decide (x.op=4) then decide (x.name.size=0)&&decide ((x.args.length:Int)=1) else
 bif decide (x.op=5) then decide (x.name.size=0)&&decide ((x.args.length:Int)=3) else
 bif decide (x.op=10)||decide (x.op=11) then decide (x.name.size=0)&&decide ((x.args.length:Int)=2) else
 isOp x.op&&decide (x.name.size=0)&&decide ((x.args.length:Int)=2)
mutual
def Ex.shaped:Ex->Bool
 | .mk o n u s l=>w7g (.mk o n u s l)&&Ex.vyj l
def Ex.vyj:List Ex->Bool
 | []=>true
 | y::l=>Ex.shaped y&&Ex.vyj l
end
theorem Ex.vos:∀ l:List Ex,Ex.vyj l=l.all Ex.shaped
 | []=>by rw [Ex.vyj];rfl
 | y::l=>by rw [Ex.vyj,Ex.vos l];rfl
theorem Ex.vjs (x:Ex):x.shaped=(w7g x&&x.args.all Ex.shaped):=by cases x;rw [Ex.shaped,Ex.vos];rfl
def z7n (x:Ex):Bool:=(x.cnt 0 1).1&&x.shaped
def idxF {α:Type} (p:α->Bool):List α->Int
 | []=>-1
 | x::l=>bif p x then 0 else bif decide (idxF p l = -1) then -1 else idxF p l+1
theorem zah {α:Type} (p:α->Bool):∀ l:List α,-1<=idxF p l
 | []=>by unfold idxF;omega
 | x::l=>by
  have:=zah p l
  unfold idxF
  cases p x with
  | true=>simp
  | false=>
   by_cases h:idxF p l = -1
   . simp [h]
   . simp [h];omega
theorem z1b {α:Type} (p:α->Bool):∀ l:List α,decide (0<=idxF p l)=l.any p
 | []=>rfl
 | x::l=>by
  have h2:=z1b p l;have h3:=zah p l;unfold idxF;rw [List.any_cons,<-h2]
  cases p x with
  | true=>simp
  | false=>
   by_cases h:idxF p l = -1
   . simp [h]
   . simp [h];omega
theorem xjj {α:Type} [Inhabited α] {p:α->Bool}:∀{l:List α} {i:Nat},i<=l.length->(∀ j,j<i->p (l.getD j default)=false)->(i=l.length->idxF p l = -1)/\(i<l.length->p (l.getD i default)=true->idxF p l=i)
 | [],i,hi,_=>by simp at hi;subst hi;exact ⟨fun _=>rfl,fun h=>by simp at h⟩
 | x::l,0,_,_=>⟨fun h=>by simp at h,fun _ h=>by unfold idxF;have:p x=true:=h;rw [this];rfl⟩
 | x::l,i+1,hi,hj=>by
  have h0:p x=false:=hj 0 (by omega);obtain ⟨h1,h2⟩:=xjj (l:=l) (i:=i) (by simpa using hi) (fun j hj'=>by simpa using hj (j+1) (by omega));unfold idxF;rw [h0];refine ⟨fun h=>?_,fun h hp=>?_⟩
  . rw [h1 (by simpa using h)];rfl
  . rw [h2 (by simpa using h) (by simpa using hp)]
    have:¬((i:Int) = -1):=by omega
    simp [this]
end Go.Hp.T
namespace Go.Hp
open Go Go.RowKit Go.Slot
variable {P:Program} {Γ:List (Nat×List Cell)} {e:List SB} {G:List (Nat×List GhH)}
def y5s (n m:Nat) (σ:List SV) (η:List SB):Bool:=(σ.all fun x=>(xx4 x).all fun b=>Nat.blt b m)&&(((η.take m).drop n).all fun x=>(wnr x).all fun b=>Nat.blt b m)
theorem StH.cutE {σ:List SV} {η:List SB} (m:Nat) (hm:e.length<=m) (he:η.take e.length=e) (h:y5s e.length m σ η=true):StH Γ e σ η σ (η.take m):=by
 unfold y5s at h;rw [Bool.and_eq_true,List.all_eq_true,List.all_eq_true] at h;refine StH.cut hm (fun i x hx b hb=>?_) (fun i x hi hx=>?_)
 . have:=h.1 x (List.mem_of_getElem? hx)
   rw [List.all_eq_true] at this;simpa using this b hb
 . by_cases hie:i<e.length
   . left
     rw [<-he,List.getElem?_take_of_lt hie];exact hx
   . right
     intro b hb
     have hmem:x∈(η.take m).drop e.length:=by
      have:((η.take m).drop e.length)[i-e.length]? = some x:=by
       rw [List.getElem?_drop,show e.length+(i-e.length)=i from by omega,List.getElem?_take_of_lt hi];exact hx
      exact List.mem_of_getElem? this
     have:=h.2 x hmem
     rw [List.all_eq_true] at this;simpa using this b hb
theorem StH.yri {σ σ':List SV} {η:List SB} (he:η.take e.length=e) (h:(σ.all fun x=>(xx4 x).all fun b=>Nat.blt b e.length)=true) (hσ:σ=σ'):StH Γ e σ η σ' e:=by
 have hc:y5s e.length e.length σ η=true:=by
  unfold y5s;rw [h,Bool.true_and,List.all_eq_true];intro x hx;rw [List.drop_eq_nil_of_le (by rw [List.length_take];omega)] at hx
  cases hx
 have:=StH.cutE (Γ:=Γ) (σ:=σ) e.length (Nat.le_refl _) he hc
 rw [he] at this;exact hσ▸this
def swLE (n i j:Nat) (η:List SB):List SB:=(List.range η.length).map fun k=>bif Nat.blt k n then gB η k else swSB i j (gB η (sw i j k))
theorem StH.wiq {σ:List SV} {η:List SB} {i j:Nat} (he:η.take e.length=e) (hi:e.length<=i) (hj:e.length<=j) (hil:i<η.length) (hjl:j<η.length):StH Γ e σ η (σ.map (swSV i j)) (swLE e.length i j η):=by
 refine StH.swap hi hj hil hjl (fun b x hb=>?_) (by simp [swLE]);have hbl:b<η.length:=(List.getElem?_eq_some_iff.1 hb).1;by_cases hbe:b<e.length
 . right
   refine ⟨by rw [<-he,List.getElem?_take_of_lt hbe];exact hb,?_⟩;unfold swLE;rw [List.getElem?_map,List.getElem?_range hbl]
   have hbt:Nat.blt b e.length=true:=by simpa using hbe
   have hg:gB η b=x:=by unfold gB;rw [hb];rfl
   simp only [Option.map_some,hbt,cond_true,hg]
 . left
   have hsw:e.length<=sw i j b:=by unfold sw;split<;>(try split)<;>omega
   unfold swLE;rw [List.getElem?_map,List.getElem?_range (wsy hil hjl hbl)]
   have h1:Nat.blt (sw i j b) e.length=false:=by
    have:¬(sw i j b<e.length):=by omega
    cases hh:Nat.blt (sw i j b) e.length with
    | false=>rfl
    | true=>exact absurd (by simpa using hh) this
   have hg:gB η b=x:=by unfold gB;rw [hb];rfl
   simp only [Option.map_some,xhi,h1,cond_false,hg]
theorem StH.x85 {σ σ':List SV} {η η':List SB} (ks:List Nat) (i j m:Nat) (he:η.take e.length=e) (he':(swLE e.length i j η).take e.length=e) (hi:Nat.ble e.length i=true) (hj:Nat.ble e.length j=true) (hm:Nat.ble e.length m=true) (hil:Nat.blt i η.length=true) (hjl:Nat.blt j η.length=true)
 (h:y5s e.length m ((xzq ks 0 σ).map (swSV i j)) (swLE e.length i j η)=true) (hk:StH Γ e ((xzq ks 0 σ).map (swSV i j)) ((swLE e.length i j η).take m) σ' η'):StH Γ e σ η σ' η':=
 StH.trans (StH.only ks) (StH.trans (StH.wiq he (by simpa using hi) (by simpa using hj) (by simpa using hil) (by simpa using hjl)) (StH.trans (StH.cutE m (by simpa using hm) he' h) hk))
def dzS (η:List SB):SV->SV×List Nat
 | .one h=>match xvg η h with
  | some (c,bs)=>(.one (.dat c),bs)
  | none=>(.one h,[])
 | x=>(x,[])
def dzL (η:List SB):List SV->List SV
 | []=>[]
 | x::l=>(dzS η x).1::dzL η l
def dzB (η:List SB):List SV->List Nat
 | []=>[]
 | x::l=>(dzS η x).2++dzB η l
theorem zbr {η:List SB} {x:SV}:∀ b∈(dzS η x).2,y20 (gB η b)=true:=by
 intro b hb;unfold dzS at hb;split at hb
 . split at hb
   . rename_i hd;exact zzt hd b hb
   . cases hb
 . cases hb
theorem vqz {η:List SB}:∀{l:List SV},∀ b∈dzB η l,y20 (gB η b)=true
 | [],b,hb=>by cases hb
 | x::l,b,hb=>by
  rcases List.mem_append.1 hb with h | h
  . exact zbr b h
  . exact vqz b h
theorem zlr {Mo:Nat->Nat->Prop} {ρ:Nat->Value} {η η':List SB} {w:World} (hI:HInv Γ Mo ρ η' w):∀{l:List SV} {vs:List Value},(∀ b∈dzB η l,gB η' b=frzB (gB η b))->SRL η' ρ (MX Mo ρ η') w vs l->SRL η' ρ (MX Mo ρ η') w vs (dzL η l)
 | [],[],_,_=>trivial
 | [],_::_,_,h=>h.elim
 | _::_,[],_,h=>h.elim
 | x::l,v::vs,hf,h=>by
  refine ⟨?_,zlr hI (fun b hb=>hf b (List.mem_append.2 (.inr hb))) h.2⟩;have h1:=h.1
  cases x with
  | one y=>
   cases hd:xvg η y with
   | none=>
    have:dzS η (.one y)=(.one y,[]):=by unfold dzS;simp only [hd]
    rw [this];exact h1
   | some p=>
    obtain ⟨c,bs⟩:=p
    have he:dzS η (.one y)=(.one (.dat c),bs):=by unfold dzS;simp only [hd]
    rw [he];exact y98 hI hd (fun b hb=>hf b (List.mem_append.2 (.inl (by rw [he];exact hb)))) h1
  | _=>exact h1
theorem xgj.frz {f:FuncId} {η η':List SB} {l:List SV} {res:SV} (h:xgj Γ P f (appL (frzE η (dzB η l)) η) (dzL η l) η' res):xgj Γ P f η l η' res:=by
 refine ⟨h.1,fun Mo ρ w vs hI hsr=>?_⟩;obtain ⟨h1,_,h3⟩:=Went.frz (dzB η l) η hI rfl vqz (fun _=>.inl rfl);refine (h.2 Mo ρ w vs h1.inv (zlr h1.inv h3 (hsr.mv h1.mv))).mono ?_;rintro x w' ⟨v,ρ',rfl,hw,hv⟩;exact ⟨v,ρ',rfl,h1.trans hw,hv⟩
def envM {α:Type} (C:α->SV):List (ByteArray×α)->List (Value×SV)
 | []=>[]
 | p::l=>(.string p.1,C p.2)::envM C l
def vkc {α:Type}:List (ByteArray×α)->ByteArray->Option α
 | [],_=>none
 | p::l,s=>bif seq s p.1 then some p.2 else vkc l s
def updF {α:Type}:List (ByteArray×α)->ByteArray->α->List (ByteArray×α)
 | [],s,v=>[(s,v)]
 | p::l,s,v=>bif seq s p.1 then (s,v)::l else p::updF l s v
theorem ybv {α:Type} (C:α->SV):∀ l:List (ByteArray×α),(envM C l).length=l.length
 | []=>rfl
 | _::l=>by rw [envM,List.length_cons,ybv C l];rfl
theorem w5w {a b:ByteArray}:seq a b=seq b a:=by rw [veo,veo];exact decide_eq_decide.2 eq_comm
theorem z4o {α:Type} {C:α->SV} {s:ByteArray}:∀{l:List (ByteArray×α)},y1p (envM C l) (.string s)=some ((vkc l s).map C)
 | []=>rfl
 | p::l=>by
  have ih:=z4o (C:=C) (s:=s) (l:=l);simp only [envM,y1p,kEq,vkc];rw [ih]
  first
   | (cases seq s p.1<;>rfl)
   | (rw [w5w];cases seq s p.1<;>rfl)
theorem xr5 {α:Type} {C:α->SV} {s:ByteArray} {v:α}:∀{l:List (ByteArray×α)},updM (envM C l) (.string s) (C v)=some (envM C (updF l s v))
 | []=>rfl
 | p::l=>by
  have ih:=xr5 (C:=C) (s:=s) (v:=v) (l:=l);simp only [envM,updM,kEq,updF];rw [ih]
  first
   | (cases seq s p.1<;>rfl)
   | (rw [w5w];cases seq s p.1<;>rfl)
attribute [go_sem] z4o ybv
end Go.Hp
namespace Go.Hp.T
open Go Go.RowKit Go.Slot Go.Hp
set_option maxRecDepth 10000
structure Dm where
 a:Int
 b:Int
 c:Int
 d:Int
 e:Int
 f:Int
deriving DecidableEq
def Dm.zero:Dm:=⟨0,0,0,0,0,0⟩
instance:Inhabited Dm:=⟨Dm.zero⟩
abbrev dmC (x:Dm):List Cell:=[cI x.a,cI x.b,cI x.c,cI x.d,cI x.e,cI x.f]
def bad9 (n:Int):Bool:=decide (n < -9)||decide (9<n)
def vk8 (x:Dm):Bool:=!bad9 x.a&&!bad9 x.b&&!bad9 x.c&&!bad9 x.d&&!bad9 x.e&&!bad9 x.f
theorem xpj {x:Dm} (h:vk8 x=true):(-9<=x.a/\x.a<=9)/\(-9<=x.b/\x.b<=9)/\(-9<=x.c/\x.c<=9)/\(-9<=x.d/\x.d<=9)/\(-9<=x.e/\x.e<=9)/\(-9<=x.f/\x.f<=9):=by
 simp only [vk8,bad9,Bool.and_eq_true,Bool.not_eq_true',Bool.or_eq_false_iff,decide_eq_false_iff_not] at h;omega
def Dm.add (x y:Dm):Dm:=⟨x.a+y.a,x.b+y.b,x.c+y.c,x.d+y.d,x.e+y.e,x.f+y.f⟩
def Dm.sub (x y:Dm):Dm:=⟨x.a-y.a,x.b-y.b,x.c-y.c,x.d-y.d,x.e-y.e,x.f-y.f⟩
def wz1 (x:Dm):Dm×Int:=bif vk8 x then (x,0) else (Dm.zero,3)
def dMul (x y:Dm):Dm×Int:=bif !vk8 x||!vk8 y then (Dm.zero,1) else wz1 (x.add y)
def dDiv (x y:Dm):Dm×Int:=bif !vk8 x||!vk8 y then (Dm.zero,1) else wz1 (x.sub y)
theorem zlb {x y:Dm}:(decide (x.a=y.a)&&(decide (x.b=y.b)&&(decide (x.c=y.c)&&(decide (x.d=y.d)&&(decide (x.e=y.e)&&decide (x.f=y.f))))))=decide (x=y):=by
 cases x;cases y;simp only [<-Bool.decide_and,Dm.mk.injEq]
structure Ty where
 t:Bool
 d:Dm
deriving DecidableEq
def Ty.zero:Ty:=⟨false,Dm.zero⟩
instance:Inhabited Ty:=⟨Ty.zero⟩
def Ty.C (x:Ty):List Cell:=cB x.t::dmC x.d
abbrev tyC (x:Ty):List Cell:=[cB x.t,cI x.d.a,cI x.d.b,cI x.d.c,cI x.d.d,cI x.d.e,cI x.d.f]
theorem Ty.C_eq (x:Ty):x.C=tyC x:=rfl
attribute [go_sem] Ty.C_eq zlb
abbrev tyR (r:Ty×Int):AV:=.tup [.agg (tyC r.1),.one (cI r.2)]
abbrev tyS (r:Ty×Int):SV:=.tup [.agg ((tyC r.1).map .dat),.one (.dat (cI r.2))]
mutual
def Ex.yp0:Ex->Bool
 | .mk o _ _ _ l=>decide (o=3)||Ex.wvi l
def Ex.wvi:List Ex->Bool
 | []=>false
 | y::l=>Ex.yp0 y||Ex.wvi l
end
theorem Ex.zm4:∀ l:List Ex,Ex.wvi l=l.any Ex.yp0
 | []=>by rw [Ex.wvi];rfl
 | y::l=>by rw [Ex.wvi,Ex.zm4 l];rfl
theorem Ex.ze7 (x:Ex):x.yp0=(decide (x.op=3)||x.args.any Ex.yp0):=by cases x;rw [Ex.yp0,Ex.zm4];rfl
def wvd (a b r:Ty):Ty×Int:=bif a.t||b.t then (Ty.zero,13) else bif !decide (a.d=b.d) then (Ty.zero,14) else (r,0)
def z3o (o:Int) (a b:Ty):Ty×Int:=bif a.t||b.t then (Ty.zero,13) else
 bif !decide ((bif decide (o=9) then dDiv a.d b.d else dMul a.d b.d).2=0) then (Ty.zero,14) else (⟨false,(bif decide (o=9) then dDiv a.d b.d else dMul a.d b.d).1⟩,0)
def yx1 (l:List Ty):Ty×Int:=bif l.any (fun t=>!t.t) then (Ty.zero,13) else (⟨true,Dm.zero⟩,0)
def envE (l:List (ByteArray×Dm)):List (Value×SV):=envM (fun d=>.agg ((dmC d).map .dat)) l
def xti (T:List (ByteArray×Dm)) (s:ByteArray) (k:Ty):Ty×Int:=match vkc T s with
 | none=>(Ty.zero,11)
 | some d=>bif k.t then (Ty.zero,13) else bif !decide (k.d=Dm.zero) then (Ty.zero,14) else (⟨false,d⟩,0)
def zqp (T:List (ByteArray×Dm)) (o:Int) (nm:ByteArray) (ts:List Ty):Ty×Int:=
 bif decide (o=2) then xti T nm (ts.getD 0 default) else
 bif decide (o=6)||decide (o=7)||decide (o=10)||decide (o=11) then wvd (ts.getD 0 default) (ts.getD 1 default) (ts.getD 0 default) else
 bif decide (o=12)||decide (o=13) then wvd (ts.getD 0 default) (ts.getD 1 default) ⟨true,Dm.zero⟩ else
 bif decide (o=8)||decide (o=9) then z3o o (ts.getD 0 default) (ts.getD 1 default) else
 bif decide (o=5) then (bif !(ts.getD 0 default).t then (Ty.zero,13) else wvd (ts.getD 1 default) (ts.getD 2 default) (ts.getD 1 default)) else
 yx1 ts
structure Rw where
 k:Int
 v:Int
instance:Inhabited Rw:=⟨⟨0,0⟩⟩
def Rw.C (x:Rw):List Cell:=[cI x.k,cI x.v]
abbrev rwC (x:Rw):List Cell:=[cI x.k,cI x.v]
theorem Rw.C_eq (x:Rw):x.C=rwC x:=rfl
structure Tb where
 name:ByteArray
 unit:ByteArray
 rows:List Rw
instance:Inhabited Tb:=⟨⟨⟨#[]⟩,⟨#[]⟩,[]⟩⟩
def Tb.C (x:Tb):List Cell:=[cS x.name,cS x.unit,.sl 2 (x.rows.map Rw.C)]
abbrev tbC (x:Tb):List Cell:=[cS x.name,cS x.unit,.sl 2 (x.rows.map Rw.C)]
theorem Tb.C_eq (x:Tb):x.C=tbC x:=rfl
structure Vr where
 name:ByteArray
 d:Dm
instance:Inhabited Vr:=⟨⟨⟨#[]⟩,Dm.zero⟩⟩
def Vr.C (x:Vr):List Cell:=[cS x.name,cI x.d.a,cI x.d.b,cI x.d.c,cI x.d.d,cI x.d.e,cI x.d.f]
abbrev vrC (x:Vr):List Cell:=[cS x.name,cI x.d.a,cI x.d.b,cI x.d.c,cI x.d.d,cI x.d.e,cI x.d.f]
theorem Vr.C_eq (x:Vr):x.C=vrC x:=rfl
attribute [go_sem] Rw.C_eq Tb.C_eq Vr.C_eq
def inT (n:Int):Bool:=decide (-1099511627776<=n)&&decide (n<=1099511627776)
def rowAt (l:List Rw) (i:Nat):Bool:=inT (l.getD i default).k&&inT (l.getD i default).v&&!(decide (0<(i:Int))&&decide ((l.getD i default).k<=(l.getD (i-1) default).k))
def zoo (l:List Rw):Bool:=(List.range l.length).all (rowAt l)
theorem ve5 {p:Nat->Bool} {n:Nat}:(∀ j,j<n->p j=true)->(List.range n).all p=true:=fun h=>by
 rw [List.all_eq_true];exact fun x hx=>h x (List.mem_range.1 hx)
theorem v2i {p:Nat->Bool} {n j:Nat} (hj:j<n) (h:p j=false):(List.range n).all p=false:=by
 cases ha:(List.range n).all p with
 | false=>rfl
 | true=>rw [List.all_eq_true.1 ha j (List.mem_range.2 hj)] at h;cases h
def xnl (uerr:ByteArray->Int) (t:Tb):Bool:=!decide (¬uerr t.unit=0)&&isName t.name&&!decide (100<(t.rows.length:Int))&&zoo t.rows
theorem w9q {p:Nat->Prop} {i:Nat} (h:∀ j,j<i->p j) (hi:p i):∀ j,j<i+1->p j:=fun j hj=>by
 rcases Nat.lt_or_eq_of_le (Nat.le_of_lt_succ hj) with h2 | h2
 . exact h j h2
 . rw [h2];exact hi
theorem zrs {T:List (ByteArray×Dm)} {s:ByteArray}:y1p (envE T) (.string s)=some ((vkc T s).map fun d=>.agg ((dmC d).map .dat)):=z4o
theorem vnd (T:List (ByteArray×Dm)):(envE T).length=T.length:=ybv _ T
theorem z3p {T:List (ByteArray×Dm)} {s:ByteArray} {d:Dm}:updM (envE T) (.string s) (.agg [.dat (cI d.a),.dat (cI d.b),.dat (cI d.c),.dat (cI d.d),.dat (cI d.e),.dat (cI d.f)])=some (envE (updF T s d)):=xr5 (C:=fun d=>.agg ((dmC d).map .dat))
attribute [go_sem] zrs vnd z3p
end Go.Hp.T
namespace Go.Hp.T
open Go Go.RowKit Go.Slot Go.Hp Go.Slot.T
open Go.Proofs.Tryz (prog)
attribute [local irreducible] hide RH
set_option maxRecDepth 10000
set_option maxHeartbeats 4000000
variable {Γ:List (Nat×List Cell)}
abbrev dmB (x:Dm):SB:=.box ((dmC x).map .dat) (some 52)
theorem yu2 (x:Dm):CallsD Γ prog 60 [.agg (dmC x)] (.one (cB (vk8 x))):=by
 refine CallsD.run [] Go.Proofs.Tryz.func60 rfl rfl rfl ?_;simp only [Go.Proofs.Tryz.f60];refine hgR ?_
 repeat' ((first | refine hfk ?_ ?_<;>intros | refine hik ?_ | with_reducible refine z7r ?_ | with_reducible refine wd2 ?_)<;>refine hgS ?_)
 all_goals refine lf2 @vk8.eq_def @bad9.eq_def ?_;first | exact trivial | rfl
theorem ykv (x y:Dm) (hx:vk8 x=true) (hy:vk8 y=true):∀ k:Nat,k<6->xgj Γ prog 144 [dmB x,dmB y] [.one (.dat (cI k)),.one (.ptr 0 0),.one (.ptr 1 0)] [dmB x,dmB y] (.one (.dat ((dmC (x.add y)).getD k .zc))):=by
 have h1:=xpj hx;have h2:=xpj hy;intro k hk
 have:k=0\/k=1\/k=2\/k=3\/k=4\/k=5:=by omega
 rcases this with rfl | rfl | rfl | rfl | rfl | rfl
 all_goals
  refine xgj.run [] Go.Proofs.Tryz.func144 rfl rfl ?_;simp only [Go.Proofs.Tryz.f144];refine hgR ?_
  repeat' ((first | refine hfk ?_ ?_<;>intros | refine hik ?_)<;>refine hgS ?_)
  exact StH.refl
theorem z8o (x y:Dm) (hx:vk8 x=true) (hy:vk8 y=true):∀ k:Nat,k<6->xgj Γ prog 145 [dmB x,dmB y] [.one (.dat (cI k)),.one (.ptr 0 0),.one (.ptr 1 0)] [dmB x,dmB y] (.one (.dat ((dmC (x.sub y)).getD k .zc))):=by
 have h1:=xpj hx;have h2:=xpj hy;intro k hk
 have:k=0\/k=1\/k=2\/k=3\/k=4\/k=5:=by omega
 rcases this with rfl | rfl | rfl | rfl | rfl | rfl
 all_goals
  refine xgj.run [] Go.Proofs.Tryz.func145 rfl rfl ?_;simp only [Go.Proofs.Tryz.f145];refine hgR ?_
  repeat' ((first | refine hfk ?_ ?_<;>intros | refine hik ?_)<;>refine hgS ?_)
  exact StH.refl
theorem yo2 (f:FuncId) (x y z:Dm) (h:∀ k:Nat,k<6->xgj Γ prog f [dmB x,dmB y] [.one (.dat (cI k)),.one (.ptr 0 0),.one (.ptr 1 0)] [dmB x,dmB y] (.one (.dat ((dmC z).getD k .zc)))) :
 xgj Γ prog 143 [dmB x,dmB y,.clo f [.one (.ptr 0 0),.one (.ptr 1 0)]] [.one (.fnr 2)] [dmB x,dmB y,.clo f [.one (.ptr 0 0),.one (.ptr 1 0)]] (.tup [.agg ((dmC (wz1 z).1).map .dat),.one (.dat (cI (wz1 z).2))]):=by
 refine xgj.run [] Go.Proofs.Tryz.func143 rfl rfl ?_;simp only [Go.Proofs.Tryz.f143];refine hgR ?_
 repeat' ((first | refine hfk ?_ ?_<;>intros | refine hik ?_ | with_reducible refine z7r ?_ | with_reducible refine wd2 ?_)<;>refine hgS ?_)
 refine xmn [0,1] (h 0 (by decide)) rfl (by decide) rfl rfl rfl ?_;refine hg ?_
 repeat' ((first | refine hfk ?_ ?_<;>intros | refine hik ?_ | with_reducible refine z7r ?_ | with_reducible refine wd2 ?_)<;>refine hgS ?_)
 refine xmn [0,1] (h 1 (by decide)) rfl (by decide) rfl rfl rfl ?_;refine hg ?_
 repeat' ((first | refine hfk ?_ ?_<;>intros | refine hik ?_ | with_reducible refine z7r ?_ | with_reducible refine wd2 ?_)<;>refine hgS ?_)
 refine xmn [0,1] (h 2 (by decide)) rfl (by decide) rfl rfl rfl ?_;refine hg ?_
 repeat' ((first | refine hfk ?_ ?_<;>intros | refine hik ?_ | with_reducible refine z7r ?_ | with_reducible refine wd2 ?_)<;>refine hgS ?_)
 refine xmn [0,1] (h 3 (by decide)) rfl (by decide) rfl rfl rfl ?_;refine hg ?_
 repeat' ((first | refine hfk ?_ ?_<;>intros | refine hik ?_ | with_reducible refine z7r ?_ | with_reducible refine wd2 ?_)<;>refine hgS ?_)
 refine xmn [0,1] (h 4 (by decide)) rfl (by decide) rfl rfl rfl ?_;refine hg ?_
 repeat' ((first | refine hfk ?_ ?_<;>intros | refine hik ?_ | with_reducible refine z7r ?_ | with_reducible refine wd2 ?_)<;>refine hgS ?_)
 refine xmn [0,1] (h 5 (by decide)) rfl (by decide) rfl rfl rfl ?_;refine hg ?_
 repeat' ((first | refine hfk ?_ ?_<;>intros | refine hik ?_ | with_reducible refine z7r ?_ | with_reducible refine wd2 ?_ | with_reducible first | refine v47 (yu2 z) ?_ | refine vrf (yu2 z) ?_)<;>refine hgS ?_)
 all_goals
  rename_i hz;refine StH.done 3 rfl (by kernel_rfl) ?_ rfl;simp only [wz1,hz,cond_true,cond_false]
  try rfl
theorem zp1 (x y:Dm):CallsD Γ prog 114 [.agg (dmC x),.agg (dmC y)] (.tup [.agg (dmC (dMul x y).1),.one (cI (dMul x y).2)]):=by
 refine CallsD.run [(3,[.clo])] Go.Proofs.Tryz.func114 rfl rfl rfl ?_;simp only [Go.Proofs.Tryz.f114];refine hgR ?_
 repeat' ((first | refine hfk ?_ ?_<;>intros | refine hik ?_ | with_reducible first | refine v47 (yu2 x) ?_ | refine vrf (yu2 x) ?_ | refine v47 (yu2 y) ?_ | refine vrf (yu2 y) ?_)<;>refine hgS ?_)
 . refine lf1 @dMul.eq_def ?_;first | exact trivial | rfl
 . rename_i hx hy;refine xmn [0,1,3] (yo2 _ x y (x.add y) (ykv x y hx hy)) rfl (by decide) rfl rfl rfl ?_;refine hg ?_;exact RLe.ofEq (by simp only [dMul,hx,hy];rfl)
 . refine lf1 @dMul.eq_def ?_;first | exact trivial | rfl
theorem wdc (x y:Dm):CallsD Γ prog 115 [.agg (dmC x),.agg (dmC y)] (.tup [.agg (dmC (dDiv x y).1),.one (cI (dDiv x y).2)]):=by
 refine CallsD.run [(3,[.clo])] Go.Proofs.Tryz.func115 rfl rfl rfl ?_;simp only [Go.Proofs.Tryz.f115];refine hgR ?_
 repeat' ((first | refine hfk ?_ ?_<;>intros | refine hik ?_ | with_reducible first | refine v47 (yu2 x) ?_ | refine vrf (yu2 x) ?_ | refine v47 (yu2 y) ?_ | refine vrf (yu2 y) ?_)<;>refine hgS ?_)
 . refine lf1 @dDiv.eq_def ?_;first | exact trivial | rfl
 . rename_i hx hy;refine xmn [0,1,3] (yo2 _ x y (x.sub y) (z8o x y hx hy)) rfl (by decide) rfl rfl rfl ?_;refine hg ?_;exact RLe.ofEq (by simp only [dDiv,hx,hy];rfl)
 . refine lf1 @dDiv.eq_def ?_;first | exact trivial | rfl
end Go.Hp.T
