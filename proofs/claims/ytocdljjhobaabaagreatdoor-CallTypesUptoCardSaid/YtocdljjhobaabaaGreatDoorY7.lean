/- The proof, part Y7: Mp, Mq, Mr, Mx, My, Ha. -/
import Derived.Test.YtocdljjhobaabaaGreatDoorY6
import Derived.Test.YtocdljjhobaabaaGreatDoorY2
namespace Go.Slot
open Go Go.RowKit
variable {P:Program}
def litE (σ:List AV) (d:Nat) (rd:List Nat) (se:List (Nat×AV)) (b:Bool):Option AV->OR
 | some (.one c)=>match b,nh σ d with
  | true,true=>.eff (d::(rd++se.map (·.1))) [d] (se++[(d,.one (.tok d c))])
  | _,_=>.bad
 | _=>.bad
theorem wsx (es:Nat):∀(n:Nat) (cs:List Cell),cs.length=n*es->(chunk es n cs).flatten=cs
 | 0,cs,h=>by
  have:cs=[]:=List.eq_nil_of_length_eq_zero (by simpa using h)
  subst this;rfl
 | n+1,cs,h=>by
  rw [Nat.add_mul,Nat.one_mul] at h;simp only [chunk,List.flatten_cons];rw [wsx es n (cs.drop es) (by simp;omega),List.take_append_drop]
theorem wk8 (es:Nat):∀(n:Nat) (cs:List Cell),cs.length=n*es->∀ r∈chunk es n cs,r.length=es
 | 0,cs,_=>fun r hr=>by cases hr
 | n+1,cs,h=>fun r hr=>by
  rw [Nat.add_mul,Nat.one_mul] at h;simp only [chunk] at hr
  rcases List.mem_cons.1 hr with rfl | hr
  . simp;omega
  . exact wk8 es n (cs.drop es) (by simp;omega) r hr
def vrc (es:Nat):Option IntKind->Cell
 | some k=>.ints k []
 | none=>.sl es []
def isZc:Cell->Bool
 | .zc=>true
 | .raw (.slice none 0 0)=>true
 | _=>false
def zcAt:AV->Bool
 | .one c=>isZc c
 | _=>false
def ownN:Option Cell->Option AV
 | some c'=>if c'.cnt≠0 then some (.arr [] c' none) else none
 | none=>none
def wzn (σ:List AV) (ti:TI) (x y:Operand):Option AV:=match ti.sh with
 | .slice _ es eb ik=>match zcAt (opd σ x) with
  | true=>match opd σ y with
   | .one cy=>ownN (wek es eb ik (vrc es ik) cy.bare)
   | _=>none
  | false=>none
 | _=>none
theorem vwb {M:Nat->Nat->Prop} {w:World} {τ:Nat->TV} {v:Value} {c:Cell} (h:isZc c=true) (hr:RdT M w τ v c):∃ ad,v=.slice ad 0 0:=by
 unfold isZc at h;split at h
 . have hr:RdC M w v .zc:=hr
   cases hr;exact ⟨_,rfl⟩
 . exact ⟨none,RdC.xcn hr⟩
 . cases h
def opA0 (P:Program) (σ:List AV) (o:Oper):OR:=if isX σ o.op=true then .of (opX P σ o) else opB P σ o
theorem zbe {σ:List AV} {o:Oper} {rd tk:List Nat} {eff:List (Nat×AV)} (h:opA0 P σ o=.eff rd tk eff):ztu P o σ rd tk eff/\(∀ t∈tk,∀ i,(gt σ i).y1a t->i∈rd):=by
 unfold opA0 at h;split at h
 . unfold OR.of at h;split at h
   . rename_i rd' e hx
     cases h;exact ⟨wti hx,fun t ht=>by cases ht⟩
   . cases h
 . exact v42 h
def wp9 (c b:Bool) (X Y:Bool->Prop):Prop:=(c=b->X true)/\(c=(!b)->Y true)
def zht (c:Bool) (X Y:Bool->Prop):Prop:=(c=true->X true)/\(c=false->Y true)
def vdl:Code->Option Nat
 | .region id _ _=>some id
 | .seq x _=>vdl x
 | .block _ x=>vdl x
 | .loop x=>vdl x
 | _=>none
def seqF (c:Bool) (A B:Bool->Prop):Prop:=match c with
 | true=>A true
 | false=>B true
abbrev U {α:Type} (_:α):Type:=Unit
def hide {α:Type} (f:α) (_:U f):α:=f
theorem wdf {f:Bool->Prop} {u:U f} {b:Bool}:hide f u b=f b:=_root_.id rfl
theorem yff {f:Bool->AV->Prop} {u:U f} {b:Bool} {r:AV}:hide f u b r=f b r:=_root_.id rfl
def tick {α:Type} (x:α):α:=x
theorem ytr:tick true=true:=_root_.id rfl
theorem z0g:tick false=false:=_root_.id rfl
theorem wan {A B:Bool->Prop}:seqF true A B=A true:=_root_.id rfl
theorem x2n {A B:Bool->Prop}:seqF false A B=B true:=_root_.id rfl
theorem ysn {c c':Bool} {A B:Bool->Prop} (h:c=c'):seqF c A B=seqF c' A B:=by rw [h]
section
variable {next:Bool->List AV->Prop} {Q:Exit->Bool->List AV->Prop}
end
section
variable {o:Oper} {σ:List AV} {b:Bool} {k:Bool->List Nat->List Nat->List (Nat×AV)->Prop} {rd tk:List Nat} {e:List (Nat×AV)} {f:FuncId} {args:List AV}
end
theorem x5e {X Y:Bool->Prop}:wp9 true true X Y=X true:=by simp [wp9]
theorem wud {X Y:Bool->Prop}:wp9 false false X Y=X true:=by simp [wp9]
theorem vzo {X Y:Bool->Prop}:wp9 true false X Y=Y true:=by simp [wp9]
theorem vx9 {X Y:Bool->Prop}:wp9 false true X Y=Y true:=by simp [wp9]
theorem zcw {X Y:Bool->Prop}:zht true X Y=X true:=by simp [zht]
theorem z1n {X Y:Bool->Prop}:zht false X Y=Y true:=by simp [zht]
section
variable {o o':Oper} {σ σ':List AV} {b:Bool} {k:Bool->List Nat->List Nat->List (Nat×AV)->Prop}
theorem v2x {c c':Bool} {X Y:Bool->Prop} (h:c=c'):zht c X Y=zht c' X Y:=by rw [h]
end
theorem z8l {a:AV} {σ:List AV}:gt (a::σ) 0=a:=rfl
theorem vae {a:AV} {σ:List AV} {n:Nat}:gt (a::σ) (n+1)=gt σ n:=rfl
theorem x6r {a:AV} {σ:List AV}:nh (a::σ) 0 = !a.xeo:=rfl
theorem z6p {a:AV} {σ:List AV} {n:Nat}:nh (a::σ) (n+1)=nh σ n:=rfl
section
variable {a0 a1 a2 a3 a4 a5 a6 a7 a8 a9 a10 a11 a12 a13 a14 a15 x:AV} {r:List AV} {n:Nat}
theorem vzx:gt (ch a0 a1 a2 a3 a4 a5 a6 a7 a8 a9 a10 a11 a12 a13 a14 a15 r) 0=a0:=rfl
theorem y5x:nh (ch a0 a1 a2 a3 a4 a5 a6 a7 a8 a9 a10 a11 a12 a13 a14 a15 r) 0 = !a0.xeo:=rfl
theorem wdx:(ch a0 a1 a2 a3 a4 a5 a6 a7 a8 a9 a10 a11 a12 a13 a14 a15 r).set 0 x=ch x a1 a2 a3 a4 a5 a6 a7 a8 a9 a10 a11 a12 a13 a14 a15 r:=rfl
theorem ymb:gt (ch a0 a1 a2 a3 a4 a5 a6 a7 a8 a9 a10 a11 a12 a13 a14 a15 r) 1=a1:=rfl
theorem zuk:nh (ch a0 a1 a2 a3 a4 a5 a6 a7 a8 a9 a10 a11 a12 a13 a14 a15 r) 1 = !a1.xeo:=rfl
theorem wwk:(ch a0 a1 a2 a3 a4 a5 a6 a7 a8 a9 a10 a11 a12 a13 a14 a15 r).set 1 x=ch a0 x a2 a3 a4 a5 a6 a7 a8 a9 a10 a11 a12 a13 a14 a15 r:=rfl
theorem zsz:gt (ch a0 a1 a2 a3 a4 a5 a6 a7 a8 a9 a10 a11 a12 a13 a14 a15 r) 2=a2:=rfl
theorem x0u:nh (ch a0 a1 a2 a3 a4 a5 a6 a7 a8 a9 a10 a11 a12 a13 a14 a15 r) 2 = !a2.xeo:=rfl
theorem yh3:(ch a0 a1 a2 a3 a4 a5 a6 a7 a8 a9 a10 a11 a12 a13 a14 a15 r).set 2 x=ch a0 a1 x a3 a4 a5 a6 a7 a8 a9 a10 a11 a12 a13 a14 a15 r:=rfl
theorem z3n:gt (ch a0 a1 a2 a3 a4 a5 a6 a7 a8 a9 a10 a11 a12 a13 a14 a15 r) 3=a3:=rfl
theorem ykw:nh (ch a0 a1 a2 a3 a4 a5 a6 a7 a8 a9 a10 a11 a12 a13 a14 a15 r) 3 = !a3.xeo:=rfl
theorem vhu:(ch a0 a1 a2 a3 a4 a5 a6 a7 a8 a9 a10 a11 a12 a13 a14 a15 r).set 3 x=ch a0 a1 a2 x a4 a5 a6 a7 a8 a9 a10 a11 a12 a13 a14 a15 r:=rfl
theorem ze9:gt (ch a0 a1 a2 a3 a4 a5 a6 a7 a8 a9 a10 a11 a12 a13 a14 a15 r) 4=a4:=rfl
theorem ze4:nh (ch a0 a1 a2 a3 a4 a5 a6 a7 a8 a9 a10 a11 a12 a13 a14 a15 r) 4 = !a4.xeo:=rfl
theorem vnp:(ch a0 a1 a2 a3 a4 a5 a6 a7 a8 a9 a10 a11 a12 a13 a14 a15 r).set 4 x=ch a0 a1 a2 a3 x a5 a6 a7 a8 a9 a10 a11 a12 a13 a14 a15 r:=rfl
theorem zx2:gt (ch a0 a1 a2 a3 a4 a5 a6 a7 a8 a9 a10 a11 a12 a13 a14 a15 r) 5=a5:=rfl
theorem zkv:nh (ch a0 a1 a2 a3 a4 a5 a6 a7 a8 a9 a10 a11 a12 a13 a14 a15 r) 5 = !a5.xeo:=rfl
theorem vwn:(ch a0 a1 a2 a3 a4 a5 a6 a7 a8 a9 a10 a11 a12 a13 a14 a15 r).set 5 x=ch a0 a1 a2 a3 a4 x a6 a7 a8 a9 a10 a11 a12 a13 a14 a15 r:=rfl
theorem yrk:gt (ch a0 a1 a2 a3 a4 a5 a6 a7 a8 a9 a10 a11 a12 a13 a14 a15 r) 6=a6:=rfl
theorem yv4:nh (ch a0 a1 a2 a3 a4 a5 a6 a7 a8 a9 a10 a11 a12 a13 a14 a15 r) 6 = !a6.xeo:=rfl
theorem znx:(ch a0 a1 a2 a3 a4 a5 a6 a7 a8 a9 a10 a11 a12 a13 a14 a15 r).set 6 x=ch a0 a1 a2 a3 a4 a5 x a7 a8 a9 a10 a11 a12 a13 a14 a15 r:=rfl
theorem xgm:gt (ch a0 a1 a2 a3 a4 a5 a6 a7 a8 a9 a10 a11 a12 a13 a14 a15 r) 7=a7:=rfl
theorem y9r:nh (ch a0 a1 a2 a3 a4 a5 a6 a7 a8 a9 a10 a11 a12 a13 a14 a15 r) 7 = !a7.xeo:=rfl
theorem xb0:(ch a0 a1 a2 a3 a4 a5 a6 a7 a8 a9 a10 a11 a12 a13 a14 a15 r).set 7 x=ch a0 a1 a2 a3 a4 a5 a6 x a8 a9 a10 a11 a12 a13 a14 a15 r:=rfl
theorem xzd:gt (ch a0 a1 a2 a3 a4 a5 a6 a7 a8 a9 a10 a11 a12 a13 a14 a15 r) 8=a8:=rfl
theorem vdh:nh (ch a0 a1 a2 a3 a4 a5 a6 a7 a8 a9 a10 a11 a12 a13 a14 a15 r) 8 = !a8.xeo:=rfl
theorem xg4:(ch a0 a1 a2 a3 a4 a5 a6 a7 a8 a9 a10 a11 a12 a13 a14 a15 r).set 8 x=ch a0 a1 a2 a3 a4 a5 a6 a7 x a9 a10 a11 a12 a13 a14 a15 r:=rfl
theorem wbe:gt (ch a0 a1 a2 a3 a4 a5 a6 a7 a8 a9 a10 a11 a12 a13 a14 a15 r) 9=a9:=rfl
theorem yxe:nh (ch a0 a1 a2 a3 a4 a5 a6 a7 a8 a9 a10 a11 a12 a13 a14 a15 r) 9 = !a9.xeo:=rfl
theorem w3l:(ch a0 a1 a2 a3 a4 a5 a6 a7 a8 a9 a10 a11 a12 a13 a14 a15 r).set 9 x=ch a0 a1 a2 a3 a4 a5 a6 a7 a8 x a10 a11 a12 a13 a14 a15 r:=rfl
theorem zpo:gt (ch a0 a1 a2 a3 a4 a5 a6 a7 a8 a9 a10 a11 a12 a13 a14 a15 r) 10=a10:=rfl
theorem vym:nh (ch a0 a1 a2 a3 a4 a5 a6 a7 a8 a9 a10 a11 a12 a13 a14 a15 r) 10 = !a10.xeo:=rfl
theorem vwr:(ch a0 a1 a2 a3 a4 a5 a6 a7 a8 a9 a10 a11 a12 a13 a14 a15 r).set 10 x=ch a0 a1 a2 a3 a4 a5 a6 a7 a8 a9 x a11 a12 a13 a14 a15 r:=rfl
theorem whi:gt (ch a0 a1 a2 a3 a4 a5 a6 a7 a8 a9 a10 a11 a12 a13 a14 a15 r) 11=a11:=rfl
theorem yp2:nh (ch a0 a1 a2 a3 a4 a5 a6 a7 a8 a9 a10 a11 a12 a13 a14 a15 r) 11 = !a11.xeo:=rfl
theorem xi3:(ch a0 a1 a2 a3 a4 a5 a6 a7 a8 a9 a10 a11 a12 a13 a14 a15 r).set 11 x=ch a0 a1 a2 a3 a4 a5 a6 a7 a8 a9 a10 x a12 a13 a14 a15 r:=rfl
theorem yhf:gt (ch a0 a1 a2 a3 a4 a5 a6 a7 a8 a9 a10 a11 a12 a13 a14 a15 r) 12=a12:=rfl
theorem yh1:nh (ch a0 a1 a2 a3 a4 a5 a6 a7 a8 a9 a10 a11 a12 a13 a14 a15 r) 12 = !a12.xeo:=rfl
theorem x9l:(ch a0 a1 a2 a3 a4 a5 a6 a7 a8 a9 a10 a11 a12 a13 a14 a15 r).set 12 x=ch a0 a1 a2 a3 a4 a5 a6 a7 a8 a9 a10 a11 x a13 a14 a15 r:=rfl
theorem zk7:gt (ch a0 a1 a2 a3 a4 a5 a6 a7 a8 a9 a10 a11 a12 a13 a14 a15 r) 13=a13:=rfl
theorem vka:nh (ch a0 a1 a2 a3 a4 a5 a6 a7 a8 a9 a10 a11 a12 a13 a14 a15 r) 13 = !a13.xeo:=rfl
theorem yrv:(ch a0 a1 a2 a3 a4 a5 a6 a7 a8 a9 a10 a11 a12 a13 a14 a15 r).set 13 x=ch a0 a1 a2 a3 a4 a5 a6 a7 a8 a9 a10 a11 a12 x a14 a15 r:=rfl
theorem w2a:gt (ch a0 a1 a2 a3 a4 a5 a6 a7 a8 a9 a10 a11 a12 a13 a14 a15 r) 14=a14:=rfl
theorem zto:nh (ch a0 a1 a2 a3 a4 a5 a6 a7 a8 a9 a10 a11 a12 a13 a14 a15 r) 14 = !a14.xeo:=rfl
theorem xa0:(ch a0 a1 a2 a3 a4 a5 a6 a7 a8 a9 a10 a11 a12 a13 a14 a15 r).set 14 x=ch a0 a1 a2 a3 a4 a5 a6 a7 a8 a9 a10 a11 a12 a13 x a15 r:=rfl
theorem zds:gt (ch a0 a1 a2 a3 a4 a5 a6 a7 a8 a9 a10 a11 a12 a13 a14 a15 r) 15=a15:=rfl
theorem x9c:nh (ch a0 a1 a2 a3 a4 a5 a6 a7 a8 a9 a10 a11 a12 a13 a14 a15 r) 15 = !a15.xeo:=rfl
theorem wp1:(ch a0 a1 a2 a3 a4 a5 a6 a7 a8 a9 a10 a11 a12 a13 a14 a15 r).set 15 x=ch a0 a1 a2 a3 a4 a5 a6 a7 a8 a9 a10 a11 a12 a13 a14 x r:=rfl
theorem vw6:gt (ch a0 a1 a2 a3 a4 a5 a6 a7 a8 a9 a10 a11 a12 a13 a14 a15 r) (n+16)=gt r n:=rfl
theorem xpp:nh (ch a0 a1 a2 a3 a4 a5 a6 a7 a8 a9 a10 a11 a12 a13 a14 a15 r) (n+16)=nh r n:=rfl
theorem v2g:(ch a0 a1 a2 a3 a4 a5 a6 a7 a8 a9 a10 a11 a12 a13 a14 a15 r).set (n+16) x=ch a0 a1 a2 a3 a4 a5 a6 a7 a8 a9 a10 a11 a12 a13 a14 a15 (r.set n x):=rfl
theorem y2v {tk:List Nat} {i:Nat}:xv8 tk i (ch a0 a1 a2 a3 a4 a5 a6 a7 a8 a9 a10 a11 a12 a13 a14 a15 r)=xv8 tk i (a0::a1::a2::a3::a4::a5::a6::a7::a8::a9::a10::a11::a12::a13::a14::a15::r):=rfl
theorem vuc {s i:Nat}:yg5 s i (ch a0 a1 a2 a3 a4 a5 a6 a7 a8 a9 a10 a11 a12 a13 a14 a15 r)=yg5 s i (a0::a1::a2::a3::a4::a5::a6::a7::a8::a9::a10::a11::a12::a13::a14::a15::r):=rfl
theorem w9m {s:Nat} {hv:AV} {i:Nat}:xlm s hv i (ch a0 a1 a2 a3 a4 a5 a6 a7 a8 a9 a10 a11 a12 a13 a14 a15 r)=xlm s hv i (a0::a1::a2::a3::a4::a5::a6::a7::a8::a9::a10::a11::a12::a13::a14::a15::r):=rfl
theorem xvf {s i:Nat}:zku s i (ch a0 a1 a2 a3 a4 a5 a6 a7 a8 a9 a10 a11 a12 a13 a14 a15 r)=zku s i (a0::a1::a2::a3::a4::a5::a6::a7::a8::a9::a10::a11::a12::a13::a14::a15::r):=rfl
end
attribute [go_sem] vzx y5x wdx ymb zuk wwk zsz x0u yh3 z3n ykw vhu ze9 ze4 vnp zx2 zkv vwn yrk yv4 znx xgm y9r xb0 xzd vdh xg4 wbe yxe w3l zpo vym vwr whi yp2 xi3 yhf yh1 x9l zk7 vka yrv w2a zto xa0 zds x9c wp1 vw6 xpp v2g y2v vuc w9m xvf
theorem vs6 {σ:List AV}:app [] σ=σ:=rfl
theorem vd6 {σ:List AV} {p:Nat×AV} {r:List (Nat×AV)}:app (p::r) σ=app r (σ.set p.1 p.2):=rfl
theorem zt5 {σ:List AV} {t:Nat}:opd σ (.tmp t)=gt σ t:=rfl
theorem vin {σ:List AV} {k:IntKind} {n:Int}:opd σ (.const (.int k n))=.one (.raw (.int k n)):=rfl
theorem wpc {σ:List AV} {b:Bool}:opd σ (.const (.bool b))=.one (.raw (.bool b)):=rfl
theorem xyd {σ:List AV} {s:ByteArray}:opd σ (.const (.string s))=.one (.raw (.string s)):=rfl
theorem wyx {σ:List AV} {a:Option Addr} {l c:Nat}:opd σ (.const (.slice a l c))=.one (.raw (.slice a l c)):=rfl
theorem xwy {σ:List AV} {vs:Array Value}:opd σ (.const (.agg vs))=vkt (.agg vs):=rfl
theorem wu3 {σ:List AV} {f:FuncId}:opd σ (.func f)=.one (.raw (.func (.func f) #[] #[])):=rfl
theorem yll {σ:List AV} {o:Oper} {rd:List Nat} {av:AV}:val σ o rd av=match o.dst with
 | some d=>if nh σ d then some (d::rd,[(d,av)]) else none
 | none=>none:=rfl
theorem wfc {x:List Nat×List (Nat×AV)}:OR.of (some x)=.eff x.1 [] x.2:=rfl
theorem yfg:OR.of none=.bad:=rfl
theorem x55 {s b:Nat} {z:List Cell} {sh:Sh}:TI.many ⟨s,b,z,sh⟩=if sh.agg then some true else if sh.plain then some false else none:=rfl
theorem xps {t:TypeId} {ti:TI} (h:mkTI P t=some ti) {k:TI->OR}:v7c P t k=k ti:=by unfold v7c;rw [h]
theorem ye2 {α:Type} {c:Prop} [Decidable c] {a b:α} (h:c):(if c then a else b)=a:=if_pos h
theorem wu8 {α:Type} {c:Prop} [Decidable c] {a b:α} (h:¬c):(if c then a else b)=b:=if_neg h
theorem w64 {n:Int} (h:-9223372036854775808<=n/\n<=9223372036854775807):IntKind.i64.wrap n=n:=by rw [IntKind.wrap_i64];omega
theorem xjv {α β:Type} (f:α->β) (a:α):(some a).map f=some (f a):=rfl
theorem zrz {α β:Type} (f:α->β):(none:Option α).map f=none:=rfl
theorem vm4 {α β:Type} (f:α->Option β) (a:α):(some a).bind f=f a:=rfl
theorem beqI {a b:Int}:(a==b)=decide (a=b):=rfl
theorem bneI {a b:Int}:(a != b)=decide (a≠b):=by simp [bne,beqI]
theorem wuu {α:Type} {a b:α}:(bif true then a else b)=a:=rfl
theorem zul {α:Type} {a b:α}:(bif false then a else b)=b:=rfl
attribute [go_sem 100] ye2 wu8
attribute [go_sem 10000] if_true if_false
attribute [go_sem] w64
attribute [go_sem] beqI bneI wuu zul
attribute [go_sem ↓] wdf yff
attribute [go_sem] ytr z0g
attribute [go_sem] x5e wud vzo vx9 zcw z1n
attribute [congr] ysn v2x
attribute [go_sem] z8l vae x6r z6p vs6 vd6 zt5 vin wpc xyd wyx xwy wu3 yll wfc yfg x55
attribute [go_sem] xjv zrz vm4 List.set_cons_zero List.set_cons_succ Option.getD_some Option.getD_none List.getElem?_cons_zero List.getElem?_cons_succ List.getElem?_nil
attribute [go_sem] wyi wu1 xlm vek AV.frzd Cell.sub Cell.at Cell.upd Cell.cnt Cell.esz AV.v41 AV.v1t AV.fresh yly AV.w2m
attribute [go_sem] wan x2n vdl
attribute [go_sem] opA0 litE vrc isZc zcAt ownN wzn isX opX nilO nilV tiX valX maxV eqOp ws9 bbA zx0 va0 vbr nilA nilC wpp y4x hitB yov zku ve8 AV.rf
attribute [go_sem] opB vofA vofB yn5 wxq zdb cpy zrn zyf wdn vge y92 wqd yry elemAt xq4 abin binA aun unA zj2 lenC lenA x38 w8n Cell.isSl natA vn4 orrO cutC zd3 zsp
attribute [go_sem] x0b w8s orrs placeOf whu xfz chunk wwg zz4 wei wuv wek ownC y00 ypu argA zk4 orrL zny x9b vtj orr AV.xeo AV.vb8 AV.y20 Sh.agg Sh.plain Cell.bare yf8 vkt
attribute [go_sem] xkq AV.x6p xuu Cell.x6p AV.yfl
attribute [go_sem] List.take_succ_cons List.take_zero List.drop_succ_cons List.drop_zero List.drop_nil List.take_nil List.length_cons List.length_nil List.cons_append List.nil_append List.append_nil List.all_cons List.all_nil List.map_cons List.map_nil
attribute [go_sem] List.foldl_cons List.foldl_nil AV.strip Cell.strip wkn
attribute [go_sem] Bool.not_true Bool.not_false Bool.false_eq_true Bool.true_and Bool.and_true Bool.false_and Bool.and_false true_and and_true and_self cond_true cond_false not_true_eq_false not_false_eq_true
attribute [go_sem] Nat.zero_add Nat.add_zero List.drop_length List.take_length List.length_set List.length_replicate
attribute [go_sem] decide_true decide_false beq_self_eq_true bne_self_eq_false Option.toList Int.toNat_natCast List.toList_toArray
def w7f (s:ByteArray) (i:Nat):Int:=((s.data[i]?).getD 0).toNat
end Go.Slot
namespace Go.Hp
open Go Go.RowKit Go.Slot
inductive HC where
 | any
 | dat (c:Cell)
 | ptr (b off:Nat)
 | pel (b es i f:Nat)
 | sl (b es lo n:Nat)
 | mp (b:Nat)
 | fnr (b:Nat)
inductive SV where
 | any
 | undef
 | one (h:HC)
 | agg (hs:List HC)
 | tup (l:List SV)
 | elt (cs:List Cell)
inductive SB where
 | fresh
 | dead
 | box (hs:List HC) (T:Option TypeId)
 | arr (c:Cell) (k:Nat) (T:Option TypeId)
 | map (es:List (Value×SV))
 | clo (f:FuncId) (caps:List SV)
def SB.own:SB->Bool
 | .box _ _ | .arr _ _ _ | .map _=>true
 | _=>false
def SB.mut (o:Nat):SB->Prop
 | .box _ _=>True
 | .arr _ k _=>k<=o
 | _=>False
theorem SB.zwm {x:SB} {o:Nat} (h:x.mut o):x.own=true:=by cases x<;>first | rfl | exact h.elim
def bk:Value->Nat
 | .map (some b)=>b
 | v=>blk v
def okB (η:List SB) (b:Nat):Prop:=∃ x,η[b]? = some x/\x≠.fresh
def real (v:Value):Prop:=v≠.pointer none
def Xb (ρ:Nat->Value) (η:List SB) (k:Nat):Prop:=∃ i x,η[i]? = some x/\x.own=true/\real (ρ i)/\bk (ρ i)=k
def MX (Mo:Nat->Nat->Prop) (ρ:Nat->Value) (η:List SB) (b o:Nat):Prop:=Mo b o\/∃ i x,η[i]? = some x/\x.mut o/\real (ρ i)/\bk (ρ i)=b
def HRd (η:List SB) (ρ:Nat->Value) (M:Nat->Nat->Prop) (w:World) (v:Value):HC->Prop
 | .any=>v.oneCell'=true
 | .dat c=>RdC M w v c
 | .ptr b off=>okB η b/\v=.pointer (some ⟨bk (ρ b),off,none⟩)
 | .pel b es i f=>okB η b/\v=.pointer (some ⟨bk (ρ b),i*es+f,none⟩)
 | .sl b es lo n=>okB η b/\∃ ad cap,v=.slice ad n cap/\n<=cap/\(cap≠0->real (ρ b)/\ad=some ⟨bk (ρ b),lo*es,none⟩/\∃(arr:Array Value) (T:TypeId) (fz:Nat×Nat),w.heap[bk (ρ b)]? = some (Obj.cells arr T fz)/\(lo+cap)*es<=arr.size)
 | .mp b=>okB η b/\v=ρ b/\v.oneCell'=true
 | .fnr b=>okB η b/\v=ρ b/\v.oneCell'=true
def HRL (η:List SB) (ρ:Nat->Value) (M:Nat->Nat->Prop) (w:World):List Value->List HC->Prop
 | [],[]=>True
 | v::vs,h::hs=>HRd η ρ M w v h/\HRL η ρ M w vs hs
 | _,_=>False
def SVR0 (η:List SB) (ρ:Nat->Value) (M:Nat->Nat->Prop) (w:World) (v:Value):SV->Prop
 | .any=>True
 | .undef=>v=Go.undef
 | .one h=>HRd η ρ M w v h
 | .agg hs=>∃ vs:List Value,v=.agg vs.toArray/\HRL η ρ M w vs hs
 | .elt cs=>∃(b off:Nat) (vs:List Value),v=.pointer (some ⟨b,off,none⟩)/\(∀ j u,vs[j]? = some u->¬M b (off+j)/\w.cell? ⟨b,off+j,none⟩=some u)/\RdD M w vs cs
 | .tup _=>False
def SRL (η:List SB) (ρ:Nat->Value) (M:Nat->Nat->Prop) (w:World):List Value->List SV->Prop
 | [],[]=>True
 | v::vs,x::l=>SVR0 η ρ M w v x/\SRL η ρ M w vs l
 | _,_=>False
def SVR (η:List SB) (ρ:Nat->Value) (M:Nat->Nat->Prop) (w:World) (v:Value):SV->Prop
 | .tup l=>∃ vs:List Value,v=.tuple vs.toArray/\SRL η ρ M w vs l
 | x=>SVR0 η ρ M w v x
def EnR (η:List SB) (ρ:Nat->Value) (M:Nat->Nat->Prop) (w:World):List MapEntry->List (Value×SV)->Prop
 | [],[]=>True
 | e::es,p::l=>(e.key=p.1/\SVR0 η ρ M w e.val p.2)/\EnR η ρ M w es l
 | _,_=>False
def xc5 (ents:Array MapEntry) (clk:Nat):Prop:=clk=ents.size/\∀(i:Nat) (e:MapEntry),ents[i]? = some e->e.born=i
theorem xc5.push {ents:Array MapEntry} {clk:Nat} (h:xc5 ents clk) (k v:Value):xc5 (ents.push { key:=k,val:=v,born:=clk }) (clk+1):=by
 refine ⟨by rw [Array.size_push,h.1],fun i e hi=>?_⟩;rw [Array.getElem?_push] at hi;split at hi
 . rename_i hs;cases hi;show clk=i;rw [h.1,hs]
 . exact h.2 i e hi
theorem xc5.modify {ents:Array MapEntry} {clk:Nat} (h:xc5 ents clk) (j:Nat) (f:MapEntry->MapEntry) (hf:∀ e,(f e).born=e.born):xc5 (ents.modify j f) clk:=by
 refine ⟨by rw [Array.size_modify,h.1],fun i e hi=>?_⟩;rw [Array.getElem?_modify] at hi;split at hi
 . obtain ⟨e0,h0,rfl⟩:=Option.map_eq_some_iff.1 hi;rw [hf];exact h.2 i e0 h0
 . exact h.2 i e hi
def SBR (η:List SB) (ρ:Nat->Value) (M:Nat->Nat->Prop) (w:World) (v:Value):SB->Prop
 | .fresh | .dead=>True
 | .box hs t=>∃(b:Nat) (vs:List Value) (T:TypeId),v=.pointer (some ⟨b,0,none⟩)/\w.heap[b]? = some (.cells vs.toArray T (0,0))/\HRL η ρ M w vs hs/\∀ t',t=some t'->T=t'
 | .arr c k t=>(c.uni/\k<=c.cnt*c.esz)/\((c.cnt=0/\v=.pointer none)\/∃(b:Nat) (vs q:List Value) (T:TypeId),v=.pointer (some ⟨b,0,none⟩)/\w.heap[b]? = some (.cells (vs++q).toArray T (0,0))/\RdD M w vs c.flat/\∀ t',t=some t'->T=t')
 | .map es=>∃(b:Nat) (ents:Array MapEntry) (clk:Nat),v=.map (some b)/\w.heap[b]? = some (.map ents clk)/\EnR η ρ M w ents.toList es/\xc5 ents clk
 | .clo f caps=>∃ cv:List Value,v=.func (.func f) #[] cv.toArray/\SRL η ρ M w cv caps
def Grow (w w':World):Prop:=∀(b:Nat) (arr:Array Value) (T:TypeId) (fz:Nat×Nat),w.heap[b]? = some (Obj.cells arr T fz)->∃(arr':Array Value) (T':TypeId) (fz':Nat×Nat),w'.heap[b]? = some (Obj.cells arr' T' fz')/\arr.size<=arr'.size
theorem Grow.refl (w:World):Grow w w:=fun _ arr T fz h=>⟨arr,T,fz,h,Nat.le_refl _⟩
theorem Grow.trans {a b c:World} (h:Grow a b) (k:Grow b c):Grow a c:=fun i arr T fz hi=>by
 obtain ⟨arr',T',fz',h1,h2⟩:=h i arr T fz hi;obtain ⟨arr2,T2,fz2,h3,h4⟩:=k i arr' T' fz' h1;exact ⟨arr2,T2,fz2,h3,Nat.le_trans h2 h4⟩
theorem Grow.below {w w':World} (h:Below w.heap.size w w'):Grow w w':=fun b arr T fz hb=>
 ⟨arr,T,fz,(h.block b (Array.getElem?_eq_some_iff.1 hb).1).trans hb,Nat.le_refl _⟩
structure Mv (η:List SB) (ρ:Nat->Value) (M:Nat->Nat->Prop) (w:World) (η':List SB) (ρ':Nat->Value) (M':Nat->Nat->Prop) (w':World):Prop where
 ok:∀ b,okB η b->okB η' b
 rho:∀ b,okB η b->ρ' b=ρ b
 keep:xhx M M' w w'
 grow:Grow w w'
section
variable {η η':List SB} {ρ ρ':Nat->Value} {M M':Nat->Nat->Prop} {w w':World}
theorem HRd.mv (m:Mv η ρ M w η' ρ' M' w') {v:Value} {h:HC} (hr:HRd η ρ M w v h):HRd η' ρ' M' w' v h:=by
 cases h with
 | any=>exact hr
 | dat c=>exact RdC.keep m.keep hr
 | ptr b off=>exact ⟨m.ok b hr.1,by rw [m.rho b hr.1];exact hr.2⟩
 | pel b es i f=>exact ⟨m.ok b hr.1,by rw [m.rho b hr.1];exact hr.2⟩
 | sl b es lo n=>
  obtain ⟨ho,ad,cap,hv,hn,hc⟩:=hr;refine ⟨m.ok b ho,ad,cap,hv,hn,fun h0=>?_⟩;obtain ⟨hre,h1,arr,T,fz,h2,h3⟩:=hc h0;rw [m.rho b ho];obtain ⟨arr',T',fz',h4,h5⟩:=m.grow _ _ _ _ h2;exact ⟨hre,h1,arr',T',fz',h4,Nat.le_trans h3 h5⟩
 | mp b=>exact ⟨m.ok b hr.1,by rw [m.rho b hr.1];exact hr.2⟩
 | fnr b=>exact ⟨m.ok b hr.1,by rw [m.rho b hr.1];exact hr.2⟩
theorem HRL.mv (m:Mv η ρ M w η' ρ' M' w'):∀{vs:List Value} {hs:List HC},HRL η ρ M w vs hs->HRL η' ρ' M' w' vs hs
 | [],[],_=>trivial
 | _::_,_::_,h=>⟨h.1.mv m,h.2.mv m⟩
theorem SVR0.mv (m:Mv η ρ M w η' ρ' M' w') {v:Value} {x:SV} (h:SVR0 η ρ M w v x):SVR0 η' ρ' M' w' v x:=by
 cases x with
 | one c=>exact HRd.mv m h
 | agg cs=>obtain ⟨vs,rfl,h⟩:=h;exact ⟨vs,rfl,h.mv m⟩
 | elt cs=>obtain ⟨b,off,vs,rfl,hc,h⟩:=h;exact ⟨b,off,vs,rfl,fun j u hj=>m.keep _ _ _ (hc j u hj).1 (hc j u hj).2,h.keep m.keep⟩
 | _=>exact h
theorem SRL.mv (m:Mv η ρ M w η' ρ' M' w'):∀{vs:List Value} {l:List SV},SRL η ρ M w vs l->SRL η' ρ' M' w' vs l
 | [],[],_=>trivial
 | _::_,_::_,h=>⟨h.1.mv m,h.2.mv m⟩
theorem SVR.of0 {v:Value} {x:SV} (h:SVR0 η ρ M w v x):SVR η ρ M w v x:=by
 cases x<;>first | exact h | exact h.elim
theorem SVR.mv (m:Mv η ρ M w η' ρ' M' w') {v:Value} {x:SV} (h:SVR η ρ M w v x):SVR η' ρ' M' w' v x:=by
 cases x with
 | tup l=>obtain ⟨vs,rfl,h⟩:=h;exact ⟨vs,rfl,h.mv m⟩
 | _=>exact SVR.of0 (SVR0.mv m h)
theorem EnR.mv (m:Mv η ρ M w η' ρ' M' w'):∀{es:List MapEntry} {l:List (Value×SV)},EnR η ρ M w es l->EnR η' ρ' M' w' es l
 | [],[],_=>trivial
 | _::_,_::_,h=>⟨⟨h.1.1,h.1.2.mv m⟩,h.2.mv m⟩
theorem SBR.mv (m:Mv η ρ M w η' ρ' M' w') {v:Value} {x:SB} (hh:x.own=true->real v->w'.heap[bk v]? = w.heap[bk v]?) (h:SBR η ρ M w v x):SBR η' ρ' M' w' v x:=by
 cases x with
 | fresh=>trivial
 | dead=>trivial
 | box hs t=>obtain ⟨b,vs,T,rfl,hb,h,ht⟩:=h;exact ⟨b,vs,T,rfl,(hh rfl (by simp [real])).trans hb,h.mv m,ht⟩
 | arr c k t=>
  obtain ⟨hu,h | ⟨b,vs,q,T,rfl,hb,h,hk⟩⟩:=h
  . exact ⟨hu,.inl h⟩
  . exact ⟨hu,.inr ⟨b,vs,q,T,rfl,(hh rfl (by simp [real])).trans hb,h.keep m.keep,hk⟩⟩
 | map es=>obtain ⟨b,ents,clk,rfl,hb,h,hB⟩:=h;exact ⟨b,ents,clk,rfl,(hh rfl (by simp [real])).trans hb,h.mv m,hB⟩
 | clo f caps=>obtain ⟨cv,rfl,h⟩:=h;exact ⟨cv,rfl,h.mv m⟩
theorem SBR.y87 {v:Value} {x:SB} (h:SBR η ρ M w v x) (ho:x.own=true) (hr:real v):bk v<w.heap.size:=by
 cases x with
 | box hs t=>obtain ⟨b,vs,T,rfl,hb,_⟩:=h;exact (Array.getElem?_eq_some_iff.1 hb).1
 | arr c k t=>
  obtain ⟨_,⟨_,e⟩ | ⟨b,vs,q,T,rfl,hb,_⟩⟩:=h
  . exact absurd e hr
  . exact (Array.getElem?_eq_some_iff.1 hb).1
 | map es=>obtain ⟨b,ents,clk,rfl,hb,_⟩:=h;exact (Array.getElem?_eq_some_iff.1 hb).1
 | _=>cases ho
theorem HRd.one {v:Value} {h:HC} (hr:HRd η ρ M w v h):v.oneCell'=true:=by
 cases h with
 | any=>exact hr
 | dat c=>exact RdC.one hr
 | ptr b off=>rw [hr.2];rfl
 | pel b es i f=>rw [hr.2];rfl
 | sl b es lo n=>obtain ⟨_,ad,cap,rfl,_⟩:=hr;rfl
 | mp b=>exact hr.2.2
 | fnr b=>exact hr.2.2
theorem HRL.ones:∀{vs:List Value} {hs:List HC},HRL η ρ M w vs hs->∀ v∈vs,v.oneCell'=true
 | [],[],_,v,hv=>by simp at hv
 | u::vs,_::_,h,v,hv=>by
  rcases List.mem_cons.1 hv with rfl | hv
  . exact h.1.one
  . exact h.2.ones v hv
theorem HRL.length:∀{vs:List Value} {hs:List HC},HRL η ρ M w vs hs->vs.length=hs.length
 | [],[],_=>rfl
 | _::_,_::_,h=>by simp [h.2.length]
theorem SRL.length:∀{vs:List Value} {l:List SV},SRL η ρ M w vs l->vs.length=l.length
 | [],[],_=>rfl
 | _::_,_::_,h=>by simp [h.2.length]
theorem HRL.drop:∀(n:Nat) {vs:List Value} {cs:List HC},HRL η ρ M w vs cs->HRL η ρ M w (vs.drop n) (cs.drop n)
 | 0,_,_,h=>by simpa using h
 | n+1,[],[],_=>trivial
 | n+1,_::_,_::_,h=>by simpa using h.2.drop n
theorem HRL.take:∀(n:Nat) {vs:List Value} {cs:List HC},HRL η ρ M w vs cs->HRL η ρ M w (vs.take n) (cs.take n)
 | 0,_,_,_=>trivial
 | _n+1,[],[],_=>trivial
 | n+1,_::_,_::_,h=>⟨h.1,h.2.take n⟩
theorem HRL.append:∀{vs:List Value} {cs:List HC} {us:List Value} {ds:List HC},HRL η ρ M w vs cs->HRL η ρ M w us ds->HRL η ρ M w (vs++us) (cs++ds)
 | [],[],_,_,_,h=>h
 | _::_,_::_,_,_,h,h'=>⟨h.1,h.2.append h'⟩
theorem SRL.append:∀{vs:List Value} {cs:List SV} {us:List Value} {ds:List SV},SRL η ρ M w vs cs->SRL η ρ M w us ds->SRL η ρ M w (vs++us) (cs++ds)
 | [],[],_,_,_,h=>h
 | _::_,_::_,_,_,h,h'=>⟨h.1,h.2.append h'⟩
theorem SRL.get:∀{vs:List Value} {cs:List SV},SRL η ρ M w vs cs->∀(j:Nat) (c:SV),cs[j]? = some c->∃ v,vs[j]? = some v/\SVR0 η ρ M w v c
 | [],[],_,j,c,hc=>by simp at hc
 | v::vs,c'::cs,h,0,c,hc=>by simp at hc;subst hc;exact ⟨v,by simp,h.1⟩
 | v::vs,c'::cs,h,j+1,c,hc=>by simpa using h.2.get j c (by simpa using hc)
theorem RdD.hrl:∀{vs:List Value} {cs:List Cell},RdD M w vs cs->HRL η ρ M w vs (cs.map .dat)
 | [],[],_=>trivial
 | _::_,_::_,h=>⟨h.1,RdD.hrl h.2⟩
end
def yqe (Γ:List (Nat×List Cell)) (M:Nat->Nat->Prop) (w:World):Prop:=
 ∀ g cs,(g,cs)∈Γ->∃ vs:List Value,(∀ j u,vs[j]? = some u->¬M g j/\w.cell? ⟨g,j,none⟩=some u)/\RdD M w vs cs
theorem yqe.keep {Γ:List (Nat×List Cell)} {M M':Nat->Nat->Prop} {w w':World} (hk:xhx M M' w w') (h:yqe Γ M w):yqe Γ M' w':=fun g cs hg=>by
 obtain ⟨vs,h1,h2⟩:=h g cs hg;exact ⟨vs,fun j u hj=>hk _ _ _ (h1 j u hj).1 (h1 j u hj).2,h2.keep hk⟩
structure HInv (Γ:List (Nat×List Cell)) (Mo:Nat->Nat->Prop) (ρ:Nat->Value) (η:List SB) (w:World):Prop where
 bnd:∀ b o,Mo b o->b<w.heap.size
 blk:∀ i x,η[i]? = some x->SBR η ρ (MX Mo ρ η) w (ρ i) x
 inj:∀ i j x y,η[i]? = some x->η[j]? = some y->x.own=true->y.own=true->real (ρ i)->real (ρ j)->bk (ρ i)=bk (ρ j)->i=j
 sep:∀ i x,η[i]? = some x->x.own=true->real (ρ i)->∀ o,¬Mo (bk (ρ i)) o
 glob:yqe Γ (MX Mo ρ η) w
structure Went (Γ:List (Nat×List Cell)) (Mo:Nat->Nat->Prop) (ρ:Nat->Value) (η:List SB) (w:World) (ρ':Nat->Value) (η':List SB) (w':World):Prop where
 ok:∀ b,okB η b->okB η' b
 rho:∀ b,okB η b->ρ' b=ρ b
 keep:xhx (MX Mo ρ η) (MX Mo ρ' η') w w'
 grow:Grow w w'
 inv:HInv Γ Mo ρ' η' w'
 size:w.heap.size<=w'.heap.size
 os:w'.os=w.os
 tape:w'.tape=w.tape
 output:w'.output=w.output
 frame:∀ k,k<w.heap.size->¬Xb ρ η k->w'.heap[k]? = w.heap[k]?
 fresh:∀ k,Xb ρ' η' k->w.heap.size<=k\/Xb ρ η k
section
variable {Γ:List (Nat×List Cell)} {Mo:Nat->Nat->Prop} {η η' η'':List SB} {ρ ρ' ρ'':Nat->Value} {w w' w'':World}
theorem Went.mv (h:Went Γ Mo ρ η w ρ' η' w'):Mv η ρ (MX Mo ρ η) w η' ρ' (MX Mo ρ' η') w':=⟨h.ok,h.rho,h.keep,h.grow⟩
theorem Went.refl (h:HInv Γ Mo ρ η w):Went Γ Mo ρ η w ρ η w:=
 ⟨fun _ h=>h,fun _ _=>rfl,fun _ _ _ h1 h2=>⟨h1,h2⟩,Grow.refl w,h,Nat.le_refl _,rfl,rfl,rfl,fun _ _ _=>rfl,fun _ h=>.inr h⟩
theorem Went.trans (h:Went Γ Mo ρ η w ρ' η' w') (k:Went Γ Mo ρ' η' w' ρ'' η'' w''):Went Γ Mo ρ η w ρ'' η'' w'' where
 ok:=fun b hb=>k.ok b (h.ok b hb)
 rho:=fun b hb=>(k.rho b (h.ok b hb)).trans (h.rho b hb)
 keep:=h.keep.trans k.keep
 grow:=h.grow.trans k.grow
 inv:=k.inv
 size:=Nat.le_trans h.size k.size
 os:=k.os.trans h.os
 tape:=k.tape.trans h.tape
 output:=k.output.trans h.output
 frame:=fun i hi hx=>(k.frame i (Nat.lt_of_lt_of_le hi h.size) (fun h1=>by
  rcases h.fresh i h1 with h2 | h2
  . omega
  . exact hx h2)).trans (h.frame i hi hx)
 fresh:=fun i hx=>by
  rcases k.fresh i hx with h1 | h1
  . exact .inl (Nat.le_trans h.size h1)
  . exact h.fresh i h1
theorem zux {i b:Nat} {x:SB} (hx:x≠.fresh) (h:okB η b):okB (η.set i x) b:=by
 obtain ⟨y,h1,h2⟩:=h;unfold okB;rw [List.getElem?_set]
 split
 . rename_i e;subst e;rw [if_pos (List.getElem?_eq_some_iff.1 h1).1];exact ⟨x,rfl,hx⟩
 . exact ⟨y,h1,h2⟩
theorem xaf {b:Nat} (l:List SB) (h:okB η b):okB (η++l) b:=by
 obtain ⟨y,h1,h2⟩:=h;exact ⟨y,by rw [List.getElem?_append_left (List.getElem?_eq_some_iff.1 h1).1];exact h1,h2⟩
theorem x74 {α:Type} {l:List α} {d i:Nat} {x y:α} (h:(l.set d x)[i]? = some y):(i=d/\y=x)\/(i≠d/\l[i]? = some y):=getElem?_set_cases h
theorem HInv.below (h:HInv Γ Mo ρ η w) (hb:Below w.heap.size w w'):HInv Γ Mo ρ η w' where
 bnd:=fun b o ho=>Nat.lt_of_lt_of_le (h.bnd b o ho) hb.size
 blk:=fun i x hi=>(h.blk i x hi).mv ⟨fun _ h=>h,fun _ _=>rfl,xhx.below hb,Grow.below hb⟩ (fun ho hr=>hb.block _ ((h.blk i x hi).y87 ho hr))
 inj:=h.inj
 sep:=h.sep
 glob:=h.glob.keep (xhx.below hb)
theorem Went.below (h:HInv Γ Mo ρ η w) (hb:Below w.heap.size w w'):Went Γ Mo ρ η w ρ η w':=
 ⟨fun _ h=>h,fun _ _=>rfl,xhx.below hb,Grow.below hb,h.below hb,hb.size,hb.os,hb.tape,hb.output,fun k hk _=>hb.block k hk,fun _ h=>.inr h⟩
theorem wws (h:HInv Γ Mo ρ η w) {b o:Nat} (hm:MX Mo ρ η b o):b<w.heap.size:=by
 rcases hm with hm | ⟨i,x,hi,hx,hr,rfl⟩
 . exact h.bnd b o hm
 . exact (h.blk i x hi).y87 (SB.zwm hx) hr
theorem xqv {n i:Nat} {x:SB} (h:(η++List.replicate n .fresh)[i]? = some x):η[i]? = some x\/(η.length<=i/\x=.fresh):=by
 rw [List.getElem?_append] at h;split at h
 . exact .inl h
 . rw [List.getElem?_replicate] at h;split at h
   . cases h;exact .inr ⟨by omega,rfl⟩
   . cases h
theorem Went.extend (h:HInv Γ Mo ρ η w) (n:Nat):Went Γ Mo ρ η w ρ (η++List.replicate n .fresh) w:=by
 have hM:∀ b o,MX Mo ρ (η++List.replicate n .fresh) b o->MX Mo ρ η b o:=by
  rintro b o (hm | ⟨i,x,hi,hx,hr⟩)
  . exact .inl hm
  . rcases xqv hi with hi | ⟨_,rfl⟩
    . exact .inr ⟨i,x,hi,hx,hr⟩
    . exact hx.elim
 have hk:xhx (MX Mo ρ η) (MX Mo ρ (η++List.replicate n .fresh)) w w:=fun b o u h1 h2=>⟨fun hm=>h1 (hM b o hm),h2⟩
 refine ⟨fun b hb=>xaf _ hb,fun _ _=>rfl,hk,Grow.refl w,⟨h.bnd,?_,?_,?_,h.glob.keep hk⟩,Nat.le_refl _,rfl,rfl,rfl,fun _ _ _=>rfl,?_⟩
 . intro i x hi
   rcases xqv hi with hi | ⟨_,rfl⟩
   . exact (h.blk i x hi).mv ⟨fun b hb=>xaf _ hb,fun _ _=>rfl,hk,Grow.refl w⟩ (fun _ _=>rfl)
   . trivial
 . intro i j x y hi hj hx hy
   rcases xqv hi with hi | ⟨_,rfl⟩
   . rcases xqv hj with hj | ⟨_,rfl⟩
     . exact h.inj i j x y hi hj hx hy
     . cases hy
   . cases hx
 . intro i x hi hx
   rcases xqv hi with hi | ⟨_,rfl⟩
   . exact h.sep i x hi hx
   . cases hx
 . rintro k ⟨i,x,hi,hx,hr⟩
   rcases xqv hi with hi | ⟨_,rfl⟩
   . exact .inr ⟨i,x,hi,hx,hr⟩
   . cases hx
def upd (ρ:Nat->Value) (b:Nat) (v:Value):Nat->Value:=fun i=>if i=b then v else ρ i
theorem vsc {b:Nat} {v:Value}:upd ρ b v b=v:=by simp [upd]
theorem xgc {b i:Nat} {v:Value} (h:i≠b):upd ρ b v i=ρ i:=by simp [upd,h]
theorem vpq {b:Nat} (h:η[b]? = some .fresh):¬okB η b:=fun ⟨x,h1,h2⟩=>by rw [h] at h1;cases h1;exact h2 rfl
theorem Went.new (h:HInv Γ Mo ρ η w) (hb:Below w.heap.size w w') {b:Nat} (hf:η[b]? = some .fresh) {v:Value} {x:SB} (hxf:x≠.fresh)
 (hnew:x.own=true->real v->w.heap.size<=bk v)
 (hok:Mv η ρ (MX Mo ρ η) w (η.set b x) (upd ρ b v) (MX Mo (upd ρ b v) (η.set b x)) w'->SBR (η.set b x) (upd ρ b v) (MX Mo (upd ρ b v) (η.set b x)) w' v x):Went Γ Mo ρ η w (upd ρ b v) (η.set b x) w':=by
 have hne:∀ i,okB η i->i≠b:=fun i hi e=>vpq hf (e▸hi)
 have hM:∀ c o,MX Mo (upd ρ b v) (η.set b x) c o->MX Mo ρ η c o\/(w.heap.size<=c):=by
  rintro c o (hm | ⟨i,y,hi,hy,hr,e⟩)
  . exact .inl (.inl hm)
  . rcases x74 hi with ⟨rfl,rfl⟩ | ⟨hn,hi⟩
    . rw [vsc] at hr e;exact .inr (e▸hnew (SB.zwm hy) hr)
    . rw [xgc hn] at hr e;exact .inl (.inr ⟨i,y,hi,hy,hr,e⟩)
 have hk:xhx (MX Mo ρ η) (MX Mo (upd ρ b v) (η.set b x)) w w':=fun c o u h1 h2=>by
  have hl:=World.block_lt_of_cell? w _ h2;refine ⟨fun hm=>?_,(xhx.below hb c o u h1 h2).2⟩
  rcases hM c o hm with hm | hm
  . exact h1 hm
  . simp only at hl;omega
 have hm:Mv η ρ (MX Mo ρ η) w (η.set b x) (upd ρ b v) (MX Mo (upd ρ b v) (η.set b x)) w':=⟨fun i hi=>zux hxf hi,fun i hi=>xgc (hne i hi),hk,Grow.below hb⟩;refine ⟨hm.ok,hm.rho,hk,hm.grow,⟨fun c o ho=>Nat.lt_of_lt_of_le (h.bnd c o ho) hb.size,?_,?_,?_,h.glob.keep hk⟩,hb.size,hb.os,hb.tape,hb.output,fun k hk _=>hb.block k hk,?_⟩
 . intro i y hi
   rcases x74 hi with ⟨rfl,rfl⟩ | ⟨hn,hi⟩
   . rw [vsc];exact hok hm
   . rw [xgc hn];exact (h.blk i y hi).mv hm (fun ho hr=>hb.block _ ((h.blk i y hi).y87 ho hr))
 . intro i j y z hi hj hy hz hri hrj e
   rcases x74 hi with ⟨ei,ey⟩ | ⟨hn,hi'⟩
   . rcases x74 hj with ⟨ej,ez⟩ | ⟨hn',hj'⟩
     . rw [ei,ej]
     . subst ei;subst ey;rw [vsc] at hri e;rw [xgc hn'] at hrj e;have h1:=hnew hy hri;have h2:=(h.blk j z hj').y87 hz hrj;omega
   . rcases x74 hj with ⟨ej,ez⟩ | ⟨hn',hj'⟩
     . subst ej;subst ez;rw [vsc] at hrj e;rw [xgc hn] at hri e;have h1:=hnew hz hrj;have h2:=(h.blk i y hi').y87 hy hri;omega
     . rw [xgc hn] at hri e;rw [xgc hn'] at hrj e;exact h.inj i j y z hi' hj' hy hz hri hrj e
 . intro i y hi hy hr o ho
   rcases x74 hi with ⟨rfl,rfl⟩ | ⟨hn,hi⟩
   . rw [vsc] at hr ho;have h1:=hnew hy hr;have h2:=h.bnd _ _ ho;omega
   . rw [xgc hn] at hr ho;exact h.sep i y hi hy hr o ho
 . rintro k ⟨i,y,hi,hy,hr,e⟩
   rcases x74 hi with ⟨rfl,rfl⟩ | ⟨hn,hi⟩
   . rw [vsc] at hr e;exact .inl (e▸hnew hy hr)
   . rw [xgc hn] at hr e;exact .inr ⟨i,y,hi,hy,hr,e⟩
theorem Went.write (h:HInv Γ Mo ρ η w) {b:Nat} {x x':SB} (hx:η[b]? = some x) (ho:x.own=true) (hr:real (ρ b)) (ho':x'.own=true) (hmut:∀ o,x'.mut o↔x.mut o)
 (hsize:w'.heap.size=w.heap.size) (hos:w'.os=w.os) (htape:w'.tape=w.tape) (hout:w'.output=w.output) (hother:∀ k,k≠bk (ρ b)->w'.heap[k]? = w.heap[k]?) (hgrow:Grow w w')
 (hcell:∀ o u,¬x.mut o->w.cell? ⟨bk (ρ b),o,none⟩=some u->w'.cell? ⟨bk (ρ b),o,none⟩=some u)
 (hok:Mv η ρ (MX Mo ρ η) w (η.set b x') ρ (MX Mo ρ (η.set b x')) w'->SBR (η.set b x') ρ (MX Mo ρ (η.set b x')) w' (ρ b) x'):Went Γ Mo ρ η w ρ (η.set b x') w':=by
 have hxf:x'≠.fresh:=fun e=>by rw [e] at ho';cases ho'
 have hlt:b<η.length:=(List.getElem?_eq_some_iff.1 hx).1
 have hM:∀ c o,MX Mo ρ (η.set b x') c o↔MX Mo ρ η c o:=fun c o=>by
  constructor
  . rintro (hm | ⟨i,y,hi,hy,hr,e⟩)
    . exact .inl hm
    . rcases x74 hi with ⟨rfl,rfl⟩ | ⟨hn,hi⟩
      . exact .inr ⟨i,x,hx,(hmut o).1 hy,hr,e⟩
      . exact .inr ⟨i,y,hi,hy,hr,e⟩
  . rintro (hm | ⟨i,y,hi,hy,hr,e⟩)
    . exact .inl hm
    . by_cases hn:i=b
      . subst hn;rw [hx] at hi;cases hi;exact .inr ⟨i,x',by simp [hlt],(hmut o).2 hy,hr,e⟩
      . exact .inr ⟨i,y,by rw [List.getElem?_set_ne (Ne.symm hn)];exact hi,hy,hr,e⟩
 have hk:xhx (MX Mo ρ η) (MX Mo ρ (η.set b x')) w w':=fun c o u h1 h2=>by
  refine ⟨fun hm=>h1 ((hM c o).1 hm),?_⟩;by_cases e:c=bk (ρ b)
  . subst e;exact hcell o u (fun hm=>h1 (.inr ⟨b,x,hx,hm,hr,rfl⟩)) h2
  . unfold World.cell? at h2 ⊢;dsimp only at h2 ⊢;rw [hother c e];exact h2
 have hm:Mv η ρ (MX Mo ρ η) w (η.set b x') ρ (MX Mo ρ (η.set b x')) w':=⟨fun i hi=>zux hxf hi,fun _ _=>rfl,hk,hgrow⟩;refine ⟨hm.ok,hm.rho,hk,hgrow,⟨fun c o hc=>by rw [hsize];exact h.bnd c o hc,?_,?_,?_,h.glob.keep hk⟩,by omega,hos,htape,hout,?_,?_⟩
 . intro i y hi
   rcases x74 hi with ⟨rfl,rfl⟩ | ⟨hn,hi⟩
   . exact hok hm
   . exact (h.blk i y hi).mv hm (fun hyo hri=>hother _ (fun e=>hn (h.inj i b y x hi hx hyo ho hri hr e)))
 . intro i j y z hi hj hy hz
   have key:∀(k:Nat) (u:SB),(η.set b x')[k]? = some u->u.own=true->∃ u':SB,η[k]? = some u'/\u'.own=true:=fun k u hk hu=>by
    rcases x74 hk with ⟨rfl,rfl⟩ | ⟨_,hk⟩
    . exact ⟨x,hx,ho⟩
    . exact ⟨u,hk,hu⟩
   obtain ⟨y',h1,h2⟩:=key i y hi hy;obtain ⟨z',h3,h4⟩:=key j z hj hz;exact h.inj i j y' z' h1 h3 h2 h4
 . intro i y hi hy
   rcases x74 hi with ⟨rfl,rfl⟩ | ⟨_,hi⟩
   . exact h.sep i x hx ho
   . exact h.sep i y hi hy
 . intro k _ hk;exact hother k (fun e=>hk ⟨b,x,hx,ho,hr,e.symm⟩)
 . rintro k ⟨i,y,hi,hy,hr',e⟩
   rcases x74 hi with ⟨rfl,rfl⟩ | ⟨_,hi⟩
   . exact .inr ⟨i,x,hx,ho,hr',e⟩
   . exact .inr ⟨i,y,hi,hy,hr',e⟩
theorem Went.less (h:HInv Γ Mo ρ η w) {b:Nat} {x x':SB} (hx:η[b]? = some x) (hxf:x'≠.fresh) (ho:x'.own=true->x.own=true) (hmut:∀ o,x'.mut o->x.mut o)
 (hok:Mv η ρ (MX Mo ρ η) w (η.set b x') ρ (MX Mo ρ (η.set b x')) w->SBR (η.set b x') ρ (MX Mo ρ (η.set b x')) w (ρ b) x'):Went Γ Mo ρ η w ρ (η.set b x') w:=by
 have hM:∀ c o,MX Mo ρ (η.set b x') c o->MX Mo ρ η c o:=by
  rintro c o (hm | ⟨i,y,hi,hy,hr,e⟩)
  . exact .inl hm
  . rcases x74 hi with ⟨rfl,rfl⟩ | ⟨_,hi⟩
    . exact .inr ⟨i,x,hx,hmut o hy,hr,e⟩
    . exact .inr ⟨i,y,hi,hy,hr,e⟩
 have hk:xhx (MX Mo ρ η) (MX Mo ρ (η.set b x')) w w:=fun c o u h1 h2=>⟨fun hm=>h1 (hM c o hm),h2⟩
 have hm:Mv η ρ (MX Mo ρ η) w (η.set b x') ρ (MX Mo ρ (η.set b x')) w:=⟨fun i hi=>zux hxf hi,fun _ _=>rfl,hk,Grow.refl w⟩
 have key:∀(k:Nat) (u:SB),(η.set b x')[k]? = some u->u.own=true->∃ u':SB,η[k]? = some u'/\u'.own=true:=fun k u hk hu=>by
  rcases x74 hk with ⟨rfl,rfl⟩ | ⟨_,hk⟩
  . exact ⟨x,hx,ho hu⟩
  . exact ⟨u,hk,hu⟩
 refine ⟨hm.ok,hm.rho,hk,hm.grow,⟨h.bnd,?_,?_,?_,h.glob.keep hk⟩,Nat.le_refl _,rfl,rfl,rfl,fun _ _ _=>rfl,?_⟩
 . intro i y hi
   rcases x74 hi with ⟨rfl,rfl⟩ | ⟨_,hi⟩
   . exact hok hm
   . exact (h.blk i y hi).mv hm (fun _ _=>rfl)
 . intro i j y z hi hj hy hz;obtain ⟨y',h1,h2⟩:=key i y hi hy;obtain ⟨z',h3,h4⟩:=key j z hj hz;exact h.inj i j y' z' h1 h3 h2 h4
 . intro i y hi hy;obtain ⟨y',h1,h2⟩:=key i y hi hy;exact h.sep i y' h1 h2
 . rintro k ⟨i,y,hi,hy,hr',e⟩;obtain ⟨y',h1,h2⟩:=key i y hi hy;exact .inr ⟨i,y',h1,h2,hr',e⟩
theorem Went.move (h:HInv Γ Mo ρ η w) {b nb:Nat} {x:SB} (hx:η[b]? = some x) (ho:x.own=true) (hf:η[nb]? = some .fresh):Went Γ Mo ρ η w (upd ρ nb (ρ b)) ((η.set b .dead).set nb x) w:=by
 have hxf:x≠.fresh:=fun e=>by rw [e] at ho;cases ho
 have hbn:b≠nb:=fun e=>by rw [e,hf] at hx;cases hx;exact hxf rfl
 have hlb:b<η.length:=(List.getElem?_eq_some_iff.1 hx).1;have hln:nb<η.length:=(List.getElem?_eq_some_iff.1 hf).1
 have key:∀(i:Nat) (y:SB),((η.set b .dead).set nb x)[i]? = some y->(i=nb/\y=x)\/(i≠nb/\i=b/\y=.dead)\/(i≠nb/\i≠b/\η[i]? = some y):=fun i y hi=>by
  rcases x74 hi with h1 | ⟨hn,hi⟩
  . exact .inl h1
  . rcases x74 hi with ⟨h2,h3⟩ | ⟨hn',hi⟩
    . exact .inr (.inl ⟨hn,h2,h3⟩)
    . exact .inr (.inr ⟨hn,hn',hi⟩)
 have hold:∀(i:Nat) (y:SB),((η.set b .dead).set nb x)[i]? = some y->y.own=true->∃ j,η[j]? = some y/\upd ρ nb (ρ b) i=ρ j/\(i=nb->j=b)/\(i≠nb->j=i):=fun i y hi hy=>by
  rcases key i y hi with ⟨rfl,rfl⟩ | ⟨hn,rfl,rfl⟩ | ⟨hn,hn',hi⟩
  . exact ⟨b,hx,vsc,fun _=>rfl,fun e=>absurd rfl e⟩
  . cases hy
  . exact ⟨i,hi,xgc hn,fun e=>absurd e hn,fun _=>rfl⟩
 have hM:∀ c o,MX Mo (upd ρ nb (ρ b)) ((η.set b .dead).set nb x) c o->MX Mo ρ η c o:=by
  rintro c o (hm | ⟨i,y,hi,hy,hr,e⟩)
  . exact .inl hm
  . obtain ⟨j,h1,h2,_⟩:=hold i y hi (SB.zwm hy);rw [h2] at hr e;exact .inr ⟨j,y,h1,hy,hr,e⟩
 have hk:xhx (MX Mo ρ η) (MX Mo (upd ρ nb (ρ b)) ((η.set b .dead).set nb x)) w w:=fun c o u h1 h2=>⟨fun hm=>h1 (hM c o hm),h2⟩
 have hok:∀ i,okB η i->okB ((η.set b .dead).set nb x) i:=fun i hi=>zux hxf (zux (by simp) hi)
 have hm:Mv η ρ (MX Mo ρ η) w ((η.set b .dead).set nb x) (upd ρ nb (ρ b)) (MX Mo (upd ρ nb (ρ b)) ((η.set b .dead).set nb x)) w:=
  ⟨hok,fun i hi=>xgc (fun e=>vpq hf (e▸hi)),hk,Grow.refl w⟩
 refine ⟨hm.ok,hm.rho,hk,hm.grow,⟨h.bnd,?_,?_,?_,h.glob.keep hk⟩,Nat.le_refl _,rfl,rfl,rfl,fun _ _ _=>rfl,?_⟩
 . intro i y hi
   rcases key i y hi with ⟨rfl,rfl⟩ | ⟨hn,rfl,rfl⟩ | ⟨hn,hn',hi⟩
   . rw [vsc];exact (h.blk b y hx).mv hm (fun _ _=>rfl)
   . trivial
   . rw [xgc hn];exact (h.blk i y hi).mv hm (fun _ _=>rfl)
 . intro i j y z hi hj hy hz hri hrj e;obtain ⟨i',h1,h2,h3,h4⟩:=hold i y hi hy;obtain ⟨j',h5,h6,h7,h8⟩:=hold j z hj hz;rw [h2] at hri e;rw [h6] at hrj e;have e':=h.inj i' j' y z h1 h5 hy hz hri hrj e;by_cases hin:i=nb
   . by_cases hjn:j=nb
     . rw [hin,hjn]
     . exfalso;rw [h3 hin,h8 hjn] at e'
       rcases key j z hj with ⟨e1,_⟩ | ⟨_,_,rfl⟩ | ⟨_,e1,_⟩
       . exact hjn e1
       . cases hz
       . exact e1 e'.symm
   . by_cases hjn:j=nb
     . exfalso;rw [h7 hjn,h4 hin] at e'
       rcases key i y hi with ⟨e1,_⟩ | ⟨_,_,rfl⟩ | ⟨_,e1,_⟩
       . exact hin e1
       . cases hy
       . exact e1 e'
     . rw [h4 hin,h8 hjn] at e';exact e'
 . intro i y hi hy hr;obtain ⟨j,h1,h2,_⟩:=hold i y hi hy;rw [h2] at hr ⊢;exact h.sep j y h1 hy hr
 . rintro k ⟨i,y,hi,hy,hr,e⟩;obtain ⟨j,h1,h2,_⟩:=hold i y hi hy;rw [h2] at hr e;exact .inr ⟨j,y,h1,hy,hr,e⟩
theorem Went.kill (h:HInv Γ Mo ρ η w) {b:Nat} {x:SB} (hx:η[b]? = some x):Went Γ Mo ρ η w ρ (η.set b .dead) w:=
 Went.less h hx (by simp) (by intro h;cases h) (by intro o h;exact h.elim) (fun _=>trivial)
end
end Go.Hp
