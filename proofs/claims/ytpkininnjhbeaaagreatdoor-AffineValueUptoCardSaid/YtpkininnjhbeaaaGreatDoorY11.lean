import Derived.Test.YtpkininnjhbeaaaGreatDoorY8
import Derived.Test.YtpkininnjhbeaaaGreatDoorY0
namespace Go.Slot
open Go Go.RowKit
variable {P:Program} {G:List (Nat×List Gh)}
variable {f:FuncId} {fn:Func} {c:Code} {res:AV} {b c':Bool} {A B X Y:Bool->Prop}
theorem RC.sound:∀(c:Code) (b:Bool) (Q:Exit->Bool->List AV->Prop) (I:List AV),RC P G c b Q I->zus P c (outQ Q) I:=by
 intro c
 induction c with
 | skip=>intro b Q I h;exact wv2 ⟨b,h⟩
 | region id ops dr=>
  intro b Q I h
  cases dr with
  | false=>exact zus.le (StLe.ghL _ _) (z1s (RunF.run _ b _ _ h))
  | true=>exact zus.le (StLe.ghL _ _) (wm5 h.1 (RunG.runD _ b [] _ _ h.2))
 | seq x y ihx ihy=>
  intro b Q I h;have h:seqF (z7d G y) (fun _=>xks P G x y Q I) (fun _=>RC P G x b (ycn (fun b I=>RC P G y b Q I) Q) I):=h
  cases hj:z7d G y with
  | true=>rw [hj] at h;exact h
  | false=>
  rw [hj] at h;have h:RC P G x b (ycn (fun b I=>RC P G y b Q I) Q) I:=h;refine wga ((ihx b _ I h).mono ?_);intro e I' ⟨b',h'⟩
  cases e with
  | normal=>exact ihy b' Q I' h'
  | _=>exact ⟨b',h'⟩
 | cond c x y ihx ihy=>
  intro b Q I h;unfold RC wth at h;split at h
  . rename_i p hp;exact wjz hp (fun hb=>ihx _ _ _ (h.1 hb)) (fun hb=>ihy _ _ _ (h.2 hb))
  . exact h.elim
 | block id x ih=>
  intro b Q I h;refine yb7 ((ih b _ I h).mono ?_);intro e I' ⟨b',h'⟩
  cases e with
  | exit j=>
   show zeh id (outQ Q) (.exit j) I';unfold vtx at h';unfold zeh;simp only at h' ⊢;split at h'
   . rename_i hj;simp only [hj];exact ⟨b',h'⟩
   . rename_i hj;simp only [hj];exact ⟨b',h'⟩
  | _=>exact ⟨b',h'⟩
 | loop x ih=>intro b Q I h;exact h
 | exit id=>intro b Q I h;exact xpa ⟨b,h⟩
 | ret=>intro b Q I h;exact x3t ⟨b,h⟩
 | _=>intro b Q I h;exact h.elim
def retC (P:Program) (rs:List ResultVar) (res:AV):Exit->Bool->List AV->Prop
 | .ret,_,I | .normal,_,I=>∃ av,yhv P I rs=some av/\RLe av res
 | _,_,_=>False
theorem y4n.run (G:List (Nat×List Gh)) {args:List AV} (hf:P.funcs[f]? = some fn) (hb:fn.body=some c) (hname:(fn.name == "runtime.NumGoroutine")=false)
 (h:RC P G c true (retC P fn.results.toList res) (vh6 (args++List.replicate (fn.ntmps-args.length) .undef))):y4n P f args res:=by
 rw [vsc] at h;refine y4n.of hf hb hname ((RC.sound c true _ _ h).mono ?_);intro e I ⟨b,h⟩
 cases e with
 | normal=>exact h
 | ret=>exact h
 | _=>exact h.elim
def zmd (P:Program) (rs:List ResultVar) (j:Nat) (out res:AV):Exit->Bool->List AV->Prop
 | .ret,_,I | .normal,_,I=>retX P rs j out res .ret I
 | _,_,_=>False
theorem x8f.run (G:List (Nat×List Gh)) {args:List AV} {j:Nat} {out:AV} (hf:P.funcs[f]? = some fn) (hb:fn.body=some c) (hname:(fn.name == "runtime.NumGoroutine")=false)
 (hnt:∀ t,¬out.v7d t) (h:RC P G c true (zmd P fn.results.toList j out res) (vh6 (args++List.replicate (fn.ntmps-args.length) .undef))):x8f P f args j out res:=by
 rw [vsc] at h;refine x8f.of hf hb hname hnt ((RC.sound c true _ _ h).mono ?_);intro e I ⟨b,h⟩
 cases e with
 | normal=>exact h
 | ret=>exact h
 | _=>exact h.elim
theorem y4n.le {f:FuncId} {args:List AV} {res res':AV} (h:y4n P f args res) (hle:RLe res res'):y4n P f args res':=
 ⟨h.1,fun M w vs hM hr=>(h.2 M w vs hM hr).mono (fun _ _ ⟨v,h1,h2,h3,h4⟩=>⟨v,h1,h2,h3.le hle,fun hh=>h4 (hle.xeo hh)⟩)⟩
abbrev U {α:Type} (_:α):Type:=Unit
def hide {α:Type} (f:α) (_:U f):α:=f
theorem wfv {f:Bool->Prop} {u:U f}:hide f u b=f b:=_root_.id rfl
theorem x6a {f:Bool->AV->Prop} {u:U f} {r:AV}:hide f u b r=f b r:=_root_.id rfl
def tick {α:Type} (x:α):α:=x
theorem wcr:tick true=true:=_root_.id rfl
theorem whn:tick false=false:=_root_.id rfl
theorem wcq:seqF true A B=A true:=_root_.id rfl
theorem wlk:seqF false A B=B true:=_root_.id rfl
theorem vq6 {c:Bool} (h:c=c'):seqF c A B=seqF c' A B:=by rw [h]
section
variable {next:Bool->List AV->Prop} {Q:Exit->Bool->List AV->Prop}
end
section
variable {o:Oper} {I:List AV} {b:Bool} {k:Bool->List Nat->List Nat->List (Nat×AV)->Prop} {rd tk:List Nat} {e:List (Nat×AV)} {f:FuncId} {args:List AV}
end
theorem ykm:vdc true true X Y=X true:=by simp [vdc]
theorem z5i:vdc false false X Y=X true:=by simp [vdc]
theorem x8y:vdc true false X Y=Y true:=by simp [vdc]
theorem zw2:vdc false true X Y=Y true:=by simp [vdc]
theorem wj2:ymv true X Y=X true:=by simp [ymv]
theorem yzg:ymv false X Y=Y true:=by simp [ymv]
section
variable {o o':Oper} {I I':List AV} {b:Bool} {k:Bool->List Nat->List Nat->List (Nat×AV)->Prop}
theorem zr0 {c:Bool} (h:c=c'):ymv c X Y=ymv c' X Y:=by rw [h]
end
end Go.Slot
namespace Go.Slot
open Go Go.RowKit
variable {P:Program}
variable {a:AV} {I:List AV} {i:Nat} {b:Bool} {c:Prop} {α β:Type}
theorem v2l:gt (a::I) 0=a:=rfl
theorem zrz {n:Nat}:gt (a::I) (n+1)=gt I n:=rfl
theorem wnu:nh (a::I) 0 = !a.xeo:=rfl
theorem wdg {n:Nat}:nh (a::I) (n+1)=nh I n:=rfl
section
variable {a0 a1 a2 a3 a4 a5 a6 a7 a8 a9 a10 a11 a12 a13 a14 a15 x:AV} {r:List AV} {n:Nat}
theorem v23:gt (ch a0 a1 a2 a3 a4 a5 a6 a7 a8 a9 a10 a11 a12 a13 a14 a15 r) 0=a0:=rfl
theorem zux:nh (ch a0 a1 a2 a3 a4 a5 a6 a7 a8 a9 a10 a11 a12 a13 a14 a15 r) 0 = !a0.xeo:=rfl
theorem xm2:(ch a0 a1 a2 a3 a4 a5 a6 a7 a8 a9 a10 a11 a12 a13 a14 a15 r).set 0 x=ch x a1 a2 a3 a4 a5 a6 a7 a8 a9 a10 a11 a12 a13 a14 a15 r:=rfl
theorem wtx:gt (ch a0 a1 a2 a3 a4 a5 a6 a7 a8 a9 a10 a11 a12 a13 a14 a15 r) 1=a1:=rfl
theorem w3g:nh (ch a0 a1 a2 a3 a4 a5 a6 a7 a8 a9 a10 a11 a12 a13 a14 a15 r) 1 = !a1.xeo:=rfl
theorem w7b:(ch a0 a1 a2 a3 a4 a5 a6 a7 a8 a9 a10 a11 a12 a13 a14 a15 r).set 1 x=ch a0 x a2 a3 a4 a5 a6 a7 a8 a9 a10 a11 a12 a13 a14 a15 r:=rfl
theorem wwi:gt (ch a0 a1 a2 a3 a4 a5 a6 a7 a8 a9 a10 a11 a12 a13 a14 a15 r) 2=a2:=rfl
theorem y22:nh (ch a0 a1 a2 a3 a4 a5 a6 a7 a8 a9 a10 a11 a12 a13 a14 a15 r) 2 = !a2.xeo:=rfl
theorem wyw:(ch a0 a1 a2 a3 a4 a5 a6 a7 a8 a9 a10 a11 a12 a13 a14 a15 r).set 2 x=ch a0 a1 x a3 a4 a5 a6 a7 a8 a9 a10 a11 a12 a13 a14 a15 r:=rfl
theorem x19:gt (ch a0 a1 a2 a3 a4 a5 a6 a7 a8 a9 a10 a11 a12 a13 a14 a15 r) 3=a3:=rfl
theorem w0l:nh (ch a0 a1 a2 a3 a4 a5 a6 a7 a8 a9 a10 a11 a12 a13 a14 a15 r) 3 = !a3.xeo:=rfl
theorem xqe:(ch a0 a1 a2 a3 a4 a5 a6 a7 a8 a9 a10 a11 a12 a13 a14 a15 r).set 3 x=ch a0 a1 a2 x a4 a5 a6 a7 a8 a9 a10 a11 a12 a13 a14 a15 r:=rfl
theorem yti:gt (ch a0 a1 a2 a3 a4 a5 a6 a7 a8 a9 a10 a11 a12 a13 a14 a15 r) 4=a4:=rfl
theorem z0m:nh (ch a0 a1 a2 a3 a4 a5 a6 a7 a8 a9 a10 a11 a12 a13 a14 a15 r) 4 = !a4.xeo:=rfl
theorem vfi:(ch a0 a1 a2 a3 a4 a5 a6 a7 a8 a9 a10 a11 a12 a13 a14 a15 r).set 4 x=ch a0 a1 a2 a3 x a5 a6 a7 a8 a9 a10 a11 a12 a13 a14 a15 r:=rfl
theorem v4t:gt (ch a0 a1 a2 a3 a4 a5 a6 a7 a8 a9 a10 a11 a12 a13 a14 a15 r) 5=a5:=rfl
theorem w8e:nh (ch a0 a1 a2 a3 a4 a5 a6 a7 a8 a9 a10 a11 a12 a13 a14 a15 r) 5 = !a5.xeo:=rfl
theorem zi4:(ch a0 a1 a2 a3 a4 a5 a6 a7 a8 a9 a10 a11 a12 a13 a14 a15 r).set 5 x=ch a0 a1 a2 a3 a4 x a6 a7 a8 a9 a10 a11 a12 a13 a14 a15 r:=rfl
theorem xaf:gt (ch a0 a1 a2 a3 a4 a5 a6 a7 a8 a9 a10 a11 a12 a13 a14 a15 r) 6=a6:=rfl
theorem y01:nh (ch a0 a1 a2 a3 a4 a5 a6 a7 a8 a9 a10 a11 a12 a13 a14 a15 r) 6 = !a6.xeo:=rfl
theorem yf9:(ch a0 a1 a2 a3 a4 a5 a6 a7 a8 a9 a10 a11 a12 a13 a14 a15 r).set 6 x=ch a0 a1 a2 a3 a4 a5 x a7 a8 a9 a10 a11 a12 a13 a14 a15 r:=rfl
theorem vlo:gt (ch a0 a1 a2 a3 a4 a5 a6 a7 a8 a9 a10 a11 a12 a13 a14 a15 r) 7=a7:=rfl
theorem ze6:nh (ch a0 a1 a2 a3 a4 a5 a6 a7 a8 a9 a10 a11 a12 a13 a14 a15 r) 7 = !a7.xeo:=rfl
theorem xet:(ch a0 a1 a2 a3 a4 a5 a6 a7 a8 a9 a10 a11 a12 a13 a14 a15 r).set 7 x=ch a0 a1 a2 a3 a4 a5 a6 x a8 a9 a10 a11 a12 a13 a14 a15 r:=rfl
theorem x1e:gt (ch a0 a1 a2 a3 a4 a5 a6 a7 a8 a9 a10 a11 a12 a13 a14 a15 r) 8=a8:=rfl
theorem ypn:nh (ch a0 a1 a2 a3 a4 a5 a6 a7 a8 a9 a10 a11 a12 a13 a14 a15 r) 8 = !a8.xeo:=rfl
theorem yis:(ch a0 a1 a2 a3 a4 a5 a6 a7 a8 a9 a10 a11 a12 a13 a14 a15 r).set 8 x=ch a0 a1 a2 a3 a4 a5 a6 a7 x a9 a10 a11 a12 a13 a14 a15 r:=rfl
theorem xvk:gt (ch a0 a1 a2 a3 a4 a5 a6 a7 a8 a9 a10 a11 a12 a13 a14 a15 r) 9=a9:=rfl
theorem y82:nh (ch a0 a1 a2 a3 a4 a5 a6 a7 a8 a9 a10 a11 a12 a13 a14 a15 r) 9 = !a9.xeo:=rfl
theorem ycm:(ch a0 a1 a2 a3 a4 a5 a6 a7 a8 a9 a10 a11 a12 a13 a14 a15 r).set 9 x=ch a0 a1 a2 a3 a4 a5 a6 a7 a8 x a10 a11 a12 a13 a14 a15 r:=rfl
theorem yyu:gt (ch a0 a1 a2 a3 a4 a5 a6 a7 a8 a9 a10 a11 a12 a13 a14 a15 r) 10=a10:=rfl
theorem xe6:nh (ch a0 a1 a2 a3 a4 a5 a6 a7 a8 a9 a10 a11 a12 a13 a14 a15 r) 10 = !a10.xeo:=rfl
theorem ywy:(ch a0 a1 a2 a3 a4 a5 a6 a7 a8 a9 a10 a11 a12 a13 a14 a15 r).set 10 x=ch a0 a1 a2 a3 a4 a5 a6 a7 a8 a9 x a11 a12 a13 a14 a15 r:=rfl
theorem yw2:gt (ch a0 a1 a2 a3 a4 a5 a6 a7 a8 a9 a10 a11 a12 a13 a14 a15 r) 11=a11:=rfl
theorem vbb:nh (ch a0 a1 a2 a3 a4 a5 a6 a7 a8 a9 a10 a11 a12 a13 a14 a15 r) 11 = !a11.xeo:=rfl
theorem wuf:(ch a0 a1 a2 a3 a4 a5 a6 a7 a8 a9 a10 a11 a12 a13 a14 a15 r).set 11 x=ch a0 a1 a2 a3 a4 a5 a6 a7 a8 a9 a10 x a12 a13 a14 a15 r:=rfl
theorem zbf:gt (ch a0 a1 a2 a3 a4 a5 a6 a7 a8 a9 a10 a11 a12 a13 a14 a15 r) 12=a12:=rfl
theorem wp4:nh (ch a0 a1 a2 a3 a4 a5 a6 a7 a8 a9 a10 a11 a12 a13 a14 a15 r) 12 = !a12.xeo:=rfl
theorem yoq:(ch a0 a1 a2 a3 a4 a5 a6 a7 a8 a9 a10 a11 a12 a13 a14 a15 r).set 12 x=ch a0 a1 a2 a3 a4 a5 a6 a7 a8 a9 a10 a11 x a13 a14 a15 r:=rfl
theorem z7r:gt (ch a0 a1 a2 a3 a4 a5 a6 a7 a8 a9 a10 a11 a12 a13 a14 a15 r) 13=a13:=rfl
theorem x1f:nh (ch a0 a1 a2 a3 a4 a5 a6 a7 a8 a9 a10 a11 a12 a13 a14 a15 r) 13 = !a13.xeo:=rfl
theorem vje:(ch a0 a1 a2 a3 a4 a5 a6 a7 a8 a9 a10 a11 a12 a13 a14 a15 r).set 13 x=ch a0 a1 a2 a3 a4 a5 a6 a7 a8 a9 a10 a11 a12 x a14 a15 r:=rfl
theorem viq:gt (ch a0 a1 a2 a3 a4 a5 a6 a7 a8 a9 a10 a11 a12 a13 a14 a15 r) 14=a14:=rfl
theorem zhm:nh (ch a0 a1 a2 a3 a4 a5 a6 a7 a8 a9 a10 a11 a12 a13 a14 a15 r) 14 = !a14.xeo:=rfl
theorem vgq:(ch a0 a1 a2 a3 a4 a5 a6 a7 a8 a9 a10 a11 a12 a13 a14 a15 r).set 14 x=ch a0 a1 a2 a3 a4 a5 a6 a7 a8 a9 a10 a11 a12 a13 x a15 r:=rfl
theorem x9n:gt (ch a0 a1 a2 a3 a4 a5 a6 a7 a8 a9 a10 a11 a12 a13 a14 a15 r) 15=a15:=rfl
theorem wci:nh (ch a0 a1 a2 a3 a4 a5 a6 a7 a8 a9 a10 a11 a12 a13 a14 a15 r) 15 = !a15.xeo:=rfl
theorem xcv:(ch a0 a1 a2 a3 a4 a5 a6 a7 a8 a9 a10 a11 a12 a13 a14 a15 r).set 15 x=ch a0 a1 a2 a3 a4 a5 a6 a7 a8 a9 a10 a11 a12 a13 a14 x r:=rfl
theorem y3d:gt (ch a0 a1 a2 a3 a4 a5 a6 a7 a8 a9 a10 a11 a12 a13 a14 a15 r) (n+16)=gt r n:=rfl
theorem x1m:nh (ch a0 a1 a2 a3 a4 a5 a6 a7 a8 a9 a10 a11 a12 a13 a14 a15 r) (n+16)=nh r n:=rfl
theorem xu2:(ch a0 a1 a2 a3 a4 a5 a6 a7 a8 a9 a10 a11 a12 a13 a14 a15 r).set (n+16) x=ch a0 a1 a2 a3 a4 a5 a6 a7 a8 a9 a10 a11 a12 a13 a14 a15 (r.set n x):=rfl
theorem vt1:vh6 (a0::a1::a2::a3::a4::a5::a6::a7::a8::a9::a10::a11::a12::a13::a14::a15::r)=ch a0 a1 a2 a3 a4 a5 a6 a7 a8 a9 a10 a11 a12 a13 a14 a15 (vh6 r):=rfl
theorem ynk:vh6 (ch a0 a1 a2 a3 a4 a5 a6 a7 a8 a9 a10 a11 a12 a13 a14 a15 r)=ch a0 a1 a2 a3 a4 a5 a6 a7 a8 a9 a10 a11 a12 a13 a14 a15 (vh6 r):=rfl
theorem z5p:vh6 []=[]:=rfl
theorem wh7:vh6 [a0]=[a0]:=rfl
theorem v56:vh6 [a0,a1]=[a0,a1]:=rfl
theorem v3k:vh6 [a0,a1,a2]=[a0,a1,a2]:=rfl
theorem v01:vh6 [a0,a1,a2,a3]=[a0,a1,a2,a3]:=rfl
theorem ykf:vh6 [a0,a1,a2,a3,a4]=[a0,a1,a2,a3,a4]:=rfl
theorem w1x:vh6 [a0,a1,a2,a3,a4,a5]=[a0,a1,a2,a3,a4,a5]:=rfl
theorem x5n:vh6 [a0,a1,a2,a3,a4,a5,a6]=[a0,a1,a2,a3,a4,a5,a6]:=rfl
theorem zr9:vh6 [a0,a1,a2,a3,a4,a5,a6,a7]=[a0,a1,a2,a3,a4,a5,a6,a7]:=rfl
theorem yiq:vh6 [a0,a1,a2,a3,a4,a5,a6,a7,a8]=[a0,a1,a2,a3,a4,a5,a6,a7,a8]:=rfl
theorem zbz:vh6 [a0,a1,a2,a3,a4,a5,a6,a7,a8,a9]=[a0,a1,a2,a3,a4,a5,a6,a7,a8,a9]:=rfl
theorem v77:vh6 [a0,a1,a2,a3,a4,a5,a6,a7,a8,a9,a10]=[a0,a1,a2,a3,a4,a5,a6,a7,a8,a9,a10]:=rfl
theorem wkj:vh6 [a0,a1,a2,a3,a4,a5,a6,a7,a8,a9,a10,a11]=[a0,a1,a2,a3,a4,a5,a6,a7,a8,a9,a10,a11]:=rfl
theorem xxp:vh6 [a0,a1,a2,a3,a4,a5,a6,a7,a8,a9,a10,a11,a12]=[a0,a1,a2,a3,a4,a5,a6,a7,a8,a9,a10,a11,a12]:=rfl
theorem zdj:vh6 [a0,a1,a2,a3,a4,a5,a6,a7,a8,a9,a10,a11,a12,a13]=[a0,a1,a2,a3,a4,a5,a6,a7,a8,a9,a10,a11,a12,a13]:=rfl
theorem yul:vh6 [a0,a1,a2,a3,a4,a5,a6,a7,a8,a9,a10,a11,a12,a13,a14]=[a0,a1,a2,a3,a4,a5,a6,a7,a8,a9,a10,a11,a12,a13,a14]:=rfl
theorem xz3 {tk:List Nat}:zcm tk i (ch a0 a1 a2 a3 a4 a5 a6 a7 a8 a9 a10 a11 a12 a13 a14 a15 r)=zcm tk i (a0::a1::a2::a3::a4::a5::a6::a7::a8::a9::a10::a11::a12::a13::a14::a15::r):=rfl
theorem v5d {s:Nat}:v5c s i (ch a0 a1 a2 a3 a4 a5 a6 a7 a8 a9 a10 a11 a12 a13 a14 a15 r)=v5c s i (a0::a1::a2::a3::a4::a5::a6::a7::a8::a9::a10::a11::a12::a13::a14::a15::r):=rfl
theorem wd1 {s:Nat} {hv:AV}:vn0 s hv i (ch a0 a1 a2 a3 a4 a5 a6 a7 a8 a9 a10 a11 a12 a13 a14 a15 r)=vn0 s hv i (a0::a1::a2::a3::a4::a5::a6::a7::a8::a9::a10::a11::a12::a13::a14::a15::r):=rfl
theorem vq2 {s:Nat}:voy s i (ch a0 a1 a2 a3 a4 a5 a6 a7 a8 a9 a10 a11 a12 a13 a14 a15 r)=voy s i (a0::a1::a2::a3::a4::a5::a6::a7::a8::a9::a10::a11::a12::a13::a14::a15::r):=rfl
theorem wsn {ks:List Nat}:y05 ks i (ch a0 a1 a2 a3 a4 a5 a6 a7 a8 a9 a10 a11 a12 a13 a14 a15 r)=y05 ks i (a0::a1::a2::a3::a4::a5::a6::a7::a8::a9::a10::a11::a12::a13::a14::a15::r):=rfl
end
attribute [go_sem] v23 zux xm2 wtx w3g w7b wwi y22 wyw x19 w0l xqe yti z0m vfi v4t w8e zi4 xaf y01 yf9 vlo ze6 xet x1e ypn yis xvk y82 ycm yyu xe6 ywy yw2 vbb wuf zbf wp4 yoq z7r x1f vje viq zhm vgq x9n wci xcv y3d x1m xu2 vt1 ynk z5p wh7 v56 v3k v01 ykf w1x x5n zr9 yiq zbz v77 wkj xxp zdj yul xz3 v5d wd1 vq2 wsn
theorem y8h:app [] I=I:=rfl
theorem wag {p:Nat×AV} {r:List (Nat×AV)}:app (p::r) I=app r (I.set p.1 p.2):=rfl
theorem z0p {t:Nat}:opd I (.tmp t)=gt I t:=rfl
theorem zaz {k:IntKind} {n:Int}:opd I (.const (.int k n))=.one (.raw (.int k n)):=rfl
theorem ysv:opd I (.const (.bool b))=.one (.raw (.bool b)):=rfl
theorem y0i {s:ByteArray}:opd I (.const (.string s))=.one (.raw (.string s)):=rfl
theorem zpo {a:Option Addr} {l c:Nat}:opd I (.const (.slice a l c))=.one (.raw (.slice a l c)):=rfl
theorem yip {vs:Array Value}:opd I (.const (.agg vs))=z1h (.agg vs):=rfl
theorem ytv {f:FuncId}:opd I (.func f)=.one (.raw (.func (.func f) #[] #[])):=rfl
theorem zr3 {o:Oper} {rd:List Nat} {av:AV}:val I o rd av=match o.dst with
 | some d=>if nh I d then some (d::rd,[(d,av)]) else none
 | none=>none:=rfl
theorem vmr {x:List Nat×List (Nat×AV)}:OR.of (some x)=.eff x.1 [] x.2:=rfl
theorem y4p:OR.of none=.bad:=rfl
theorem w02 {s b:Nat} {z:List Cell} {sh:Sh}:TI.many ⟨s,b,z,sh⟩=if sh.agg then some true else if sh.plain then some false else none:=rfl
theorem x14 {t:TypeId} {ti:TI} (h:mkTI P t=some ti) {k:TI->OR}:wgg P t k=k ti:=by unfold wgg;rw [h]
theorem y5g [Decidable c] {a b:α} (h:c):(if c then a else b)=a:=if_pos h
theorem wt3 [Decidable c] {a b:α} (h:¬c):(if c then a else b)=b:=if_neg h
theorem w64 {n:Int} (h:-9223372036854775808<=n/\n<=9223372036854775807):IntKind.i64.wrap n=n:=by rw [IntKind.wrap_i64];omega
theorem vdu (f:α->β) (a:α):(some a).map f=some (f a):=rfl
theorem yj5 (f:α->β):(none:Option α).map f=none:=rfl
theorem w6q (f:α->Option β) (a:α):(some a).bind f=f a:=rfl
theorem beqI {a b:Int}:(a==b)=decide (a=b):=rfl
theorem bneI {a b:Int}:(a != b)=decide (a≠b):=by simp [bne,beqI]
theorem yy0 {a b:α}:(bif true then a else b)=a:=rfl
theorem zdc {a b:α}:(bif false then a else b)=b:=rfl
attribute [go_sem 100] y5g wt3
attribute [go_sem 10000] if_true if_false
attribute [go_sem] w64
attribute [go_sem] beqI bneI yy0 zdc
attribute [go_sem ↓] wfv x6a
attribute [go_sem] wcr whn
attribute [go_sem] ykm z5i x8y zw2 wj2 yzg
attribute [congr] vq6 zr0
attribute [go_sem] v2l zrz wnu wdg y8h wag z0p zaz ysv y0i zpo yip ytv zr3 vmr y4p w02
attribute [go_sem] vdu yj5 w6q List.set_cons_zero List.set_cons_succ Option.getD_some Option.getD_none List.getElem?_cons_zero List.getElem?_cons_succ List.getElem?_nil
attribute [go_sem] zai z9m Cell.xhr wai wcu ghOf ghL ghA y0x frz vn0 zma AV.frzd Cell.sub Cell.at Cell.upd Cell.cnt Cell.esz AV.vwb AV.xuy AV.fresh xch AV.wls x8a
attribute [go_sem] wcq wlk z7d yeg x5i wlx y05 anyH v31 zcq isK
attribute [go_sem] opA opA0 opL selO litA litB litE isNone ya9 y00 isZc zcAt ownN w6x isX opX nilO nilV tiX valX maxV eqOp vub bbA vcv wbc y7m nilA nilC x5m vmt hitB yga voy zzc mvS AV.rf
attribute [go_sem] vmw xtk opB vofA vofB vw7 z4h v27 cpy zlz xwy v72 wjl ywr xjw vz9 elemAt zxf abin binA aun unA vwq lenC lenA zps xmh Cell.isSl natA vwf orrO cutC x4g zqp
attribute [go_sem] yys xsx orrs placeOf v7w w6n chunk yql xw9 wxa vbz wch ownC z3f w0m argA zvb orrL xl0 xas ydq vr2 orr AV.xeo AV.w7h AV.y10 Sh.agg Sh.plain Cell.bare vc2 z1h
attribute [go_sem] zb3 x3g yhv AV.wi1 z3p Cell.wi1 AV.vtf
attribute [go_sem] List.take_succ_cons List.take_zero List.drop_succ_cons List.drop_zero List.drop_nil List.take_nil List.length_cons List.length_nil List.cons_append List.nil_append List.append_nil List.all_cons List.all_nil List.map_cons List.map_nil
theorem bq3:(false==b) = !b:=by cases b<;>rfl
attribute [go_sem] bq3 List.foldl_cons List.foldl_nil AV.strip Cell.strip yvb
attribute [go_sem] Bool.not_true Bool.not_false Bool.false_eq_true Bool.true_and Bool.and_true Bool.false_and Bool.and_false true_and and_true and_self cond_true cond_false not_true_eq_false not_false_eq_true
attribute [go_sem] Nat.zero_add Nat.add_zero List.drop_length List.take_length List.length_set List.length_replicate
attribute [go_sem] decide_true decide_false beq_self_eq_true bne_self_eq_false Option.toList Int.toNat_natCast List.toList_toArray
def yuk (s:ByteArray) (i:Nat):Int:=((s.data[i]?).getD 0).toNat
end Go.Slot
namespace Go.Hp
open Go Go.RowKit Go.Slot
variable {o b i:Nat} {v:Value}
inductive HC where
 | any
 | dat (c:Cell)
 | ptr (b off:Nat)
 | pel (b es i f:Nat)
 | sl (b es lo n:Nat)
 | mp (b:Nat)
 | fnr (b:Nat)
inductive SV where
 | any
 | undef
 | one (h:HC)
 | agg (hs:List HC)
 | tup (l:List SV)
 | elt (cs:List Cell)
inductive SB where
 | fresh
 | dead
 | box (hs:List HC) (T:Option TypeId)
 | arr (c:Cell) (k:Nat) (T:Option TypeId)
 | map (es:List (Value×SV))
 | clo (f:FuncId) (caps:List SV)
variable {x x':SB}
def SB.own:SB->Bool
 | .box _ _ | .arr _ _ _ | .map _=>true
 | _=>false
def SB.mut (o:Nat):SB->Prop
 | .box _ _=>True
 | .arr _ k _=>k<=o
 | _=>False
theorem SB.zgj (h:x.mut o):x.own=true:=by cases x<;>first | rfl | exact h.elim
def bk:Value->Nat
 | .map (some b)=>b
 | v=>blk v
def okB (J:List SB) (b:Nat):Prop:=∃ x,J[b]? = some x/\x≠.fresh
def real (v:Value):Prop:=v≠.pointer none
def Xb (ρ:Nat->Value) (J:List SB) (k:Nat):Prop:=∃ i x,J[i]? = some x/\x.own=true/\real (ρ i)/\bk (ρ i)=k
def MX (Mo:Nat->Nat->Prop) (ρ:Nat->Value) (J:List SB) (b o:Nat):Prop:=Mo b o\/∃ i x,J[i]? = some x/\x.mut o/\real (ρ i)/\bk (ρ i)=b
def HRd (J:List SB) (ρ:Nat->Value) (M:Nat->Nat->Prop) (w:World) (v:Value):HC->Prop
 | .any=>v.oneCell'=true
 | .dat c=>RdC M w v c
 | .ptr b off=>okB J b/\v=.pointer (some ⟨bk (ρ b),off,none⟩)
 | .pel b es i f=>okB J b/\v=.pointer (some ⟨bk (ρ b),i*es+f,none⟩)
 | .sl b es lo n=>okB J b/\∃ ad cap,v=.slice ad n cap/\n<=cap/\(cap≠0->real (ρ b)/\ad=some ⟨bk (ρ b),lo*es,none⟩/\∃(arr:Array Value) (T:TypeId) (fz:Nat×Nat),w.heap[bk (ρ b)]? = some (Obj.cells arr T fz)/\(lo+cap)*es<=arr.size)
 | .mp b=>okB J b/\v=ρ b/\v.oneCell'=true
 | .fnr b=>okB J b/\v=ρ b/\v.oneCell'=true
def HRL (J:List SB) (ρ:Nat->Value) (M:Nat->Nat->Prop) (w:World):List Value->List HC->Prop
 | [],[]=>True
 | v::vs,h::hs=>HRd J ρ M w v h/\HRL J ρ M w vs hs
 | _,_=>False
def SVR0 (J:List SB) (ρ:Nat->Value) (M:Nat->Nat->Prop) (w:World) (v:Value):SV->Prop
 | .any=>True
 | .undef=>v=Go.undef
 | .one h=>HRd J ρ M w v h
 | .agg hs=>∃ vs:List Value,v=.agg vs.toArray/\HRL J ρ M w vs hs
 | .elt cs=>∃(b off:Nat) (vs:List Value),v=.pointer (some ⟨b,off,none⟩)/\(∀ j u,vs[j]? = some u->¬M b (off+j)/\w.cell? ⟨b,off+j,none⟩=some u)/\RdD M w vs cs
 | .tup _=>False
def SRL (J:List SB) (ρ:Nat->Value) (M:Nat->Nat->Prop) (w:World):List Value->List SV->Prop
 | [],[]=>True
 | v::vs,x::l=>SVR0 J ρ M w v x/\SRL J ρ M w vs l
 | _,_=>False
def SVR (J:List SB) (ρ:Nat->Value) (M:Nat->Nat->Prop) (w:World) (v:Value):SV->Prop
 | .tup l=>∃ vs:List Value,v=.tuple vs.toArray/\SRL J ρ M w vs l
 | x=>SVR0 J ρ M w v x
def EnR (J:List SB) (ρ:Nat->Value) (M:Nat->Nat->Prop) (w:World):List MapEntry->List (Value×SV)->Prop
 | [],[]=>True
 | e::es,p::l=>(e.key=p.1/\SVR0 J ρ M w e.val p.2)/\EnR J ρ M w es l
 | _,_=>False
def SBR (J:List SB) (ρ:Nat->Value) (M:Nat->Nat->Prop) (w:World) (v:Value):SB->Prop
 | .fresh | .dead=>True
 | .box hs t=>∃(b:Nat) (vs:List Value) (T:TypeId),v=.pointer (some ⟨b,0,none⟩)/\w.heap[b]? = some (.cells vs.toArray T (0,0))/\HRL J ρ M w vs hs/\∀ t',t=some t'->T=t'
 | .arr c k t=>(c.uni/\k<=c.cnt*c.esz)/\((c.cnt=0/\v=.pointer none)\/∃(b:Nat) (vs q:List Value) (T:TypeId),v=.pointer (some ⟨b,0,none⟩)/\w.heap[b]? = some (.cells (vs++q).toArray T (0,0))/\RdD M w vs c.flat/\∀ t',t=some t'->T=t')
 | .map es=>∃(b:Nat) (ents:Array MapEntry) (clk:Nat),v=.map (some b)/\w.heap[b]? = some (.map ents clk)/\EnR J ρ M w ents.toList es
 | .clo f caps=>∃ cv:List Value,v=.func (.func f) #[] cv.toArray/\SRL J ρ M w cv caps
def Grow (w w':World):Prop:=∀(b:Nat) (arr:Array Value) (T:TypeId) (fz:Nat×Nat),w.heap[b]? = some (Obj.cells arr T fz)->∃(arr':Array Value) (T':TypeId) (fz':Nat×Nat),w'.heap[b]? = some (Obj.cells arr' T' fz')/\arr.size<=arr'.size
theorem Grow.refl (w:World):Grow w w:=fun _ arr T fz h=>⟨arr,T,fz,h,Nat.le_refl _⟩
theorem Grow.trans {a b c:World} (h:Grow a b) (k:Grow b c):Grow a c:=fun i arr T fz hi=>by
 obtain ⟨arr',T',fz',h1,h2⟩:=h i arr T fz hi;obtain ⟨arr2,T2,fz2,h3,h4⟩:=k i arr' T' fz' h1;exact ⟨arr2,T2,fz2,h3,Nat.le_trans h2 h4⟩
theorem Grow.below {w w':World} (h:Below w.heap.size w w'):Grow w w':=fun b arr T fz hb=>
 ⟨arr,T,fz,(h.block b (Array.getElem?_eq_some_iff.1 hb).1).trans hb,Nat.le_refl _⟩
structure Mv (J:List SB) (ρ:Nat->Value) (M:Nat->Nat->Prop) (w:World) (J':List SB) (ρ':Nat->Value) (M':Nat->Nat->Prop) (w':World):Prop where
 ok:∀ b,okB J b->okB J' b
 rho:∀ b,okB J b->ρ' b=ρ b
 keep:wf2 M M' w w'
 grow:Grow w w'
section
variable {J J':List SB} {ρ ρ':Nat->Value} {M M':Nat->Nat->Prop} {w w':World}
theorem HRd.mv (m:Mv J ρ M w J' ρ' M' w') {h:HC} (hr:HRd J ρ M w v h):HRd J' ρ' M' w' v h:=by
 cases h with
 | any=>exact hr
 | dat c=>exact RdC.keep m.keep hr
 | ptr b off=>exact ⟨m.ok b hr.1,by rw [m.rho b hr.1];exact hr.2⟩
 | pel b es i f=>exact ⟨m.ok b hr.1,by rw [m.rho b hr.1];exact hr.2⟩
 | sl b es lo n=>
  obtain ⟨ho,ad,cap,hv,hn,hc⟩:=hr;refine ⟨m.ok b ho,ad,cap,hv,hn,fun h0=>?_⟩;obtain ⟨hre,h1,arr,T,fz,h2,h3⟩:=hc h0;rw [m.rho b ho];obtain ⟨arr',T',fz',h4,h5⟩:=m.grow _ _ _ _ h2;exact ⟨hre,h1,arr',T',fz',h4,Nat.le_trans h3 h5⟩
 | mp b=>exact ⟨m.ok b hr.1,by rw [m.rho b hr.1];exact hr.2⟩
 | fnr b=>exact ⟨m.ok b hr.1,by rw [m.rho b hr.1];exact hr.2⟩
theorem HRL.mv (m:Mv J ρ M w J' ρ' M' w'):∀{vs:List Value} {hs:List HC},HRL J ρ M w vs hs->HRL J' ρ' M' w' vs hs
 | [],[],_=>trivial
 | _::_,_::_,h=>⟨h.1.mv m,h.2.mv m⟩
theorem SVR0.mv (m:Mv J ρ M w J' ρ' M' w') {v:Value} {x:SV} (h:SVR0 J ρ M w v x):SVR0 J' ρ' M' w' v x:=by
 cases x with
 | one c=>exact HRd.mv m h
 | agg cs=>obtain ⟨vs,rfl,h⟩:=h;exact ⟨vs,rfl,h.mv m⟩
 | elt cs=>obtain ⟨b,off,vs,rfl,hc,h⟩:=h;exact ⟨b,off,vs,rfl,fun j u hj=>m.keep _ _ _ (hc j u hj).1 (hc j u hj).2,h.keep m.keep⟩
 | _=>exact h
theorem SRL.mv (m:Mv J ρ M w J' ρ' M' w'):∀{vs:List Value} {l:List SV},SRL J ρ M w vs l->SRL J' ρ' M' w' vs l
 | [],[],_=>trivial
 | _::_,_::_,h=>⟨h.1.mv m,h.2.mv m⟩
theorem SVR.of0 {x:SV} (h:SVR0 J ρ M w v x):SVR J ρ M w v x:=by
 cases x<;>first | exact h | exact h.elim
theorem SVR.mv (m:Mv J ρ M w J' ρ' M' w') {v:Value} {x:SV} (h:SVR J ρ M w v x):SVR J' ρ' M' w' v x:=by
 cases x with
 | tup l=>obtain ⟨vs,rfl,h⟩:=h;exact ⟨vs,rfl,h.mv m⟩
 | _=>exact SVR.of0 (SVR0.mv m h)
theorem EnR.mv (m:Mv J ρ M w J' ρ' M' w'):∀{es:List MapEntry} {l:List (Value×SV)},EnR J ρ M w es l->EnR J' ρ' M' w' es l
 | [],[],_=>trivial
 | _::_,_::_,h=>⟨⟨h.1.1,h.1.2.mv m⟩,h.2.mv m⟩
theorem SBR.mv (m:Mv J ρ M w J' ρ' M' w') {v:Value} {x:SB} (hh:x.own=true->real v->w'.heap[bk v]? = w.heap[bk v]?) (h:SBR J ρ M w v x):SBR J' ρ' M' w' v x:=by
 cases x with
 | fresh=>trivial
 | dead=>trivial
 | box hs t=>obtain ⟨b,vs,T,rfl,hb,h,ht⟩:=h;exact ⟨b,vs,T,rfl,(hh rfl (by simp [real])).trans hb,h.mv m,ht⟩
 | arr c k t=>
  obtain ⟨hu,h | ⟨b,vs,q,T,rfl,hb,h,hk⟩⟩:=h
  . exact ⟨hu,.inl h⟩
  . exact ⟨hu,.inr ⟨b,vs,q,T,rfl,(hh rfl (by simp [real])).trans hb,h.keep m.keep,hk⟩⟩
 | map es=>obtain ⟨b,ents,clk,rfl,hb,h⟩:=h;exact ⟨b,ents,clk,rfl,(hh rfl (by simp [real])).trans hb,h.mv m⟩
 | clo f caps=>obtain ⟨cv,rfl,h⟩:=h;exact ⟨cv,rfl,h.mv m⟩
theorem SBR.whw (h:SBR J ρ M w v x) (ho:x.own=true) (hr:real v):bk v<w.heap.size:=by
 cases x with
 | box hs t=>obtain ⟨b,vs,T,rfl,hb,_⟩:=h;exact (Array.getElem?_eq_some_iff.1 hb).1
 | arr c k t=>
  obtain ⟨_,⟨_,e⟩ | ⟨b,vs,q,T,rfl,hb,_⟩⟩:=h
  . exact absurd e hr
  . exact (Array.getElem?_eq_some_iff.1 hb).1
 | map es=>obtain ⟨b,ents,clk,rfl,hb,_⟩:=h;exact (Array.getElem?_eq_some_iff.1 hb).1
 | _=>cases ho
theorem HRd.one {v:Value} {h:HC} (hr:HRd J ρ M w v h):v.oneCell'=true:=by
 cases h with
 | any=>exact hr
 | dat c=>exact RdC.one hr
 | ptr b off=>rw [hr.2];rfl
 | pel b es i f=>rw [hr.2];rfl
 | sl b es lo n=>obtain ⟨_,ad,cap,rfl,_⟩:=hr;rfl
 | mp b=>exact hr.2.2
 | fnr b=>exact hr.2.2
theorem HRL.ones:∀{vs:List Value} {hs:List HC},HRL J ρ M w vs hs->∀ v∈vs,v.oneCell'=true
 | [],[],_,v,hv=>by simp at hv
 | u::vs,_::_,h,v,hv=>by
  rcases List.mem_cons.1 hv with rfl | hv
  . exact h.1.one
  . exact h.2.ones v hv
theorem HRL.length:∀{vs:List Value} {hs:List HC},HRL J ρ M w vs hs->vs.length=hs.length
 | [],[],_=>rfl
 | _::_,_::_,h=>by simp [h.2.length]
theorem SRL.length:∀{vs:List Value} {l:List SV},SRL J ρ M w vs l->vs.length=l.length
 | [],[],_=>rfl
 | _::_,_::_,h=>by simp [h.2.length]
theorem HRL.drop:∀(n:Nat) {vs:List Value} {cs:List HC},HRL J ρ M w vs cs->HRL J ρ M w (vs.drop n) (cs.drop n)
 | 0,_,_,h=>by simpa using h
 | n+1,[],[],_=>trivial
 | n+1,_::_,_::_,h=>by simpa using h.2.drop n
theorem HRL.take:∀(n:Nat) {vs:List Value} {cs:List HC},HRL J ρ M w vs cs->HRL J ρ M w (vs.take n) (cs.take n)
 | 0,_,_,_=>trivial
 | _n+1,[],[],_=>trivial
 | n+1,_::_,_::_,h=>⟨h.1,h.2.take n⟩
theorem HRL.append:∀{vs:List Value} {cs:List HC} {us:List Value} {ds:List HC},HRL J ρ M w vs cs->HRL J ρ M w us ds->HRL J ρ M w (vs++us) (cs++ds)
 | [],[],_,_,_,h=>h
 | _::_,_::_,_,_,h,h'=>⟨h.1,h.2.append h'⟩
theorem SRL.append:∀{vs:List Value} {cs:List SV} {us:List Value} {ds:List SV},SRL J ρ M w vs cs->SRL J ρ M w us ds->SRL J ρ M w (vs++us) (cs++ds)
 | [],[],_,_,_,h=>h
 | _::_,_::_,_,_,h,h'=>⟨h.1,h.2.append h'⟩
theorem SRL.get:∀{vs:List Value} {cs:List SV},SRL J ρ M w vs cs->∀(j:Nat) (c:SV),cs[j]? = some c->∃ v,vs[j]? = some v/\SVR0 J ρ M w v c
 | [],[],_,j,c,hc=>by simp at hc
 | v::vs,c'::cs,h,0,c,hc=>by simp at hc;subst hc;exact ⟨v,by simp,h.1⟩
 | v::vs,c'::cs,h,j+1,c,hc=>by simpa using h.2.get j c (by simpa using hc)
theorem HRL.get:∀{vs:List Value} {cs:List HC},HRL J ρ M w vs cs->∀(j:Nat) (c:HC),cs[j]? = some c->∃ v,vs[j]? = some v/\HRd J ρ M w v c
 | [],[],_,j,c,hc=>by simp at hc
 | v::vs,c'::cs,h,0,c,hc=>by simp at hc;subst hc;exact ⟨v,by simp,h.1⟩
 | v::vs,c'::cs,h,j+1,c,hc=>by simpa using h.2.get j c (by simpa using hc)
theorem RdD.hrl:∀{vs:List Value} {cs:List Cell},RdD M w vs cs->HRL J ρ M w vs (cs.map .dat)
 | [],[],_=>trivial
 | _::_,_::_,h=>⟨h.1,RdD.hrl h.2⟩
end
def y72 (Γ:List (Nat×List Cell)) (M:Nat->Nat->Prop) (w:World):Prop:=
 ∀ g cs,(g,cs)∈Γ->∃ vs:List Value,(∀ j u,vs[j]? = some u->¬M g j/\w.cell? ⟨g,j,none⟩=some u)/\RdD M w vs cs
theorem y72.keep {Γ:List (Nat×List Cell)} {M M':Nat->Nat->Prop} {w w':World} (hk:wf2 M M' w w') (h:y72 Γ M w):y72 Γ M' w':=fun g cs hg=>by
 obtain ⟨vs,h1,h2⟩:=h g cs hg;exact ⟨vs,fun j u hj=>hk _ _ _ (h1 j u hj).1 (h1 j u hj).2,h2.keep hk⟩
structure HInv (Γ:List (Nat×List Cell)) (Mo:Nat->Nat->Prop) (ρ:Nat->Value) (J:List SB) (w:World):Prop where
 bnd:∀ b o,Mo b o->b<w.heap.size
 blk:∀ i x,J[i]? = some x->SBR J ρ (MX Mo ρ J) w (ρ i) x
 inj:∀ i j x y,J[i]? = some x->J[j]? = some y->x.own=true->y.own=true->real (ρ i)->real (ρ j)->bk (ρ i)=bk (ρ j)->i=j
 sep:∀ i x,J[i]? = some x->x.own=true->real (ρ i)->∀ o,¬Mo (bk (ρ i)) o
 glob:y72 Γ (MX Mo ρ J) w
structure Went (Γ:List (Nat×List Cell)) (Mo:Nat->Nat->Prop) (ρ:Nat->Value) (J:List SB) (w:World) (ρ':Nat->Value) (J':List SB) (w':World):Prop where
 ok:∀ b,okB J b->okB J' b
 rho:∀ b,okB J b->ρ' b=ρ b
 keep:wf2 (MX Mo ρ J) (MX Mo ρ' J') w w'
 grow:Grow w w'
 inv:HInv Γ Mo ρ' J' w'
 size:w.heap.size<=w'.heap.size
 os:w'.os=w.os
 tape:w'.tape=w.tape
 output:w'.output=w.output
 frame:∀ k,k<w.heap.size->¬Xb ρ J k->w'.heap[k]? = w.heap[k]?
 fresh:∀ k,Xb ρ' J' k->w.heap.size<=k\/Xb ρ J k
section
variable {Γ:List (Nat×List Cell)} {Mo:Nat->Nat->Prop} {J J' J'':List SB} {ρ ρ' ρ'':Nat->Value} {w w' w'':World}
theorem Went.mv (h:Went Γ Mo ρ J w ρ' J' w'):Mv J ρ (MX Mo ρ J) w J' ρ' (MX Mo ρ' J') w':=⟨h.ok,h.rho,h.keep,h.grow⟩
theorem Went.refl (h:HInv Γ Mo ρ J w):Went Γ Mo ρ J w ρ J w:=
 ⟨fun _ h=>h,fun _ _=>rfl,fun _ _ _ h1 h2=>⟨h1,h2⟩,Grow.refl w,h,Nat.le_refl _,rfl,rfl,rfl,fun _ _ _=>rfl,fun _ h=>.inr h⟩
theorem Went.trans (h:Went Γ Mo ρ J w ρ' J' w') (k:Went Γ Mo ρ' J' w' ρ'' J'' w''):Went Γ Mo ρ J w ρ'' J'' w'' where
 ok:=fun b hb=>k.ok b (h.ok b hb)
 rho:=fun b hb=>(k.rho b (h.ok b hb)).trans (h.rho b hb)
 keep:=h.keep.trans k.keep
 grow:=h.grow.trans k.grow
 inv:=k.inv
 size:=Nat.le_trans h.size k.size
 os:=k.os.trans h.os
 tape:=k.tape.trans h.tape
 output:=k.output.trans h.output
 frame:=fun i hi hx=>(k.frame i (Nat.lt_of_lt_of_le hi h.size) (fun h1=>by
  rcases h.fresh i h1 with h2 | h2
  . omega
  . exact hx h2)).trans (h.frame i hi hx)
 fresh:=fun i hx=>by
  rcases k.fresh i hx with h1 | h1
  . exact .inl (Nat.le_trans h.size h1)
  . exact h.fresh i h1
theorem w2t (hx:x≠.fresh) (h:okB J b):okB (J.set i x) b:=by
 obtain ⟨y,h1,h2⟩:=h;unfold okB;rw [List.getElem?_set]
 split
 . rename_i e;subst e;rw [if_pos (List.getElem?_eq_some_iff.1 h1).1];exact ⟨x,rfl,hx⟩
 . exact ⟨y,h1,h2⟩
theorem v3t (l:List SB) (h:okB J b):okB (J++l) b:=by
 obtain ⟨y,h1,h2⟩:=h;exact ⟨y,by rw [List.getElem?_append_left (List.getElem?_eq_some_iff.1 h1).1];exact h1,h2⟩
theorem yu6 {α:Type} {l:List α} {d:Nat} {x y:α} (h:(l.set d x)[i]? = some y):(i=d/\y=x)\/(i≠d/\l[i]? = some y):=getElem?_set_cases h
theorem HInv.below (h:HInv Γ Mo ρ J w) (hb:Below w.heap.size w w'):HInv Γ Mo ρ J w' where
 bnd:=fun b o ho=>Nat.lt_of_lt_of_le (h.bnd b o ho) hb.size
 blk:=fun i x hi=>(h.blk i x hi).mv ⟨fun _ h=>h,fun _ _=>rfl,wf2.below hb,Grow.below hb⟩ (fun ho hr=>hb.block _ ((h.blk i x hi).whw ho hr))
 inj:=h.inj
 sep:=h.sep
 glob:=h.glob.keep (wf2.below hb)
theorem Went.below (h:HInv Γ Mo ρ J w) (hb:Below w.heap.size w w'):Went Γ Mo ρ J w ρ J w':=
 ⟨fun _ h=>h,fun _ _=>rfl,wf2.below hb,Grow.below hb,h.below hb,hb.size,hb.os,hb.tape,hb.output,fun k hk _=>hb.block k hk,fun _ h=>.inr h⟩
theorem x02 (h:HInv Γ Mo ρ J w) (hm:MX Mo ρ J b o):b<w.heap.size:=by
 rcases hm with hm | ⟨i,x,hi,hx,hr,rfl⟩
 . exact h.bnd b o hm
 . exact (h.blk i x hi).whw (SB.zgj hx) hr
theorem yri {n:Nat} (h:(J++List.replicate n .fresh)[i]? = some x):J[i]? = some x\/(J.length<=i/\x=.fresh):=by
 rw [List.getElem?_append] at h;split at h
 . exact .inl h
 . rw [List.getElem?_replicate] at h;split at h
   . cases h;exact .inr ⟨by omega,rfl⟩
   . cases h
theorem Went.extend (h:HInv Γ Mo ρ J w) (n:Nat):Went Γ Mo ρ J w ρ (J++List.replicate n .fresh) w:=by
 have hM:∀ b o,MX Mo ρ (J++List.replicate n .fresh) b o->MX Mo ρ J b o:=by
  rintro b o (hm | ⟨i,x,hi,hx,hr⟩)
  . exact .inl hm
  . rcases yri hi with hi | ⟨_,rfl⟩
    . exact .inr ⟨i,x,hi,hx,hr⟩
    . exact hx.elim
 have hk:wf2 (MX Mo ρ J) (MX Mo ρ (J++List.replicate n .fresh)) w w:=fun b o u h1 h2=>⟨fun hm=>h1 (hM b o hm),h2⟩
 refine ⟨fun b hb=>v3t _ hb,fun _ _=>rfl,hk,Grow.refl w,⟨h.bnd,?_,?_,?_,h.glob.keep hk⟩,Nat.le_refl _,rfl,rfl,rfl,fun _ _ _=>rfl,?_⟩
 . intro i x hi
   rcases yri hi with hi | ⟨_,rfl⟩
   . exact (h.blk i x hi).mv ⟨fun b hb=>v3t _ hb,fun _ _=>rfl,hk,Grow.refl w⟩ (fun _ _=>rfl)
   . trivial
 . intro i j x y hi hj hx hy
   rcases yri hi with hi | ⟨_,rfl⟩
   . rcases yri hj with hj | ⟨_,rfl⟩
     . exact h.inj i j x y hi hj hx hy
     . cases hy
   . cases hx
 . intro i x hi hx
   rcases yri hi with hi | ⟨_,rfl⟩
   . exact h.sep i x hi hx
   . cases hx
 . rintro k ⟨i,x,hi,hx,hr⟩
   rcases yri hi with hi | ⟨_,rfl⟩
   . exact .inr ⟨i,x,hi,hx,hr⟩
   . cases hx
def upd (ρ:Nat->Value) (b:Nat) (v:Value):Nat->Value:=fun i=>if i=b then v else ρ i
theorem yr4:upd ρ b v b=v:=by simp [upd]
theorem zwj (h:i≠b):upd ρ b v i=ρ i:=by simp [upd,h]
theorem x9f (h:J[b]? = some .fresh):¬okB J b:=fun ⟨x,h1,h2⟩=>by rw [h] at h1;cases h1;exact h2 rfl
theorem Went.new (h:HInv Γ Mo ρ J w) (hb:Below w.heap.size w w') (hf:J[b]? = some .fresh) (hxf:x≠.fresh)
 (hnew:x.own=true->real v->w.heap.size<=bk v)
 (hok:Mv J ρ (MX Mo ρ J) w (J.set b x) (upd ρ b v) (MX Mo (upd ρ b v) (J.set b x)) w'->SBR (J.set b x) (upd ρ b v) (MX Mo (upd ρ b v) (J.set b x)) w' v x):Went Γ Mo ρ J w (upd ρ b v) (J.set b x) w':=by
 have hne:∀ i,okB J i->i≠b:=fun i hi e=>x9f hf (e▸hi)
 have hM:∀ c o,MX Mo (upd ρ b v) (J.set b x) c o->MX Mo ρ J c o\/(w.heap.size<=c):=by
  rintro c o (hm | ⟨i,y,hi,hy,hr,e⟩)
  . exact .inl (.inl hm)
  . rcases yu6 hi with ⟨rfl,rfl⟩ | ⟨hn,hi⟩
    . rw [yr4] at hr e;exact .inr (e▸hnew (SB.zgj hy) hr)
    . rw [zwj hn] at hr e;exact .inl (.inr ⟨i,y,hi,hy,hr,e⟩)
 have hk:wf2 (MX Mo ρ J) (MX Mo (upd ρ b v) (J.set b x)) w w':=fun c o u h1 h2=>by
  have hl:=World.block_lt_of_cell? w _ h2;refine ⟨fun hm=>?_,(wf2.below hb c o u h1 h2).2⟩
  rcases hM c o hm with hm | hm
  . exact h1 hm
  . simp only at hl;omega
 have hm:Mv J ρ (MX Mo ρ J) w (J.set b x) (upd ρ b v) (MX Mo (upd ρ b v) (J.set b x)) w':=⟨fun i hi=>w2t hxf hi,fun i hi=>zwj (hne i hi),hk,Grow.below hb⟩;refine ⟨hm.ok,hm.rho,hk,hm.grow,⟨fun c o ho=>Nat.lt_of_lt_of_le (h.bnd c o ho) hb.size,?_,?_,?_,h.glob.keep hk⟩,hb.size,hb.os,hb.tape,hb.output,fun k hk _=>hb.block k hk,?_⟩
 . intro i y hi
   rcases yu6 hi with ⟨rfl,rfl⟩ | ⟨hn,hi⟩
   . rw [yr4];exact hok hm
   . rw [zwj hn];exact (h.blk i y hi).mv hm (fun ho hr=>hb.block _ ((h.blk i y hi).whw ho hr))
 . intro i j y z hi hj hy hz hri hrj e
   rcases yu6 hi with ⟨ei,ey⟩ | ⟨hn,hi'⟩
   . rcases yu6 hj with ⟨ej,ez⟩ | ⟨hn',hj'⟩
     . rw [ei,ej]
     . subst ei;subst ey;rw [yr4] at hri e;rw [zwj hn'] at hrj e;have h1:=hnew hy hri;have h2:=(h.blk j z hj').whw hz hrj;omega
   . rcases yu6 hj with ⟨ej,ez⟩ | ⟨hn',hj'⟩
     . subst ej;subst ez;rw [yr4] at hrj e;rw [zwj hn] at hri e;have h1:=hnew hz hrj;have h2:=(h.blk i y hi').whw hy hri;omega
     . rw [zwj hn] at hri e;rw [zwj hn'] at hrj e;exact h.inj i j y z hi' hj' hy hz hri hrj e
 . intro i y hi hy hr o ho
   rcases yu6 hi with ⟨rfl,rfl⟩ | ⟨hn,hi⟩
   . rw [yr4] at hr ho;have h1:=hnew hy hr;have h2:=h.bnd _ _ ho;omega
   . rw [zwj hn] at hr ho;exact h.sep i y hi hy hr o ho
 . rintro k ⟨i,y,hi,hy,hr,e⟩
   rcases yu6 hi with ⟨rfl,rfl⟩ | ⟨hn,hi⟩
   . rw [yr4] at hr e;exact .inl (e▸hnew hy hr)
   . rw [zwj hn] at hr e;exact .inr ⟨i,y,hi,hy,hr,e⟩
theorem Went.write (h:HInv Γ Mo ρ J w) (hx:J[b]? = some x) (ho:x.own=true) (hr:real (ρ b)) (ho':x'.own=true) (hmut:∀ o,x'.mut o↔x.mut o)
 (hsize:w'.heap.size=w.heap.size) (hos:w'.os=w.os) (htape:w'.tape=w.tape) (hout:w'.output=w.output) (hother:∀ k,k≠bk (ρ b)->w'.heap[k]? = w.heap[k]?) (hgrow:Grow w w')
 (hcell:∀ o u,¬x.mut o->w.cell? ⟨bk (ρ b),o,none⟩=some u->w'.cell? ⟨bk (ρ b),o,none⟩=some u)
 (hok:Mv J ρ (MX Mo ρ J) w (J.set b x') ρ (MX Mo ρ (J.set b x')) w'->SBR (J.set b x') ρ (MX Mo ρ (J.set b x')) w' (ρ b) x'):Went Γ Mo ρ J w ρ (J.set b x') w':=by
 have hxf:x'≠.fresh:=fun e=>by rw [e] at ho';cases ho'
 have hlt:b<J.length:=(List.getElem?_eq_some_iff.1 hx).1
 have hM:∀ c o,MX Mo ρ (J.set b x') c o↔MX Mo ρ J c o:=fun c o=>by
  constructor
  . rintro (hm | ⟨i,y,hi,hy,hr,e⟩)
    . exact .inl hm
    . rcases yu6 hi with ⟨rfl,rfl⟩ | ⟨hn,hi⟩
      . exact .inr ⟨i,x,hx,(hmut o).1 hy,hr,e⟩
      . exact .inr ⟨i,y,hi,hy,hr,e⟩
  . rintro (hm | ⟨i,y,hi,hy,hr,e⟩)
    . exact .inl hm
    . by_cases hn:i=b
      . subst hn;rw [hx] at hi;cases hi;exact .inr ⟨i,x',by simp [hlt],(hmut o).2 hy,hr,e⟩
      . exact .inr ⟨i,y,by rw [List.getElem?_set_ne (Ne.symm hn)];exact hi,hy,hr,e⟩
 have hk:wf2 (MX Mo ρ J) (MX Mo ρ (J.set b x')) w w':=fun c o u h1 h2=>by
  refine ⟨fun hm=>h1 ((hM c o).1 hm),?_⟩;by_cases e:c=bk (ρ b)
  . subst e;exact hcell o u (fun hm=>h1 (.inr ⟨b,x,hx,hm,hr,rfl⟩)) h2
  . unfold World.cell? at h2 ⊢;dsimp only at h2 ⊢;rw [hother c e];exact h2
 have hm:Mv J ρ (MX Mo ρ J) w (J.set b x') ρ (MX Mo ρ (J.set b x')) w':=⟨fun i hi=>w2t hxf hi,fun _ _=>rfl,hk,hgrow⟩;refine ⟨hm.ok,hm.rho,hk,hgrow,⟨fun c o hc=>by rw [hsize];exact h.bnd c o hc,?_,?_,?_,h.glob.keep hk⟩,by omega,hos,htape,hout,?_,?_⟩
 . intro i y hi
   rcases yu6 hi with ⟨rfl,rfl⟩ | ⟨hn,hi⟩
   . exact hok hm
   . exact (h.blk i y hi).mv hm (fun hyo hri=>hother _ (fun e=>hn (h.inj i b y x hi hx hyo ho hri hr e)))
 . intro i j y z hi hj hy hz
   have key:∀(k:Nat) (u:SB),(J.set b x')[k]? = some u->u.own=true->∃ u':SB,J[k]? = some u'/\u'.own=true:=fun k u hk hu=>by
    rcases yu6 hk with ⟨rfl,rfl⟩ | ⟨_,hk⟩
    . exact ⟨x,hx,ho⟩
    . exact ⟨u,hk,hu⟩
   obtain ⟨y',h1,h2⟩:=key i y hi hy;obtain ⟨z',h3,h4⟩:=key j z hj hz;exact h.inj i j y' z' h1 h3 h2 h4
 . intro i y hi hy
   rcases yu6 hi with ⟨rfl,rfl⟩ | ⟨_,hi⟩
   . exact h.sep i x hx ho
   . exact h.sep i y hi hy
 . intro k _ hk;exact hother k (fun e=>hk ⟨b,x,hx,ho,hr,e.symm⟩)
 . rintro k ⟨i,y,hi,hy,hr',e⟩
   rcases yu6 hi with ⟨rfl,rfl⟩ | ⟨_,hi⟩
   . exact .inr ⟨i,x,hx,ho,hr',e⟩
   . exact .inr ⟨i,y,hi,hy,hr',e⟩
theorem Went.less (h:HInv Γ Mo ρ J w) (hx:J[b]? = some x) (hxf:x'≠.fresh) (ho:x'.own=true->x.own=true) (hmut:∀ o,x'.mut o->x.mut o)
 (hok:Mv J ρ (MX Mo ρ J) w (J.set b x') ρ (MX Mo ρ (J.set b x')) w->SBR (J.set b x') ρ (MX Mo ρ (J.set b x')) w (ρ b) x'):Went Γ Mo ρ J w ρ (J.set b x') w:=by
 have hM:∀ c o,MX Mo ρ (J.set b x') c o->MX Mo ρ J c o:=by
  rintro c o (hm | ⟨i,y,hi,hy,hr,e⟩)
  . exact .inl hm
  . rcases yu6 hi with ⟨rfl,rfl⟩ | ⟨_,hi⟩
    . exact .inr ⟨i,x,hx,hmut o hy,hr,e⟩
    . exact .inr ⟨i,y,hi,hy,hr,e⟩
 have hk:wf2 (MX Mo ρ J) (MX Mo ρ (J.set b x')) w w:=fun c o u h1 h2=>⟨fun hm=>h1 (hM c o hm),h2⟩
 have hm:Mv J ρ (MX Mo ρ J) w (J.set b x') ρ (MX Mo ρ (J.set b x')) w:=⟨fun i hi=>w2t hxf hi,fun _ _=>rfl,hk,Grow.refl w⟩
 have key:∀(k:Nat) (u:SB),(J.set b x')[k]? = some u->u.own=true->∃ u':SB,J[k]? = some u'/\u'.own=true:=fun k u hk hu=>by
  rcases yu6 hk with ⟨rfl,rfl⟩ | ⟨_,hk⟩
  . exact ⟨x,hx,ho hu⟩
  . exact ⟨u,hk,hu⟩
 refine ⟨hm.ok,hm.rho,hk,hm.grow,⟨h.bnd,?_,?_,?_,h.glob.keep hk⟩,Nat.le_refl _,rfl,rfl,rfl,fun _ _ _=>rfl,?_⟩
 . intro i y hi
   rcases yu6 hi with ⟨rfl,rfl⟩ | ⟨_,hi⟩
   . exact hok hm
   . exact (h.blk i y hi).mv hm (fun _ _=>rfl)
 . intro i j y z hi hj hy hz;obtain ⟨y',h1,h2⟩:=key i y hi hy;obtain ⟨z',h3,h4⟩:=key j z hj hz;exact h.inj i j y' z' h1 h3 h2 h4
 . intro i y hi hy;obtain ⟨y',h1,h2⟩:=key i y hi hy;exact h.sep i y' h1 h2
 . rintro k ⟨i,y,hi,hy,hr',e⟩;obtain ⟨y',h1,h2⟩:=key i y hi hy;exact .inr ⟨i,y',h1,h2,hr',e⟩
theorem Went.move (h:HInv Γ Mo ρ J w) {nb:Nat} (hx:J[b]? = some x) (ho:x.own=true) (hf:J[nb]? = some .fresh):Went Γ Mo ρ J w (upd ρ nb (ρ b)) ((J.set b .dead).set nb x) w:=by
 have hxf:x≠.fresh:=fun e=>by rw [e] at ho;cases ho
 have hbn:b≠nb:=fun e=>by rw [e,hf] at hx;cases hx;exact hxf rfl
 have hlb:b<J.length:=(List.getElem?_eq_some_iff.1 hx).1;have hln:nb<J.length:=(List.getElem?_eq_some_iff.1 hf).1
 have key:∀(i:Nat) (y:SB),((J.set b .dead).set nb x)[i]? = some y->(i=nb/\y=x)\/(i≠nb/\i=b/\y=.dead)\/(i≠nb/\i≠b/\J[i]? = some y):=fun i y hi=>by
  rcases yu6 hi with h1 | ⟨hn,hi⟩
  . exact .inl h1
  . rcases yu6 hi with ⟨h2,h3⟩ | ⟨hn',hi⟩
    . exact .inr (.inl ⟨hn,h2,h3⟩)
    . exact .inr (.inr ⟨hn,hn',hi⟩)
 have hold:∀(i:Nat) (y:SB),((J.set b .dead).set nb x)[i]? = some y->y.own=true->∃ j,J[j]? = some y/\upd ρ nb (ρ b) i=ρ j/\(i=nb->j=b)/\(i≠nb->j=i):=fun i y hi hy=>by
  rcases key i y hi with ⟨rfl,rfl⟩ | ⟨hn,rfl,rfl⟩ | ⟨hn,hn',hi⟩
  . exact ⟨b,hx,yr4,fun _=>rfl,fun e=>absurd rfl e⟩
  . cases hy
  . exact ⟨i,hi,zwj hn,fun e=>absurd e hn,fun _=>rfl⟩
 have hM:∀ c o,MX Mo (upd ρ nb (ρ b)) ((J.set b .dead).set nb x) c o->MX Mo ρ J c o:=by
  rintro c o (hm | ⟨i,y,hi,hy,hr,e⟩)
  . exact .inl hm
  . obtain ⟨j,h1,h2,_⟩:=hold i y hi (SB.zgj hy);rw [h2] at hr e;exact .inr ⟨j,y,h1,hy,hr,e⟩
 have hk:wf2 (MX Mo ρ J) (MX Mo (upd ρ nb (ρ b)) ((J.set b .dead).set nb x)) w w:=fun c o u h1 h2=>⟨fun hm=>h1 (hM c o hm),h2⟩
 have hok:∀ i,okB J i->okB ((J.set b .dead).set nb x) i:=fun i hi=>w2t hxf (w2t (by simp) hi)
 have hm:Mv J ρ (MX Mo ρ J) w ((J.set b .dead).set nb x) (upd ρ nb (ρ b)) (MX Mo (upd ρ nb (ρ b)) ((J.set b .dead).set nb x)) w:=
  ⟨hok,fun i hi=>zwj (fun e=>x9f hf (e▸hi)),hk,Grow.refl w⟩
 refine ⟨hm.ok,hm.rho,hk,hm.grow,⟨h.bnd,?_,?_,?_,h.glob.keep hk⟩,Nat.le_refl _,rfl,rfl,rfl,fun _ _ _=>rfl,?_⟩
 . intro i y hi
   rcases key i y hi with ⟨rfl,rfl⟩ | ⟨hn,rfl,rfl⟩ | ⟨hn,hn',hi⟩
   . rw [yr4];exact (h.blk b y hx).mv hm (fun _ _=>rfl)
   . trivial
   . rw [zwj hn];exact (h.blk i y hi).mv hm (fun _ _=>rfl)
 . intro i j y z hi hj hy hz hri hrj e;obtain ⟨i',h1,h2,h3,h4⟩:=hold i y hi hy;obtain ⟨j',h5,h6,h7,h8⟩:=hold j z hj hz;rw [h2] at hri e;rw [h6] at hrj e;have e':=h.inj i' j' y z h1 h5 hy hz hri hrj e;by_cases hin:i=nb
   . by_cases hjn:j=nb
     . rw [hin,hjn]
     . exfalso;rw [h3 hin,h8 hjn] at e'
       rcases key j z hj with ⟨e1,_⟩ | ⟨_,_,rfl⟩ | ⟨_,e1,_⟩
       . exact hjn e1
       . cases hz
       . exact e1 e'.symm
   . by_cases hjn:j=nb
     . exfalso;rw [h7 hjn,h4 hin] at e'
       rcases key i y hi with ⟨e1,_⟩ | ⟨_,_,rfl⟩ | ⟨_,e1,_⟩
       . exact hin e1
       . cases hy
       . exact e1 e'
     . rw [h4 hin,h8 hjn] at e';exact e'
 . intro i y hi hy hr;obtain ⟨j,h1,h2,_⟩:=hold i y hi hy;rw [h2] at hr ⊢;exact h.sep j y h1 hy hr
 . rintro k ⟨i,y,hi,hy,hr,e⟩;obtain ⟨j,h1,h2,_⟩:=hold i y hi hy;rw [h2] at hr e;exact .inr ⟨j,y,h1,hy,hr,e⟩
theorem Went.kill (h:HInv Γ Mo ρ J w) (hx:J[b]? = some x):Went Γ Mo ρ J w ρ (J.set b .dead) w:=
 Went.less h hx (by simp) (by intro h;cases h) (by intro o h;exact h.elim) (fun _=>trivial)
end
end Go.Hp
namespace Go.Hp
open Go Go.RowKit Go.Slot
variable {x:SV} {I:List SV} {P:Program} {w w':World}
structure HEnv where
 w0:World
 Mo:Nat->Nat->Prop
 ρ0:Nat->Value
 η0:List SB
def gtS (I:List SV) (i:Nat):SV:=(I[i]?).getD .any
def gB (J:List SB) (b:Nat):SB:=(J[b]?).getD .dead
structure RI (Γ:List (Nat×List Cell)) (E:HEnv) (ρ:Nat->Value) (I:List SV) (J:List SB) (a:Act) (w:World):Prop where
 hd:a.defers=[]
 hs:a.tmps.size=I.length
 slot:∀(i:Nat) (x:SV),I[i]? = some x->SVR J ρ (MX E.Mo ρ J) w (a.tmps.getD i Go.undef) x
 went:Went Γ E.Mo E.ρ0 E.η0 E.w0 ρ J w
section
variable {Γ:List (Nat×List Cell)} {E:HEnv} {ρ ρ':Nat->Value} {I:List SV} {J J':List SB} {a:Act} {w w':World}
theorem RI.inv (h:RI Γ E ρ I J a w):HInv Γ E.Mo ρ J w:=h.went.inv
theorem RI.go (h:RI Γ E ρ I J a w) (k:Went Γ E.Mo ρ J w ρ' J' w'):RI Γ E ρ' I J' a w':=
 ⟨h.hd,h.hs,fun i x hi=>(h.slot i x hi).mv k.mv,h.went.trans k⟩
theorem RI.lt (h:RI Γ E ρ I J a w) {i:Nat} (hi:I[i]? = some x):i<a.tmps.size:=by
 have:=(List.getElem?_eq_some_iff.1 hi).1
 rw [h.hs];exact this
theorem RI.put (h:RI Γ E ρ I J a w) {d:Nat} {x:SV} {v:Value} (hx:SVR J ρ (MX E.Mo ρ J) w v x):RI Γ E ρ (I.set d x) J (a.put (some d) v) w:=by
 refine ⟨h.hd,by simpa [Act.put] using h.hs,fun i y hi=>?_,h.went⟩;show SVR J ρ (MX E.Mo ρ J) w ((a.tmps.setIfInBounds d v).getD i Go.undef) y
 have hlen:i<I.length:=by simpa using (List.getElem?_eq_some_iff.1 hi).1
 rcases yu6 hi with ⟨rfl,rfl⟩ | ⟨hn,hi⟩
 . have:i<a.tmps.size:=by rw [h.hs];exact hlen
   rw [show (a.tmps.setIfInBounds i v).getD i Go.undef=v by simp [this]];exact hx
 . rw [Slot.getD_set_ne (Ne.symm hn)];exact h.slot i y hi
theorem RI.gt (h:RI Γ E ρ I J a w) (t:Nat):SVR J ρ (MX E.Mo ρ J) w (a.tmps.getD t Go.undef) (gtS I t):=by
 unfold gtS
 cases ht:I[t]? with
 | none=>exact trivial
 | some x=>exact h.slot t x ht
def xa8 (v:Value):SV:=match z1h v with
 | .one c=>.one (.dat c)
 | .agg cs=>.agg (cs.map .dat)
 | _=>.any
def w8c:List (Nat×List Cell)->Nat->SV
 | [],_=>.any
 | (g,cs)::r,i=>if g=i then .elt cs else w8c r i
def opdS (Γ:List (Nat×List Cell)) (I:List SV):Operand->SV
 | .tmp t=>gtS I t
 | .const v=>xa8 v
 | .func f=>.one (.dat (.raw (.func (.func f) #[] #[])))
 | .global g=>w8c Γ g
theorem wsj:∀(Γ:List (Nat×List Cell)) (i:Nat),w8c Γ i=.any\/∃ cs,w8c Γ i=.elt cs/\(i,cs)∈Γ
 | [],_=>.inl rfl
 | (g,cs)::r,i=>by
  unfold w8c
  split
  . rename_i e;subst e;exact .inr ⟨cs,rfl,by simp⟩
  . rcases wsj r i with h | ⟨cs',h,hm⟩
    . exact .inl h
    . exact .inr ⟨cs',h,by simp [hm]⟩
theorem xdf {M:Nat->Nat->Prop} (v:Value):SVR J ρ M w v (xa8 v):=by
 have h:=ywq (M:=M) (w:=w) (τ:=fun _=>⟨Go.undef,0⟩) v;unfold xa8
 cases hc:z1h v with
 | one c=>
  rw [hc] at h;have hb:RdC M w v c.bare:=RdT.bare h
  have hnt:c.bare=c:=by
   unfold z1h at hc;split at hc
   . split at hc<;>cases hc
   . cases hc
   . cases hc;rfl
  rw [hnt] at hb;exact hb
 | agg cs =>
  rw [hc] at h;obtain ⟨vs,e,hr⟩:=h;refine ⟨vs,e,?_⟩
  have hraw:∃ us:List Value,cs=us.map .raw:=by
   unfold z1h at hc;split at hc
   . split at hc
     . cases hc;exact ⟨_,rfl⟩
     . cases hc
   . cases hc
   . cases hc
  obtain ⟨us,rfl⟩:=hraw
  have:∀(vs us:List Value),RdL M w (fun _=>⟨Go.undef,0⟩) vs (us.map .raw)->HRL J ρ M w vs ((us.map Cell.raw).map .dat):=by
   intro vs
   induction vs with
   | nil=>intro us h;cases us with
    | nil=>trivial
    | cons _ _=>exact h.elim
   | cons v vs ih=>intro us h;cases us with
    | nil=>exact h.elim
    | cons u us=>exact ⟨h.1,ih us h.2⟩
  exact this vs us hr
 | _=>exact trivial
theorem RI.opd (h:RI Γ E ρ I J a w) (x:Operand):SVR J ρ (MX E.Mo ρ J) w (a.eval x) (opdS Γ I x):=by
 cases x with
 | tmp t=>exact h.gt t
 | const v=>exact xdf v
 | func f=>exact RdC.raw rfl
 | global g=>
  show SVR J ρ (MX E.Mo ρ J) w (a.eval (.global g)) (w8c Γ g)
  rcases wsj Γ g with e | ⟨cs,e,hm⟩
  . rw [e];exact trivial
  . rw [e];obtain ⟨vs,h1,h2⟩:=h.inv.glob g cs hm;exact ⟨g,0,vs,rfl,fun j u hj=>by rw [Nat.zero_add];exact h1 j u hj,h2⟩
end
def appL {α:Type}:List (Nat×α)->List α->List α
 | [],l=>l
 | (i,x)::r,l=>appL r (l.set i x)
def agS (rd:List Nat) (I I':List SV):Prop:=I'.length=I.length/\∀ r∈rd,gtS I' r=gtS I r
def agB (rh:List Nat) (J J':List SB):Prop:=J'.length=J.length/\∀ r∈rh,J'[r]? = J[r]?
def vbd (Γ:List (Nat×List Cell)) (P:Program) (o:Oper) (I:List SV) (J:List SB) (rd rh:List Nat) (eff:List (Nat×SV)) (heff:List (Nat×SB)):Prop:=
 ∀(E:HEnv) (ρ:Nat->Value) (I':List SV) (J':List SB) (a:Act) (w:World),agS rd I I'->agB rh J J'->RI Γ E ρ I' J' a w->∀(K:Act->World->Prop) (Q:Exit->Act->World->Prop),
  (∀ a' w' ρ',RI Γ E ρ' (appL eff I') (appL heff J') a' w'->K a' w')->o.wp P a w K Q
theorem agS.opd {Γ:List (Nat×List Cell)} {rd:List Nat} {I':List SV} (h:agS rd I I') {x:Operand} (hx:∀ t∈orr x,t∈rd):opdS Γ I' x=opdS Γ I x:=by
 cases x with
 | tmp t=>exact h.2 t (hx t (by simp [orr]))
 | _=>rfl
theorem agB.gB {rh:List Nat} {J J':List SB} (h:agB rh J J') {b:Nat} (hb:b∈rh):gB J' b=gB J b:=by
 unfold Hp.gB;rw [h.2 b hb]
def datH:HC->Option Cell
 | .dat c=>some c
 | _=>none
def datL:List HC->Option (List Cell)
 | []=>some []
 | .dat c::r=>(datL r).map (c::·)
 | _::_=>none
def vwO:HC->AV
 | .dat c=>.one c
 | _=>.any
def vwG:Option (List Cell)->AV
 | some cs=>.agg cs
 | none=>.any
def vw:SV->AV
 | .one h=>vwO h
 | .agg hs=>vwG (datL hs)
 | .elt cs=>.elt cs
 | .undef=>.undef
 | _=>.any
theorem z2e (i:Nat):gt (I.map vw) i=vw (gtS I i):=by
 unfold gt gtS;rw [List.getElem?_map]
 cases I[i]?<;>rfl
theorem ykv (x:SV):(vw x).xeo=false:=by
 unfold vw
 cases x with
 | one h=>cases h<;>rfl
 | agg hs=>simp only;cases datL hs<;>rfl
 | _=>rfl
theorem vpw (x:SV):(vw x).rf=none:=by
 unfold vw
 cases x with
 | one h=>cases h<;>rfl
 | agg hs=>simp only;cases datL hs<;>rfl
 | _=>rfl
section
variable {Γ:List (Nat×List Cell)} {E:HEnv} {ρ ρ':Nat->Value} {I:List SV} {J J':List SB} {a:Act} {w w':World} {M:Nat->Nat->Prop}
theorem RdC.v7d {v:Value} {c:Cell} (h:RdC M w v c) (d:Nat):¬c.v7d d:=h.wi1 d
theorem HRL.dat:∀{vs:List Value} {hs:List HC} {cs:List Cell},HRL J ρ M w vs hs->datL hs=some cs->RdD M w vs cs
 | [],[],cs,_,hd=>by simp [datL] at hd;subst hd;trivial
 | v::vs,h::hs,cs,hr,hd=>by
  cases h with
  | dat c=>
   simp only [datL,Option.map_eq_some_iff] at hd;obtain ⟨l,hl,rfl⟩:=hd;exact ⟨hr.1,HRL.dat hr.2 hl⟩
  | _=>simp [datL] at hd
theorem RdD.rdl {τ:Nat->TV}:∀{vs:List Value} {cs:List Cell},RdD M w vs cs->RdL M w τ vs cs
 | [],[],_=>trivial
 | _::_,_::_,h=>⟨RdT.of h.1,RdD.rdl h.2⟩
theorem w2b {τ:Nat->TV} {tm:Array Value} {v:Value} (h:SVR J ρ M w v x):xb1 M w τ tm v (vw x)/\∀ d,¬(vw x).v7d d:=by
 cases x with
 | one c=>
  cases c with
  | dat c=>exact ⟨RdT.of h,fun d hd=>(RdC.wi1 h d) hd⟩
  | _=>exact ⟨trivial,fun d hd=>hd⟩
 | agg hs=>
  obtain ⟨vs,rfl,hr⟩:=h;show xb1 M w τ tm _ (vwG (datL hs))/\∀ d,¬(vwG (datL hs)).v7d d
  cases hd:datL hs with
  | none=>exact ⟨trivial,fun d hd=>hd⟩
  | some cs=>
   have hrd:=HRL.dat hr hd;exact ⟨⟨vs,rfl,RdD.rdl hrd⟩,fun d hd=>hrd.wi1 hd⟩
 | elt cs=>exact ⟨h,fun d hd=>hd⟩
 | undef=>exact ⟨h,fun d hd=>hd⟩
 | any=>exact ⟨trivial,fun d hd=>hd⟩
 | tup l=>exact ⟨trivial,fun d hd=>hd⟩
def yna (h:RI Γ E ρ I J a w):Env:=⟨w,MX E.Mo ρ J,fun _=>False,#[],fun _ _ hm=>x02 h.inv hm⟩
theorem RI.old (h:RI Γ E ρ I J a w):RelI (yna h) (fun _=>⟨Go.undef,0⟩) (MX E.Mo ρ J) (I.map vw) a w:=by
 have hget:∀(i:Nat) (av:AV),(I.map vw)[i]? = some av->∃ x,I[i]? = some x/\av=vw x:=fun i av hi=>by
  rw [List.getElem?_map] at hi;obtain ⟨x,hx,rfl⟩:=Option.map_eq_some_iff.1 hi;exact ⟨x,hx,rfl⟩
 have hlive:∀ d,¬live (I.map vw) d:=fun d ⟨i,av,hi,ht⟩=>by
  obtain ⟨x,hx,rfl⟩:=hget i av hi;exact (w2b (τ:=fun _=>⟨Go.undef,0⟩) (tm:=a.tmps) (h.slot i x hx)).2 d ht
 refine ⟨h.hd,by simpa using h.hs,?_,fun _ _ hm=>hm,fun _ _ hm=>x02 h.inv hm,?_,?_,?_,fun d hd=>absurd hd (hlive d),fun d _ _ hd=>absurd hd (hlive d),fun d _ _ hd=>absurd hd (hlive d),Nat.le_refl _,rfl,rfl,rfl,fun _ _ _=>rfl⟩
 . intro i av hi;obtain ⟨x,hx,rfl⟩:=hget i av hi;exact (w2b (h.slot i x hx)).1
 . intro i av hi hh;obtain ⟨x,hx,rfl⟩:=hget i av hi;rw [ykv] at hh;cases hh
 . intro i j x y hi hj hx;obtain ⟨x',_,rfl⟩:=hget i x hi;rw [ykv] at hx;cases hx
 . intro i av s b hi hr;obtain ⟨x,hx,rfl⟩:=hget i av hi;rw [vpw] at hr;cases hr
end
def valB:Builtin->Bool
 | .len | .cap | .append | .max | .min | .copy | .unsafeSliceData | .unsafeString=>true
 | _=>false
def v1z:Op->Bool
 | .move _ | .assign _ | .pick _ _ _ | .alloc _ | .box _ _ | .build _ _ | .buildSlice _ _ _ | .load _ _ | .binOp _ _ _ _ _ | .unOp _ _ _ | .convert _ _ _ | .makeSlice _ _ _ | .slice _ _ _ _ _ | .fieldAddr _ _ _ | .field _ _ _ | .indexAddr _ _ _
 | .index _ _ _ | .extract _ _=>true
 | .call { callee:=.builtin b,.. }=>valB b
 | _=>false
theorem zke {α:Type} {f:α->Value} {s:Sem α} {n:Next} (h:(s.bind (fun v=>.pure (.value (f v))):Sem Next).run P w=.ok n w'):∃ v,n=.value v:=by
 induction s generalizing w with
 | pure a=>simp only [Sem.bind,Sem.run,Result.ok.injEq] at h;exact ⟨f a,h.1.symm⟩
 | load m ad k ih=>
  simp only [Sem.bind,Sem.run] at h;split at h
  . exact ih _ h
  . split at h
    . exact ih _ h
    . cases h
 | store m ad v k ih=>
  cases v<;>simp only [Sem.bind,Sem.run] at h<;>first | (cases h;done) | skip
  all_goals
   split at h
   . split at h
     . cases h
     . exact ih h
   . split at h
     . exact ih h
     . cases h
 | new ob k ih=>exact ih _ h
 | shape r k ih=>exact ih _ h
 | freeze ad n k ih=>exact ih h
 | frozen ad k ih=>exact ih _ h
 | getObj r k ih=>
  simp only [Sem.bind,Sem.run] at h;split at h
  . cases h
  . exact ih _ h
  . cases h
 | setObj r ob k ih=>
  simp only [Sem.bind,Sem.run] at h;split at h
  . cases h
  . exact ih h
  . cases h
 | choose q k ih=>
  simp only [Sem.bind,Sem.run] at h;split at h
  . exact ih _ h
  . exact ih _ h
 | sys c k ih=>exact ih _ h
 | program k ih=>exact ih _ h
 | mark m k ih=>exact ih h
 | halt hh=>cases h
theorem yr5 {s:Sem Value} {n:Next} (h:(do pure (.value (<-s)):Sem Next).run P w=.ok n w'):∃ v,n=.value v:=
 zke (f:=id) h
theorem xm8 {o:Oper} (hv:v1z o.op=true) {ρ:Operand->Value} {n:Next} (h:(execOp ρ o).run P w=.ok n w'):∃ v,n=.value v:=by
 unfold execOp at h;unfold v1z at hv
 split at hv<;>first | (cases hv;done) | skip
 all_goals (rename_i heq;rw [heq] at h)
 case h_19 b xs ts=>
  have h:(builtin b ts o.type _ (xs.map ρ)).run P w=.ok n w':=h;unfold valB at hv
  split at hv<;>first | (cases hv;done) | skip
  all_goals exact yr5 h
 all_goals first
  | exact yr5 h
  | exact zke (f:=fun b=>if b=true then ρ _ else ρ _) h
  | (simp only [Sem.run_pure,Result.ok.injEq] at h;exact ⟨_,h.1.symm⟩)
end Go.Hp
namespace Go.Hp
open Go Go.RowKit Go.Slot
variable {P:Program} {Γ:List (Nat×List Cell)}
variable {o:Oper} {I:List SV} {J J':List SB} {rd rh:List Nat} {x y:Operand} {E:HEnv} {ρ:Nat->Value} {a:Act} {w:World} {av:AV} {nb b off:Nat} {v:SV} {M:Nat->Nat->Prop} {hs us:List HC} {T:TypeId} {ti:TI} {vs:List Value}
theorem vbd.val {d:Nat} {x:SV} {heff:List (Nat×SB)} (hdst:o.dst=some d)
 (hrun:∀(E:HEnv) (ρ:Nat->Value) (I':List SV) (J':List SB) (a:Act) (w:World),agS rd I I'->agB rh J J'->RI Γ E ρ I' J' a w->
   ∃ v w' ρ',(execOp a.eval o).run P w=.ok (.value v) w'/\Went Γ E.Mo ρ J' w ρ' (appL heff J') w'/\SVR (appL heff J') ρ' (MX E.Mo ρ' (appL heff J')) w' v x):vbd Γ P o I J rd rh [(d,x)] heff:=by
 intro E ρ I' J' a w hag hah hI K Q hK;obtain ⟨v,w',ρ',hr,hw,hx⟩:=hrun E ρ I' J' a w hag hah hI;unfold Oper.wp;rw [hr];show K (a.put o.dst v) w';rw [hdst];exact hK _ _ ρ' ((hI.go hw).put hx)
theorem vbd.pure {d:Nat} {x:SV} (hdst:o.dst=some d)
 (hrun:∀(E:HEnv) (ρ:Nat->Value) (I':List SV) (J':List SB) (a:Act) (w:World),agS rd I I'->agB rh J J'->RI Γ E ρ I' J' a w->
   ∃ v,(execOp a.eval o).run P w=.ok (.value v) w/\SVR J' ρ (MX E.Mo ρ J') w v x):vbd Γ P o I J rd rh [(d,x)] []:=
 vbd.val hdst (fun E ρ I' J' a w hag hah hI=>by
  obtain ⟨v,h1,h2⟩:=hrun E ρ I' J' a w hag hah hI
  exact ⟨v,w,ρ,h1,Went.refl hI.inv,h2⟩)
theorem vbd.skip {o:Oper} {I:List SV} {J:List SB} {rd rh:List Nat} {heff:List (Nat×SB)} (hdst:o.dst=none)
 (hrun:∀(E:HEnv) (ρ:Nat->Value) (I':List SV) (J':List SB) (a:Act) (w:World),agS rd I I'->agB rh J J'->RI Γ E ρ I' J' a w->
   ∃ w' ρ',(execOp a.eval o).run P w=.ok .skip w'/\Went Γ E.Mo ρ J' w ρ' (appL heff J') w'):vbd Γ P o I J rd rh [] heff:=by
 intro E ρ I' J' a w hag hah hI K Q hK;obtain ⟨w',ρ',hr,hw⟩:=hrun E ρ I' J' a w hag hah hI;unfold Oper.wp;rw [hr];show K (a.put o.dst Go.undef) w';rw [hdst];exact hK _ _ ρ' (hI.go hw)
theorem agS.view {I':List SV} (h:agS rd I I'):x2j rd (I.map vw) (I'.map vw):=
 ⟨by simp [h.1],fun r hr=>by rw [z2e,z2e,h.2 r hr]⟩
theorem RI.take {σv:List AV} (h:RI Γ E ρ I J a w) {d:Nat} (hvo:v1z o.op=true) (hdst:o.dst=some d) (hlt:d<I.length)
 (hst:vni P o σv rd [] [(d,av)]) (hag:x2j rd σv (I.map vw)) :
 ∃ v w' M' τ tm,(execOp a.eval o).run P w=.ok (.value v) w'/\Below w.heap.size w w'/\(∀ b o,MX E.Mo ρ J b o->M' b o)/\xb1 M' w' τ tm v av/\(av.xeo=true->av.fresh=true->w.heap.size<=blk v/\∀ o,M' (blk v) o):=by
 have hA:=hst (yna h) (I.map vw) a w hag (by intro t ht;cases ht) ⟨_,_,h.old⟩ (fun a' w'=>Rel (yna h) ((I.map vw).set d av) a' w') (fun _ _ _=>False) (fun a' w' hR=>hR);unfold Oper.wp at hA
 cases hr:(execOp a.eval o).run P w with
 | halt hh w'=>
  rw [hr] at hA
  cases hh<;>exact hA.elim
 | ok n w'=>
  obtain ⟨v,rfl⟩:=xm8 hvo hr;rw [hr] at hA;rw [Oper.upon_value,hdst] at hA;obtain ⟨τ,M',hI⟩:=hA
  have hd:((I.map vw).set d av)[d]? = some av:=by simp [hlt]
  have hs:=hI.slot d av hd
  have hlt':d<a.tmps.size:=by rw [h.hs];exact hlt
  have hself:(a.put (some d) v).tmps.getD d Go.undef=v:=by simp [Act.put,hlt']
  rw [hself] at hs;refine ⟨v,w',M',τ,_,rfl,⟨hI.os,hI.tape,hI.output,hI.size,fun k hk=>hI.frame k hk (fun hx=>hx)⟩,hI.m0,hs,fun hh hf=>?_⟩;have h1:=(hI.hold d av hd hh).2.2.1 hf;have h2:=(hI.hold d av hd hh).1;rw [hself] at h1 h2;exact ⟨h1,h2⟩
def av2 (nb:Nat):AV->Option (SV×Option SB)
 | .one c=>some (.one (.dat c.bare),none)
 | .agg cs=>some (.agg ((vc2 cs).map .dat),none)
 | .elt cs=>some (.elt cs,none)
 | .any=>some (.any,none)
 | .arr [] c none=>some (.one (.sl nb c.esz 0 c.cnt),some (.arr c 0 none))
 | _=>none
theorem RdL.hrl {J:List SB} {ρ:Nat->Value} {M M':Nat->Nat->Prop} {w:World} {τ:Nat->TV} (hM:∀ b o,M b o->M' b o):∀{vs:List Value} {cs:List Cell},RdL M' w τ vs cs->HRL J ρ M w vs ((vc2 cs).map .dat)
 | [],[],_=>trivial
 | _::_,_::_,h=>⟨(RdT.bare h.1).keep (wf2.shrink w hM),RdL.hrl hM h.2⟩
def oB (nb:Nat):Option SB->List (Nat×SB)
 | none=>[]
 | some x=>[(nb,x)]
def oN (nb:Nat):Option SB->List Nat
 | none=>[]
 | some _=>[nb]
def y4f (J:List SB) (nb:Nat):Bool:=match J[nb]? with
 | some .fresh=>true
 | _=>false
theorem xhv (h:y4f J nb=true):J[nb]? = some .fresh:=by
 unfold y4f at h;split at h
 . assumption
 . cases h
theorem agB.room (h:agB rh J J') (hb:nb∈rh) (hr:y4f J nb=true):J'[nb]? = some .fresh:=by
 rw [h.2 nb hb];exact xhv hr
def wla (J:List SB) (nb:Nat):Option SB->Bool
 | none=>true
 | some _=>y4f J nb
theorem w2a {d:Nat} {x:SV} {ob:Option SB} (hvo:v1z o.op=true) (hdst:o.dst=some d) (hst:vni P o (I.map vw) rd [] [(d,av)])
 (hd:d<I.length) (h2:av2 nb av=some (x,ob)) (hroom:wla J nb ob=true):vbd Γ P o I J rd (oN nb ob) [(d,x)] (oB nb ob):=by
 refine vbd.val hdst (fun E ρ I' J' a w hag hah hI=>?_);obtain ⟨v,w',M',τ,tm,hrun,hb,hM,hs,hf⟩:=hI.take hvo hdst (by rw [hag.1];exact hd) hst hag.view
 have plain:ob=none->SVR J' ρ (MX E.Mo ρ J') w' v x->∃ v w' ρ',(execOp a.eval o).run P w=.ok (.value v) w'/\Went Γ E.Mo ρ J' w ρ' (appL (oB nb ob) J') w'/\SVR (appL (oB nb ob) J') ρ' (MX E.Mo ρ' (appL (oB nb ob) J')) w' v x:=fun e hx=>by
  subst e;exact ⟨v,w',ρ,hrun,Went.below hI.inv hb,hx⟩
 unfold av2 at h2;split at h2
 . rename_i c
   cases h2;exact plain rfl ((RdT.bare hs).keep (wf2.shrink w' hM))
 . rename_i cs
   cases h2;obtain ⟨vs,e,hr⟩:=hs;exact plain rfl ⟨vs,e,RdL.hrl hM hr⟩
 . rename_i cs
   cases h2;obtain ⟨b,off,vs,e,hc,hr⟩:=hs;exact plain rfl ⟨b,off,vs,e,fun j u hj=>⟨fun hm=>(hc j u hj).1 (hM _ _ hm),(hc j u hj).2⟩,hr.keep (wf2.shrink w' hM)⟩
 . cases h2;exact plain rfl trivial
 . rename_i c
   cases h2;obtain ⟨b,T,vs,q,cap,rfl,hbk,hr,_,hu,hcap,hsz⟩:=hs;have hfr:=hah.room (show nb∈oN nb (some (SB.arr c 0 none)) by simp [oN]) hroom;have hge:w.heap.size<=b:=(hf rfl rfl).1;have hlt:nb<J'.length:=(List.getElem?_eq_some_iff.1 hfr).1;have hok:okB (J'.set nb (.arr c 0 none)) nb:=⟨_,by simp [hlt];rfl,by simp⟩;refine ⟨_,w',upd ρ nb (.pointer (some ⟨b,0,none⟩)),hrun,Went.new hI.inv hb hfr (by simp) (fun _ _=>hge) (fun _=>⟨⟨hu,Nat.zero_le _⟩,.inr ⟨b,vs,q,T,rfl,by simpa using hbk,hr.keep (wf2.shrink w' ?_),by simp⟩⟩),?_⟩
   . intro b' o' hm
     rcases hm with hm | ⟨i,y,hi,hy,hre,e⟩
     . exact hM _ _ (.inl hm)
     . rcases yu6 hi with ⟨rfl,rfl⟩ | ⟨hn,hi⟩
       . rw [yr4] at e;subst e;exact (hf rfl rfl).2 o'
       . rw [zwj hn] at hre e;exact hM _ _ (.inr ⟨i,y,hi,hy,hre,e⟩)
   . refine ⟨hok,_,cap,rfl,hcap,fun _=>⟨by rw [yr4];simp [real],by rw [yr4];simp [bk,blk],_,T,_,by rw [yr4];exact hbk,?_⟩⟩;simpa using hsz
 . cases h2
theorem zcg {d:Nat} (ho:o.op=.move x\/o.op=.assign x) (hdst:o.dst=some d):vbd Γ P o I J (d::orr x) [] [(d,opdS Γ I x)] []:=by
 refine vbd.pure hdst (fun E ρ I' J' a w hag hah hI=>⟨a.eval x,?_,?_⟩)
 . rcases ho with ho | ho<;>simp [execOp,ho]
 . have:=hI.opd x
   rw [hag.opd (fun t ht=>by simp [ht])] at this;exact this
def vby (c x y:SV):Option SV:=match c with
 | .one (.dat (.raw (.bool true)))=>some x
 | .one (.dat (.raw (.bool false)))=>some y
 | _=>none
theorem yux {c:Operand} {d:Nat} (ho:o.op=.pick c x y) (hdst:o.dst=some d) (h:vby (opdS Γ I c) (opdS Γ I x) (opdS Γ I y)=some v) :
 vbd Γ P o I J (d::(orr c++orr x++orr y)) [] [(d,v)] []:=by
 refine vbd.pure hdst (fun E ρ I' J' a w hag hah hI=>?_);have hc:=hI.opd c;have hx:=hI.opd x;have hy:=hI.opd y;rw [hag.opd (fun t ht=>by simp [ht])] at hc hx hy;unfold vby at h;split at h
 . rename_i e;rw [e] at hc;have ec:a.eval c=.bool true:=RdC.x18 hc
   cases h;exact ⟨a.eval x,by simp [execOp,ho,ec,asBool],hx⟩
 . rename_i e;rw [e] at hc;have ec:a.eval c=.bool false:=RdC.x18 hc
   cases h;exact ⟨a.eval y,by simp [execOp,ho,ec,asBool],hy⟩
 . cases h
def vg7:SV->Option (List HC)
 | .one h=>some [h]
 | .agg hs=>some hs
 | _=>none
theorem z1g {v:Value} {x:SV} (hc:vg7 x=some hs) (h:SVR J ρ M w v x):HRL J ρ M w v.cells.toList hs:=by
 cases x with
 | one c=>
  cases hc
  have h1:v.cells=#[v]:=by
   have:=HRd.one h
   cases v<;>first | rfl | cases this
  rw [h1];exact ⟨h,trivial⟩
 | agg cs=>cases hc;obtain ⟨vs,rfl,h⟩:=h;simpa [Value.cells] using h
 | _=>cases hc
theorem y9q {d:Nat} (hdst:o.dst=some d) (hroom:y4f J nb=true)
 (hrun:∀(E:HEnv) (ρ:Nat->Value) (I':List SV) (J':List SB) (a:Act) (w:World),agS rd I I'->agB (nb::rh) J J'->RI Γ E ρ I' J' a w->
   ∃ vs:List Value,(execOp a.eval o).run P w=.ok (.value (.pointer (some ⟨w.heap.size,0,none⟩))) (w.alloc (.cells vs.toArray T))/\HRL J' ρ (MX E.Mo ρ J') w vs hs) :
 vbd Γ P o I J rd (nb::rh) [(d,.one (.ptr nb 0))] [(nb,.box hs (some T))]:=by
 refine vbd.val hdst (fun E ρ I' J' a w hag hah hI=>?_);obtain ⟨vs,h1,h2⟩:=hrun E ρ I' J' a w hag hah hI;have hfr:=hah.room (by simp) hroom;have hlt:nb<J'.length:=(List.getElem?_eq_some_iff.1 hfr).1;have hb:Below w.heap.size w (w.alloc (.cells vs.toArray T)):=(Below.refl _ _).alloc (Nat.le_refl _) _;refine ⟨_,_,upd ρ nb (.pointer (some ⟨w.heap.size,0,none⟩)),h1,Went.new hI.inv hb hfr (by simp) (fun _ _=>Nat.le_refl _) (fun m=>⟨w.heap.size,vs,T,rfl,xp1 w _,h2.mv m,fun t' ht=>by cases ht;rfl⟩),?_⟩;exact ⟨⟨_,by simp [appL,hlt];rfl,by simp⟩,by rw [yr4];rfl⟩
theorem vrd {J:List SB} {ρ:Nat->Value} {M:Nat->Nat->Prop} {w:World}:∀{l:List Value},(∀ v∈l,v.oneCell'=true)->HRL J ρ M w l ((l.map zm7).map .dat)
 | [],_=>trivial
 | v::l,h=>⟨vo6 (h v (by simp)),vrd (fun u hu=>h u (by simp [hu]))⟩
theorem z6h {d:Nat} (ho:o.op=.alloc T) (hdst:o.dst=some d) (hti:mkTI P T=some ti) (hroom:y4f J nb=true) :
 vbd Γ P o I J [d] [nb] [(d,.one (.ptr nb 0))] [(nb,.box (ti.zc.map .dat) (some T))]:=by
 refine y9q hdst hroom (fun E ρ I' J' a w hag hah hI=>?_);obtain ⟨ds,i,z,hd,hi,hz,hsz,hby,hzs,hone,hzc,hsh⟩:=(wgk hti).ex;refine ⟨z.cells.toList,?_,?_⟩
 . simp [execOp,ho,Instr.alloc,wx4 hi hz,newVar,newRow]
 . rw [hzc];exact vrd hone
theorem zej {d:Nat} (ho:o.op=.box T x) (hdst:o.dst=some d) (hcs:vg7 (opdS Γ I x)=some hs) (hroom:y4f J nb=true) :
 vbd Γ P o I J (d::orr x) [nb] [(d,.one (.ptr nb 0))] [(nb,.box hs (some T))]:=by
 refine y9q hdst hroom (fun E ρ I' J' a w hag hah hI=>?_);have h:=hI.opd x;rw [hag.opd (fun t ht=>by simp [ht])] at h;refine ⟨(a.eval x).cells.toList,?_,z1g hcs h⟩;simp [execOp,ho,Instr.box,newVar,newRow]
def yi8 (ti:TI) (hs:List HC):Option SV:=
 match ti.many with
 | some true=>if ti.size<=hs.length then some (.agg (hs.take ti.size)) else none
 | some false=>match hs with
  | h::_=>some (.one h)
  | []=>none
 | none=>none
def seeH (J:List SB):SV->Option (List Nat×List HC)
 | .one (.ptr b off)=>match gB J b with
  | .box hs _=>some ([b],hs.drop off)
  | _=>none
 | .one (.pel b es i f)=>match gB J b with
  | .arr c _ _=>if c.esz=es then (c.at i f).map fun cs=>([b],cs.map .dat) else none
  | _=>none
 | .elt cs=>some ([],cs.map .dat)
 | _=>none
theorem xuw {x:SB} (h:gB J b=x) (hx:x≠.dead):J[b]? = some x:=by
 unfold gB at h
 cases hb:J[b]? with
 | none=>rw [hb] at h;exact absurd h.symm hx
 | some y=>rw [hb] at h;exact congrArg some h
theorem RI.sbr (h:RI Γ E ρ I J a w) {x:SB} (hx:gB J b=x) (hd:x≠.dead):SBR J ρ (MX E.Mo ρ J) w (ρ b) x:=
 h.inv.blk b x (xuw hx hd)
theorem xbn {q:List Value} (h:w.heap[b]? = some (.cells (vs++q).toArray T (0,0))) {j:Nat} {u:Value} (hj:vs[j]? = some u):w.cell? ⟨b,j,none⟩=some u:=by
 have hlt:=(List.getElem?_eq_some_iff.1 hj).1;simp only [World.cell?,h,Option.isSome_none,Bool.false_eq_true,if_false,List.getElem?_toArray];rw [List.getElem?_append_left hlt];exact hj
theorem zjy (hI:RI Γ E ρ I J a w) {v:Value} {x:SV} (hx:SVR J ρ (MX E.Mo ρ J) w v x) (h:seeH J x=some (rh,hs)) :
 ∃(b off:Nat) (vs:List Value),v=.pointer (some ⟨b,off,none⟩)/\(∀ j u,vs[j]? = some u->w.cell? ⟨b,off+j,none⟩=some u)/\HRL J ρ (MX E.Mo ρ J) w vs hs:=by
 unfold seeH at h;split at h
 . rename_i b off;split at h
   . rename_i hs' T hb
     cases h;obtain ⟨b',vs,T',e,hh,hr,_⟩:=hI.sbr hb (by simp);obtain ⟨_,rfl⟩:=hx;rw [e];exact ⟨b',off,vs.drop off,rfl,xk2 hh off,hr.drop off⟩
   . cases h
 . rename_i b es i f;split at h
   . rename_i c k T hb;split at h
     . rename_i hes;obtain ⟨cs,hat,e⟩:=Option.map_eq_some_iff.1 h
       cases e;obtain ⟨⟨hu,_⟩,h0⟩:=hI.sbr hb (by simp);obtain ⟨hi,r,hfl⟩:=Cell.zgr hu hat
       rcases h0 with ⟨h0,_⟩ | ⟨b',vs,q,T',e,hh,hr,_⟩
       . omega
       . obtain ⟨_,rfl⟩:=hx;rw [e];have hr':=hr.drop (i*c.esz+f);rw [hfl] at hr';have ht:=hr'.take cs.length;rw [List.take_left] at ht;refine ⟨b',i*es+f,(vs.drop (i*c.esz+f)).take cs.length,rfl,fun j u hj=>?_,RdD.hrl ht⟩;rw [List.getElem?_take] at hj;split at hj
         . rw [List.getElem?_drop] at hj;rw [<-hes];exact xbn hh hj
         . cases hj
     . cases h
   . cases h
 . rename_i cs
   cases h;obtain ⟨b,off,vs,rfl,hc,hr⟩:=hx;exact ⟨b,off,vs,rfl,fun j u hj=>(hc j u hj).2,RdD.hrl hr⟩
 . cases h
theorem run_load (hti:TIok P T ti) {x:SV}
 (hc:∀ j u,vs[j]? = some u->w.cell? ⟨b,off+j,none⟩=some u) (hr:HRL J ρ M w vs hs) (hl:yi8 ti hs=some x) :
 ∃ v,(loadVar T ⟨b,off,none⟩).run P w=.ok v w/\SVR J ρ M w v x:=by
 unfold yi8 at hl
 have hadd:∀ j,(⟨b,off,none⟩:Addr).add j=⟨b,off+j,none⟩:=fun j=>by unfold Addr.add;split<;>simp_all
 split at hl
 . rename_i hm;split at hl
   . rename_i hle
     cases hl;obtain ⟨d,i,z,hd,hi,hz,hsz,hby,hzs,hone,hzc,hsh⟩:=hti.ex;have hlen:=hr.length;refine ⟨.agg (vs.take ti.size).toArray,?_,⟨vs.take ti.size,rfl,hr.take _⟩⟩
     have hld:=run_loadCells_list (P:=P) w ⟨b,off,none⟩ (vs.take ti.size) (fun j u hj=>by
      rw [hadd];refine hc j u ?_;rw [List.getElem?_take] at hj;split at hj
      . exact hj
      . cases hj)
     have hlt:(vs.take ti.size).length=ti.size:=by rw [List.length_take];omega
     rw [hlt] at hld;unfold loadVar;simp only [Sem.run_bind,hti.vkb hm,Result.andThen_ok,if_true,yyt hi,hsz,hld,Sem.run_pure]
   . cases hl
 . rename_i hm;split at hl
   . rename_i c cs'
     cases hl
     cases vs with
     | nil=>exact hr.elim
     | cons v vs=>
      refine ⟨v,?_,hr.1⟩
      have:=hc 0 v rfl
      unfold loadVar;simp only [Sem.run_bind,hti.vkb hm,Result.andThen_ok,Bool.false_eq_true,if_false];simp only [Nat.add_zero] at this;simp [load,Sem.run,this]
   . cases hl
 . cases hl
theorem wbn {x:SV} (h:seeH J x=some (rh,hs)) (ha:∀ b∈rh,gB J' b=gB J b):seeH J' x=some (rh,hs):=by
 unfold seeH at h ⊢;split at h
 . rename_i b off
   have e:gB J' b=gB J b:=by
    split at h
    . cases h;exact ha b (by simp)
    . cases h
   simp only [e];exact h
 . rename_i b es i f
   have e:gB J' b=gB J b:=by
    split at h
    . split at h
      . obtain ⟨cs,hat,e⟩:=Option.map_eq_some_iff.1 h
        cases e;exact ha b (by simp)
      . cases h
    . cases h
   simp only [e];exact h
 . exact h
 . cases h
theorem w7w {d:Nat} (ho:o.op=.load T x) (hdst:o.dst=some d) (hti:mkTI P T=some ti)
 (hs':seeH J (opdS Γ I x)=some (rh,hs)) (hl:yi8 ti hs=some v):vbd Γ P o I J (d::orr x) rh [(d,v)] []:=by
 refine vbd.pure hdst (fun E ρ I' J' a w hag hah hI=>?_);have hx:=hI.opd x;rw [hag.opd (fun t ht=>by simp [ht])] at hx;obtain ⟨b,off,vs,e,hc,hr⟩:=zjy hI hx (wbn hs' (fun b hb=>hah.gB hb));obtain ⟨u,h1,h2⟩:=run_load (wgk hti) hc hr hl;refine ⟨u,?_,h2⟩;simp [execOp,ho,Instr.loadAt,e,Instr.sureAddr,h1]
def x71 (J:List SB) (n:Nat) (x:SV) (us:List HC):Option (Nat×SB):=match x with
 | .one (.ptr b off)=>match gB J b with
  | .box hs T=>if off+n<=hs.length then some (b,.box (hs.take off++us++hs.drop (off+n)) T) else none
  | _=>none
 | .one (.pel b es i f)=>match gB J b with
  | .arr c 0 T=>if c.esz=es then match datL us with
   | some cs=>(c.upd i f cs).map fun c'=>(b,.arr c' 0 T)
   | none=>none
   else none
  | _=>none
 | _=>none
theorem ww7 {n:Nat} {x:SV} {y:SB} (h:x71 J n x us=some (b,y)) (ha:gB J' b=gB J b):x71 J' n x us=some (b,y):=by
 unfold x71 at h ⊢;split at h
 . rename_i b' off
   have e:b'=b:=by
    split at h
    . split at h<;>cases h;rfl
    . cases h
   subst e;simp only [ha];exact h
 . rename_i b' es i f
   have e:b'=b:=by
    split at h
    . split at h
      . split at h
        . obtain ⟨c',_,e⟩:=Option.map_eq_some_iff.1 h
          cases e;rfl
        . cases h
      . cases h
    . cases h
   subst e;simp only [ha];exact h
 . cases h
theorem zwl {old cs:Array Value} {fz:Nat×Nat} (hb:w.heap[b]? = some (.cells old T fz)) (hsz:old.size<=cs.size):Grow w (w.setRow b cs):=fun i arr T' fz' hi=>by
 by_cases e:i=b
 . subst e;rw [hb] at hi;cases hi;exact ⟨cs,T,fz,setRow_heap w i _ cs T fz hb,hsz⟩
 . exact ⟨arr,T',fz',by rw [setRow_other w b i cs e];exact hi,Nat.le_refl _⟩
theorem xbl (ho:o.op=.store T x y) (hdst:o.dst=none) (hti:mkTI P T=some ti) {z:SB}
 (hu:vg7 (opdS Γ I y)=some us) (hlen:us.length=ti.size) (hst:x71 J ti.size (opdS Γ I x) us=some (b,z)):vbd Γ P o I J (orr x++orr y) [b] [] [(b,z)]:=by
 refine vbd.skip hdst (fun E ρ I' J' a w hag hah hI=>?_);have hx:=hI.opd x;have hy:=hI.opd y;rw [hag.opd (fun t ht=>by simp [ht])] at hx hy;have hst:=ww7 hst (hah.gB (by simp));have hr:=z1g hu hy
 have hsz:(a.eval y).cells.size=ti.size:=by rw [<-hlen,<-hr.length];simp
 unfold x71 at hst;split at hst
 . rename_i b' off hxe;split at hst
   . rename_i hs T' hb;split at hst
     . rename_i hfit
       cases hst;rw [hxe] at hx;obtain ⟨bb,vs,Tb,e,hh,hrb,hT⟩:=hI.sbr hb (by simp);have hvl:=hrb.length;have hrun:=znu (P:=P) (wgk hti) hh hsz hr.ones (off:=off) (by omega);obtain ⟨_,hx⟩:=hx
       have hbk:bk (ρ b)=bb:=by rw [e];rfl
       rw [hbk] at hx;refine ⟨w.setRow bb (vs.take off++(a.eval y).cells.toList++vs.drop (off+ti.size)).toArray,ρ,?_,Went.write hI.inv (xuw hb (by simp)) rfl (by rw [e];simp [real]) rfl (fun o=>Iff.rfl) (by simp [World.setRow]) rfl rfl rfl (fun k hk=>setRow_other w bb k _ (by rw [<-hbk];exact hk)) (zwl hh ?_) (fun o u hm=>absurd trivial hm) (fun m=>?_)⟩
       . simp [execOp,ho,Instr.storeAt,hx,Instr.sureAddr,hrun]
       . simp only [List.size_toArray,List.length_append,List.length_take,List.length_drop,Array.length_toList];omega
       . refine ⟨bb,_,Tb,e,setRow_heap w bb _ _ Tb (0,0) hh,?_,hT⟩;exact (((hrb.take off).append hr).append (hrb.drop (off+ti.size))).mv m
     . cases hst
   . cases hst
 . rename_i b' es i f hxe;split at hst
   . rename_i c T' hb;split at hst
     . rename_i hes;subst hes;split at hst
       . rename_i cs hcs;obtain ⟨c',hupd,e⟩:=Option.map_eq_some_iff.1 hst
         cases e;rw [hxe] at hx;obtain ⟨⟨hun,_⟩,h0⟩:=hI.sbr hb (by simp);obtain ⟨hun',hcnt,hesz,hfit,hflat⟩:=Cell.zmp hun hupd;have hrd:=HRL.dat hr hcs;have hcl:=hrd.length
         have hcl2:cs.length=ti.size:=by rw [<-hcl];simpa using hsz
         rcases h0 with ⟨h0,_⟩ | ⟨bb,vs,q,Tb,e,hh,hrb,hT⟩
         . exfalso;unfold Cell.upd at hupd;split at hupd
           . split at hupd
             . split at hupd
               . rename_i hc;simp [Cell.cnt] at h0;simp [h0] at hc
               . cases hupd
             . cases hupd
           . split at hupd
             . rename_i hc;simp [Cell.cnt] at h0;simp [h0] at hc
             . cases hupd
           . cases hupd
         . have hvl:=hrb.length;have hfl:=Cell.wg8 hun;obtain ⟨_,hx⟩:=hx
           have hbk:bk (ρ b)=bb:=by rw [e];rfl
           rw [hbk] at hx;have hrun:=znu (P:=P) (wgk hti) hh hsz hr.ones (off:=i*c.esz+f) (by simp only [List.length_append];omega);refine ⟨w.setRow bb ((vs++q).take (i*c.esz+f)++(a.eval y).cells.toList++(vs++q).drop (i*c.esz+f+ti.size)).toArray,ρ,?_,Went.write hI.inv (xuw hb (by simp)) rfl (by rw [e];simp [real]) rfl (fun o=>Iff.rfl) (by simp [World.setRow]) rfl rfl rfl (fun k hk=>setRow_other w bb k _ (by rw [<-hbk];exact hk)) (zwl hh ?_) (fun o u hm=>absurd (Nat.zero_le o) hm) (fun m=>?_)⟩
           . simp [execOp,ho,Instr.storeAt,hx,Instr.sureAddr,hrun]
           . have:=hcl2
             simp only [List.size_toArray,List.length_append,List.length_take,List.length_drop,Array.length_toList];omega
           . have hsplit:(vs++q).take (i*c.esz+f)++(a.eval y).cells.toList++(vs++q).drop (i*c.esz+f+ti.size)=(vs.take (i*c.esz+f)++(a.eval y).cells.toList++vs.drop (i*c.esz+f+ti.size))++q:=by
              rw [List.take_append_of_le_length (by omega),List.drop_append_of_le_length (by omega)];simp [List.append_assoc]
             refine ⟨⟨hun',Nat.zero_le _⟩,.inr ⟨bb,_,q,Tb,e,by rw [setRow_heap w bb _ _ Tb (0,0) hh,hsplit],?_,hT⟩⟩;rw [hflat]
             have:=((hrb.take (i*c.esz+f)).append hrd).append (hrb.drop (i*c.esz+f+ti.size))
             rw [hcl2];exact this.keep m.keep
       . cases hst
     . cases hst
   . cases hst
 . cases hst
def vlp (x:SV) (off:Nat):Option SV:=match x with
 | .one (.ptr b o)=>some (.one (.ptr b (o+off)))
 | .one (.pel b es i f)=>some (.one (.pel b es i (f+off)))
 | .elt cs=>some (.elt (cs.drop off))
 | _=>none
theorem x8o {S:TypeId} {f d:Nat} (ho:o.op=.fieldAddr S x f) (hdst:o.dst=some d) (hti:mkTI P S=some ti) {fs:List (Nat×Nat×TypeId)} (hs:ti.sh=.struct fs)
 {sz:Nat} {ft:TypeId} (hf:fs[f]? = some (off,sz,ft)) (h:vlp (opdS Γ I x) off=some v):vbd Γ P o I J (d::orr x) [] [(d,v)] []:=by
 refine vbd.pure hdst (fun E ρ I' J' a w hag hah hI=>?_);have hx:=hI.opd x;rw [hag.opd (fun t ht=>by simp [ht])] at hx
 have key:∀ b oo,a.eval x=.pointer (some ⟨b,oo,none⟩)->(execOp a.eval o).run P w=.ok (.value (.pointer (some ⟨b,oo+off,none⟩))) w:=fun b oo e=>by
  have:=wnh (P:=P) (wgk hti) hs hf w b oo
  simp [execOp,ho,e,this]
 unfold vlp at h;split at h
 . rename_i b oo e
   cases h;rw [e] at hx;exact ⟨_,key _ _ hx.2,hx.1,rfl⟩
 . rename_i b es i ff e
   cases h;rw [e] at hx;exact ⟨_,key _ _ hx.2,hx.1,by rw [Nat.add_assoc]⟩
 . rename_i cs e
   cases h;rw [e] at hx;obtain ⟨b,oo,vs,hv,hc,hr⟩:=hx;refine ⟨_,key _ _ hv,b,oo+off,vs.drop off,rfl,fun j u hj=>?_,hr.drop off⟩;rw [List.getElem?_drop] at hj
   have:=hc (off+j) u hj
   rw [show oo+off+j=oo+(off+j) by omega];exact this
 . cases h
def vui (sh:Sh) (x y:SV):Option SV:=match y with
 | .one (.dat (.raw (.int _ n)))=>if 0<=n then match sh with
  | .slice _ es _ _=>match x with
   | .one (.sl b es' lo k)=>if es=es'/\n.toNat<k then some (.one (.pel b es (lo+n.toNat) 0)) else none
   | _=>none
  | .array m _ es=>match x with
   | .one (.ptr b o)=>if n.toNat<m/\es≠0 then some (.one (.ptr b (o+n.toNat*es))) else none
   | .elt cs=>if n.toNat<m/\es≠0 then some (.elt (cs.drop (n.toNat*es))) else none
   | _=>none
  | _=>none
  else none
 | _=>none
theorem yaf {d:Nat} (ho:o.op=.indexAddr T x y) (hdst:o.dst=some d) (hti:mkTI P T=some ti)
 (h:vui ti.sh (opdS Γ I x) (opdS Γ I y)=some v):vbd Γ P o I J (d::(orr x++orr y)) [] [(d,v)] []:=by
 refine vbd.pure hdst (fun E ρ I' J' a w hag hah hI=>?_);have hx:=hI.opd x;have hy:=hI.opd y;rw [hag.opd (fun t ht=>by simp [ht])] at hx hy;have hok:=wgk hti;unfold vui at h;split at h
 . rename_i kk n ey;rw [ey] at hy;have hye:a.eval y=.int kk n:=RdC.x18 hy;split at h
   . rename_i h0;split at h
     . rename_i e es eb ik hsh;split at h
       . rename_i b es' lo k ex;split at h
         . rename_i hc;obtain ⟨rfl,hn⟩:=hc
           cases h;rw [ex] at hx;obtain ⟨hob,ad,cap,hv,hle,hcap⟩:=hx;obtain ⟨_,had,_⟩:=hcap (by omega);subst had;refine ⟨.pointer (some ⟨bk (ρ b),(lo+n.toNat)*es+0,none⟩),?_,hob,rfl⟩
           have:=Slot.run_indexAt_slice (P:=P) hok hsh w (bk (ρ b)) (lo*es) k cap kk n h0 hn
           simp only [execOp,ho,hv,hye];rw [show (lo+n.toNat)*es+0=lo*es+n.toNat*es by rw [Nat.add_mul];omega];simp [this]
         . cases h
       . cases h
     . rename_i m e es hsh;obtain ⟨dd,i,z,hd,hi,hz,hsz',hby,hzs,hone,hzc,hsh'⟩:=hok.ex;obtain ⟨rfl,hes⟩:=ycg (hsh'.symm.trans hsh)
       have key:∀ b oo,a.eval x=.pointer (some ⟨b,oo,none⟩)->n.toNat<m->es≠0->(execOp a.eval o).run P w=.ok (.value (.pointer (some ⟨b,oo+n.toNat*es,none⟩))) w:=fun b oo e1 hn hes0=>by
        have hlt:n<(m:Int):=by omega
        obtain ⟨j,hj,hjs⟩:=vpg (P:=P) (t:=e) (by rw [<-hes];exact hes0);simp only [execOp,ho,e1,hye];unfold Instr.indexAt;simp [asIntOf,w9c hd,h0,hlt,Instr.sureAddr,yyt hj,hjs,hes,v4h]
       split at h
       . rename_i b oo ex;split at h
         . rename_i hc
           cases h;rw [ex] at hx;exact ⟨_,key _ _ hx.2 hc.1 hc.2,hx.1,rfl⟩
         . cases h
       . rename_i cs ex;split at h
         . rename_i hc
           cases h;rw [ex] at hx;obtain ⟨b,oo,vs,hv,hcc,hr⟩:=hx;refine ⟨_,key _ _ hv hc.1 hc.2,b,oo+n.toNat*es,vs.drop (n.toNat*es),rfl,fun j u hj=>?_,hr.drop _⟩;rw [List.getElem?_drop] at hj
           have:=hcc (n.toNat*es+j) u hj
           rw [show oo+n.toNat*es+j=oo+(n.toNat*es+j) by omega];exact this
         . cases h
       . cases h
     . cases h
   . cases h
 . cases h
def ydz (x:SV) (n:Nat):Option SV:=match x with
 | .tup l=>l[n]?
 | _=>none
theorem xqd {n d:Nat} (ho:o.op=.extract x n) (hdst:o.dst=some d) (h:ydz (opdS Γ I x) n=some v):vbd Γ P o I J (d::orr x) [] [(d,v)] []:=by
 refine vbd.pure hdst (fun E ρ I' J' a w hag hah hI=>?_);have hx:=hI.opd x;rw [hag.opd (fun t ht=>by simp [ht])] at hx;unfold ydz at h;split at h
 . rename_i l e;rw [e] at hx;obtain ⟨vs,hv,hr⟩:=hx;obtain ⟨u,h1,h2⟩:=hr.get n v h;refine ⟨u,?_,SVR.of0 h2⟩;simp [execOp,ho,hv,Instr.extract,h1]
 . cases h
def ptrH:SV->Bool
 | .one (.ptr _ _) | .one (.pel _ _ _ _) | .elt _=>true
 | _=>false
theorem zk8 {d:Nat} (ho:o.op=.nilCheck x) (hdst:o.dst=some d) (h:ptrH (opdS Γ I x)=true):vbd Γ P o I J (d::orr x) [] [(d,opdS Γ I x)] []:=by
 refine vbd.pure hdst (fun E ρ I' J' a w hag hah hI=>?_);have hx:=hI.opd x;rw [hag.opd (fun t ht=>by simp [ht])] at hx
 have hv:∃ ad,a.eval x=.pointer (some ad):=by
  generalize opdS Γ I x=s at h hx;unfold ptrH at h;split at h
  . exact ⟨_,hx.2⟩
  . exact ⟨_,hx.2⟩
  . obtain ⟨b,oo,vs,e,_⟩:=hx;exact ⟨_,e⟩
  . cases h
 obtain ⟨ad,hv⟩:=hv;exact ⟨a.eval x,by simp [execOp,ho,hv],hx⟩
def lenH (J:List SB) (sh:Sh):SV->Option (List Nat×Nat)
 | .one (.sl _ _ _ n)=>match sh with
  | .slice _ _ _ _=>some ([],n)
  | _=>none
 | .one (.mp b)=>match sh with
  | .map _ _=>match gB J b with
   | .map es=>some ([b],es.length)
   | _=>none
  | _=>none
 | _=>none
theorem EnR.length {J:List SB} {ρ:Nat->Value} {M:Nat->Nat->Prop} {w:World}:∀{es:List MapEntry} {l:List (Value×SV)},EnR J ρ M w es l->es.length=l.length
 | [],[],_=>rfl
 | _::_,_::_,h=>by simp [h.2.length]
theorem w8w {d:TypeDesc} {k e:TypeId} (h:shOf P d=.map k e):d=.map k e:=by
 unfold shOf at h
 split at h<;>first | (cases h;done) | (cases h;rfl) | skip
 . split at h<;>cases h
 . split at h
   . split at h
     . split at h<;>cases h
     . cases h
   . cases h
theorem zs6 {b:Builtin} {ρ:Operand->Value} {xs:Array Operand} {ts:Array TypeId} (ho:o.op=.call { callee:=.builtin b,args:=xs,argTypes:=ts }) :
 execOp ρ o=builtin b ts o.type (xs.map fun | .const _=>true | _=>false) (xs.map ρ):=by
 unfold execOp;rw [ho];rfl
theorem xlk {d:Nat} (ho:o.op=.call { callee:=.builtin .len,args:=#[x],argTypes:=#[T] }) (hdst:o.dst=some d) (hti:mkTI P T=some ti) {n:Nat}
 (h:lenH J ti.sh (opdS Γ I x)=some (rh,n)):vbd Γ P o I J (d::orr x) rh [(d,.one (.dat (.raw (.int .i64 (n:Int)))))] []:=by
 refine vbd.pure hdst (fun E ρ I' J' a w hag hah hI=>⟨_,?_,RdC.raw rfl⟩);have hx:=hI.opd x;rw [hag.opd (fun t ht=>by simp [ht])] at hx;have hok:=wgk hti;unfold lenH at h;split at h
 . rename_i b es lo k e;split at h
   . rename_i e' es' eb ik hsh
     cases h;rw [e] at hx;obtain ⟨_,ad,cap,hv,_⟩:=hx;have hrun:=Slot.run_len_slice (P:=P) hok hsh o.type ad n cap w;rw [zs6 ho,show (#[x]:Array Operand).map a.eval=#[a.eval x] from by simp]
     have:∀ cs,(builtin .len #[T] o.type cs #[a.eval x]).run P w=.ok (.value (.int .i64 n)) w:=fun cs=>by
      rw [hv];simp only [builtin,Sem.run_bind,hrun];rfl
     exact this _
   . cases h
 . rename_i b e;split at h
   . rename_i k ee hsh;split at h
     . rename_i es hb
       cases h;rw [e] at hx
       have hb':gB J' b=.map es:=by rw [hah.gB (by simp)];exact hb
       obtain ⟨bb,ents,clk,he,hh,hen⟩:=hI.sbr hb' (by simp);obtain ⟨dd,i,z,hd,hi,hz,hsz',hby,hzs,hone,hzc,hsh'⟩:=hok.ex;have hmap:=w8w (hsh'.symm.trans hsh);subst hmap;have hl:=hen.length
       have hv:a.eval x=.map (some bb):=by rw [hx.2.1,he]
       rw [zs6 ho,show (#[x]:Array Operand).map a.eval=#[a.eval x] from by simp]
       have:∀ cs,(builtin .len #[T] o.type cs #[a.eval x]).run P w=.ok (.value (.int .i64 es.length)) w:=fun cs=>by
        rw [hv];rw [<-hl];simp [builtin,Builtin.len_,w9c hd,getObj,Sem.run,hh,goInt]
       exact this _
     . cases h
   . cases h
 . cases h
def natH:SV->Option Nat
 | .one (.dat (.raw (.int _ n)))=>if 0<=n then some n.toNat else none
 | _=>none
def yjh (Γ:List (Nat×List Cell)) (I:List SV) (d:Nat):Option Operand->Option Nat
 | none=>some d
 | some x=>natH (opdS Γ I x)
theorem yuj {v:Value} {x:SV} {n:Nat} (h:SVR J ρ M w v x) (hn:natH x=some n):∃ k,v=.int k n:=by
 unfold natH at hn;split at hn
 . rename_i k m;split at hn
   . rename_i h0
     cases hn;refine ⟨k,?_⟩;rw [RdC.x18 h];rw [Int.toNat_of_nonneg h0]
   . cases hn
 . cases hn
def yw0 (Γ:List (Nat×List Cell)) (I:List SV) (sh:Sh) (x:SV) (lo hi:Option Operand):Option SV:=match sh,x with
 | .slice _ es _ _,.one (.sl b es' l0 n)=>match yjh Γ I 0 lo,yjh Γ I n hi with
  | some l,some h=>if es=es'/\l<=h/\h<=n then some (.one (.sl b es (l0+l) (h-l))) else none
  | _,_=>none
 | _,_=>none
theorem z1i {lo hi:Option Operand} {d:Nat} (ho:o.op=.slice T x lo hi none) (hdst:o.dst=some d) (hti:mkTI P T=some ti)
 (h:yw0 Γ I ti.sh (opdS Γ I x) lo hi=some v):vbd Γ P o I J (d::(orr x++orrO lo++orrO hi)) [] [(d,v)] []:=by
 refine vbd.pure hdst (fun E ρ I' J' a w hag hah hI=>?_);have hx:=hI.opd x;rw [hag.opd (fun t ht=>by simp [ht])] at hx;have hok:=wgk hti;unfold yw0 at h;split at h
 . rename_i e es eb ik b es' l0 n hsh ex;split at h
   . rename_i l hh hl hh';split at h
     . rename_i hc;obtain ⟨rfl,h1,h2⟩:=hc
       cases h;rw [ex] at hx;obtain ⟨hob,ad,cap,hv,hle,hcap⟩:=hx;obtain ⟨dd,i,z,hd,hi',hz,hsz',hby,hzs,hone,hzc,hsh'⟩:=hok.ex;obtain ⟨rfl,j,z',hj,_,hjs,_,hes0,_⟩:=zu3 (hsh'.symm.trans hsh)
       have hlo:match (lo.map a.eval) with | none=>l=0 | some v=>∃ k,v=.int k l:=by
        cases lo with
        | none=>simp only [yjh,Option.some.injEq] at hl;exact hl.symm
        | some y=>
         have hy:=hI.opd y;rw [hag.opd (fun t ht=>by simp [orrO,ht])] at hy;exact yuj hy hl
       have hhi:match (hi.map a.eval) with | none=>hh=n | some v=>∃ k,v=.int k hh:=by
        cases hi with
        | none=>simp only [yjh,Option.some.injEq] at hh';exact hh'.symm
        | some y=>
         have hy:=hI.opd y;rw [hag.opd (fun t ht=>by simp [orrO,ht])] at hy;exact yuj hy hh'
       have hb:=w8f (P:=P) (isS:=true) (len:=n) (cap:=cap) hlo hhi h1 (Nat.le_trans h2 hle) w;refine ⟨.slice (if cap=l then ad else ad.map (·.add (l*es))) (hh-l) (cap-l),?_,hob,_,_,rfl,by omega,fun h0=>?_⟩
       . cases ad with
         | none=>simp [execOp,ho,hv,Instr.sliceAt,w9c hd,Instr.slice,hb,yyt hj,hjs]
         | some ad=>simp [execOp,ho,hv,Instr.sliceAt,w9c hd,Instr.slice,hb,yyt hj,hjs]
       . obtain ⟨hre,had,arr,T',fz,hheap,hsz⟩:=hcap (by omega);subst had;refine ⟨hre,?_,arr,T',fz,hheap,?_⟩
         . rw [if_neg (by omega)];simp [v4h,Nat.add_mul]
         . rw [show l0+l+(cap-l)=l0+cap by omega];exact hsz
     . cases h
   . cases h
 . cases h
end Go.Hp
namespace Go.Hp
open Go Go.RowKit Go.Slot
variable {P:Program} {Γ:List (Nat×List Cell)}
variable {M Mo:Nat->Nat->Prop} {w:World} {b cap es eb nb:Nat} {T e:TypeId} {ρ:Nat->Value} {J J':List SB} {v:Value} {x:SB} {bs:List Nat} {o:Oper} {I:List SV} {parts:List (Nat×Operand)} {ti te:TI} {ik:Option IntKind}
def frzB:SB->SB
 | .arr c _ T=>.arr c (c.cnt*c.esz) T
 | x=>x
def frzE (J:List SB) (bs:List Nat):List (Nat×SB):=bs.map fun b=>(b,frzB (gB J b))
def y10:SB->Bool
 | .arr _ _ _=>true
 | _=>false
def subC (c:Cell) (lo n:Nat):Cell:=match lo==0&&n==c.cnt with
 | true=>c
 | false=>c.sub lo n
def zyf (J:List SB):HC->Option (Cell×List Nat)
 | .dat c=>some (c,[])
 | .sl b es lo n=>match gB J b with
  | .arr c _ _=>if c.esz=es/\lo+n<=c.cnt then some (subC c lo n,[b]) else none
  | _=>none
 | _=>none
def w8n (J:List SB):List HC->Option (List Cell×List Nat)
 | []=>some ([],[])
 | h::r=>match zyf J h,w8n J r with
  | some (c,bs),some (cs,bs')=>some (c::cs,bs++bs')
  | _,_=>none
theorem xh6 {c:Cell} {lo n:Nat} (_h:lo+n<=c.cnt):(lo=0/\n=c.cnt/\subC c lo n=c)\/subC c lo n=c.sub lo n:=by
 unfold subC
 split
 . rename_i e;simp only [Bool.and_eq_true,beq_iff_eq] at e;exact .inl ⟨e.1,e.2,rfl⟩
 . exact .inr rfl
theorem x78 {vs q:List Value} {c:Cell} (hb:w.heap[b]? = some (.cells (vs++q).toArray T (0,0))) (hr:RdD M w vs c.flat) (hu:c.uni)
 (hcap:c.cnt<=cap) (hM:∀ o,o<vs.length->¬M b o):RdC M w (.slice (some ⟨b,0,none⟩) c.cnt cap) c:=by
 cases c with
 | ints k l=>
  refine .ints b 0 rfl hcap (fun _=>rfl) (fun i hi=>?_);obtain ⟨v,hv,hrv⟩:=hr.get i (.raw (.int k l[i])) (by simp [Cell.flat,hi]);rw [RdC.x18 hrv] at hv;rw [Nat.zero_add];exact ⟨hM _ (List.getElem?_eq_some_iff.1 hv).1,xbn hb hv⟩
 | sl n rows=>
  have hu:∀ r∈rows,r.length=n:=hu
  have key:∀ i (hi:i<rows.length) j,j<n->∃ v,vs[i*n+j]? = some v/\∀ hj':j<rows[i].length,RdC M w v (rows[i][j]'hj'):=fun i hi j hj=>by
   have hlen:=hu _ (List.getElem_mem hi)
   obtain ⟨v,hv,hrv⟩:=hr.get (i*n+j) (rows[i][j]'(by omega)) (by
    simp only [Cell.flat];rw [xsd rows i j hu hi hj]
    have:rows.getD i []=rows[i]:=by simp [hi]
    rw [this]
    simp [hlen,hj])
   exact ⟨v,hv,fun _=>hrv⟩
  refine .sl b 0 (fun i j=>(vs[i*n+j]?).getD Go.undef) rfl hcap (fun _=>rfl) hu (fun i hi j hj=>?_) (fun i hi j hj=>?_)
  . obtain ⟨v,hv,_⟩:=key i hi j hj;rw [hv,Nat.zero_add];exact ⟨hM _ (List.getElem?_eq_some_iff.1 hv).1,xbn hb hv⟩
  . have hlen:=hu _ (List.getElem_mem hi);obtain ⟨v,hv,hrv⟩:=key i hi j (by omega);rw [hv];exact hrv hj
 | _=>exact hu.elim
theorem RdC.empty {ad:Option Addr} {c:Cell} (hu:c.uni) (h0:c.cnt=0):RdC M w (.slice ad 0 cap) c:=by
 cases c with
 | ints k l=>
  have:l=[]:=List.eq_nil_of_length_eq_zero h0
  subst this;exact .ints 0 0 rfl (Nat.zero_le _) (fun h=>absurd rfl h) (fun i hi=>absurd hi (by simp))
 | sl n rows=>
  have:rows=[]:=List.eq_nil_of_length_eq_zero h0
  subst this;exact .sl 0 0 (fun _ _=>Go.undef) rfl (Nat.zero_le _) (fun h=>absurd rfl h) (fun r hr=>by cases hr) (fun i hi=>absurd hi (by simp)) (fun i hi=>absurd hi (by simp))
 | _=>exact hu.elim
theorem Cell.woh {c:Cell} (hu:c.uni) {lo n:Nat}:(c.sub lo n).uni:=by
 cases c with
 | ints k l=>trivial
 | sl m rows=>exact fun r hr=>hu r (List.mem_of_mem_drop (List.mem_of_mem_take hr))
 | _=>exact hu.elim
variable {c:Cell}
theorem Cell.zhd (hu:c.uni) {lo n:Nat} (h:lo+n<=c.cnt):(c.sub lo n).cnt=n:=by
 cases c with
 | ints k l=>simp [Cell.sub,Cell.cnt] at h ⊢;omega
 | sl m rows=>simp [Cell.sub,Cell.cnt] at h ⊢;omega
 | _=>exact hu.elim
theorem wak (h:HInv Γ Mo ρ J w) {lo n:Nat} {T:Option TypeId} (hb:J[b]? = some (.arr c (c.cnt*c.esz) T)) (hes:c.esz=es) (hfit:lo+n<=c.cnt)
 (hv:HRd J ρ (MX Mo ρ J) w v (.sl b es lo n)):RdC (MX Mo ρ J) w v (subC c lo n):=by
 obtain ⟨⟨hu,_⟩,h0⟩:=h.blk b _ hb;obtain ⟨_,ad,cap,rfl,hle,hcap⟩:=hv;by_cases hc0:cap=0
 . have hn:n=0:=by omega
   subst hn
   rcases xh6 hfit with ⟨h1,h2,h3⟩ | h3
   . rw [h3];exact RdC.empty hu h2.symm
   . rw [h3];exact RdC.empty (Cell.woh hu) (Cell.zhd hu hfit)
 . obtain ⟨hre,had,arr,T',fz,hheap,hsz⟩:=hcap hc0
   rcases h0 with ⟨_,e⟩ | ⟨bb,vs,q,T2,e,hh,hr,_⟩
   . exact absurd e hre
   . have hbk:bk (ρ b)=bb:=by rw [e];rfl
     have hfl:=Cell.wg8 hu;have hvl:=hr.length
     have hM:∀ o,o<vs.length->¬MX Mo ρ J bb o:=fun o ho hm=>by
      rcases hm with hm | ⟨j,y,hj,hy,hrj,ej⟩
      . exact h.sep b _ hb rfl hre o (by rw [hbk];exact hm)
      . have hjb:=h.inj j b y _ hj hb (SB.zgj hy) rfl hrj hre (by rw [hbk];exact ej);subst hjb;rw [hb] at hj;cases hj
        have:c.cnt*c.esz<=o:=hy
        omega
     have hd:=x78 (cap:=max c.cnt cap) hh hr hu (Nat.le_max_left _ _) hM;rw [hbk] at had
     rcases xh6 hfit with ⟨h1,h2,h3⟩ | h3
     . rw [h3]
       have:=RdC.sub hd hu (lo:=0) (n:=c.cnt) (cap':=cap) (ad:=ad) (by omega) (fun _=>by rw [had,h1];simp) (by omega)
       have hs:c.sub 0 c.cnt=c:=by
        cases c with
        | ints k l=>simp [Cell.sub,Cell.cnt]
        | sl m rows=>simp [Cell.sub,Cell.cnt]
        | _=>rfl
       rw [hs] at this;rw [h2];exact this
     . rw [h3];exact RdC.sub hd hu hfit (fun _=>by rw [had,hes,Nat.zero_add]) hle
theorem y74 (h:b<J.length):gB (J.set b x) b=x:=by simp [gB,h]
theorem yta {i:Nat} (h:i≠b):gB (J.set b x) i=gB J i:=by simp [gB,List.getElem?_set_ne (Ne.symm h)]
theorem wh0 {α:Type}:∀(e:List (Nat×α)) (l:List α),(appL e l).length=l.length
 | [],_=>rfl
 | (i,x)::e,l=>by simp only [appL];rw [wh0 e];simp
theorem Went.frz {Mo:Nat->Nat->Prop} {ρ:Nat->Value} {w:World} {J:List SB}:∀(bs:List Nat) (η1:List SB),HInv Γ Mo ρ η1 w->η1.length=J.length->(∀ b∈bs,y10 (gB J b)=true)->(∀ b,gB η1 b=gB J b\/gB η1 b=frzB (gB J b))->
 Went Γ Mo ρ η1 w ρ (appL (frzE J bs) η1) w/\(∀ b,gB (appL (frzE J bs) η1) b=gB η1 b\/gB (appL (frzE J bs) η1) b=frzB (gB J b))/\(∀ b∈bs,gB (appL (frzE J bs) η1) b=frzB (gB J b))
 | [],η1,h,_,_,_=>⟨Went.refl h,fun b=>.inl rfl,fun b hb=>by cases hb⟩
 | b::bs,η1,h,hl,ha,hg=>by
  have hab:=ha b (by simp)
  have hx:∃ c k T,gB J b=.arr c k T:=by
   generalize gB J b=y at hab
   cases y<;>first | exact ⟨_,_,_,rfl⟩ | cases hab
  obtain ⟨c,k,T,hx⟩:=hx
  have hf:frzB (gB J b)=.arr c (c.cnt*c.esz) T:=by rw [hx];rfl
  obtain ⟨k1,h1⟩:∃ k1,η1[b]? = some (.arr c k1 T):=by
   rcases hg b with e | e
   . exact ⟨k,xuw (e.trans hx) (by simp)⟩
   . exact ⟨_,xuw (e.trans hf) (by simp)⟩
  have hlt:b<η1.length:=(List.getElem?_eq_some_iff.1 h1).1;have hsbr:=h.blk b _ h1
  have hstep:Went Γ Mo ρ η1 w ρ (η1.set b (.arr c (c.cnt*c.esz) T)) w:=by
   refine Went.less h h1 (by simp) (fun _=>rfl) (fun o ho=>Nat.le_trans hsbr.1.2 ho) (fun m=>?_);obtain ⟨⟨hu,_⟩,h0⟩:=hsbr.mv m (fun _ _=>rfl);exact ⟨⟨hu,Nat.le_refl _⟩,h0⟩
  have hg':∀ i,gB (η1.set b (.arr c (c.cnt*c.esz) T)) i=gB J i\/gB (η1.set b (.arr c (c.cnt*c.esz) T)) i=frzB (gB J i):=fun i=>by
   by_cases e:i=b
   . subst e;rw [y74 hlt,hf];exact .inr rfl
   . rw [yta e];exact hg i
  obtain ⟨h3,h4,h5⟩:=Went.frz bs (η1.set b (.arr c (c.cnt*c.esz) T)) hstep.inv (by simp [hl]) (fun i hi=>ha i (by simp [hi])) hg'
  have he:appL (frzE J (b::bs)) η1=appL (frzE J bs) (η1.set b (.arr c (c.cnt*c.esz) T)):=by
   show appL ((b,frzB (gB J b))::frzE J bs) η1=_;rw [hf];rfl
  rw [he];refine ⟨hstep.trans h3,fun i=>?_,fun i hi=>?_⟩
  . rcases h4 i with e | e
    . by_cases e':i=b
      . subst e';rw [e,y74 hlt,hf];exact .inr rfl
      . rw [yta e'] at e;exact .inl e
    . exact .inr e
  . rcases List.mem_cons.1 hi with rfl | hi
    . rcases h4 i with e | e
      . rw [e,y74 hlt,hf]
      . exact e
    . exact h5 i hi
theorem wtq {h : HC} (hd : zyf J h = some (c, bs)) : ∀ b ∈ bs, y10 (gB J b) = true := by
 unfold zyf at hd;split at hd
 . cases hd;intro b hb;cases hb
 . split at hd
   . rename_i c' k T hb;split at hd
     . cases hd;intro b hb';simp only [List.mem_singleton] at hb';subst hb';rw [hb];rfl
     . cases hd
   . cases hd
 . cases hd
theorem y93 {J:List SB}:∀{hs:List HC} {cs:List Cell} {bs:List Nat},w8n J hs=some (cs,bs)->∀ b∈bs,y10 (gB J b)=true
 | [],cs,bs,hd=>by cases hd;intro b hb;cases hb
 | h::hs,cs,bs,hd=>by
  simp only [w8n] at hd;split at hd
  . rename_i c bs1 cs2 bs2 h1 h2
    cases hd;intro b hb
    rcases List.mem_append.1 hb with hb | hb
    . exact wtq h1 b hb
    . exact y93 h2 b hb
  . cases hd
theorem yw5 {Mo : Nat → Nat → Prop} {ρ : Nat → Value} (h : HInv Γ Mo ρ J' w) {x : HC} (hd : zyf J x = some (c, bs)) (hf : ∀ b ∈ bs, gB J' b = frzB (gB J b))
 (hv:HRd J' ρ (MX Mo ρ J') w v x):RdC (MX Mo ρ J') w v c:=by
 unfold zyf at hd;split at hd
 . cases hd;exact hv
 . rename_i b es lo n;split at hd
   . rename_i c' k T hb;split at hd
     . rename_i hc
       cases hd
       have:=hf b (by simp)
       rw [hb] at this;exact wak h (xuw this (by simp)) hc.1 hc.2 hv
     . cases hd
   . cases hd
 . cases hd
theorem zqm {Mo:Nat->Nat->Prop} {ρ:Nat->Value} {J J':List SB} {w:World} (h:HInv Γ Mo ρ J' w):∀{hs:List HC} {cs:List Cell} {bs:List Nat},w8n J hs=some (cs,bs)->(∀ b∈bs,gB J' b=frzB (gB J b))->∀{vs:List Value},
 HRL J' ρ (MX Mo ρ J') w vs hs->RdD (MX Mo ρ J') w vs cs
 | [],cs,bs,hd,_,vs,hv=>by
  cases hd
  cases vs with
  | nil=>trivial
  | cons _ _=>exact hv.elim
 | x::hs,cs,bs,hd,hf,vs,hv=>by
  simp only [w8n] at hd;split at hd
  . rename_i c bs1 cs2 bs2 h1 h2
    cases hd
    cases vs with
    | nil=>exact hv.elim
    | cons v vs=>exact ⟨yw5 h h1 (fun b hb=>hf b (by simp [hb])) hv.1,zqm h h2 (fun b hb=>hf b (by simp [hb])) hv.2⟩
  . cases hd
theorem xm5 {x : HC} (hd : zyf J x = some (c, bs)) (ha : ∀ b ∈ bs, gB J' b = gB J b) : zyf J' x = some (c, bs) := by
 unfold zyf at hd ⊢;split at hd
 . exact hd
 . rename_i b es lo n
   have e:gB J' b=gB J b:=by
    split at hd
    . split at hd
      . cases hd;exact ha b (by simp)
      . cases hd
    . cases hd
   simp only [e];exact hd
 . cases hd
theorem vrp {J J':List SB}:∀{hs:List HC} {cs:List Cell} {bs:List Nat},w8n J hs=some (cs,bs)->(∀ b∈bs,gB J' b=gB J b)->w8n J' hs=some (cs,bs)
 | [],cs,bs,hd,_=>hd
 | x::hs,cs,bs,hd,ha=>by
  simp only [w8n] at hd ⊢;split at hd
  . rename_i c bs1 cs2 bs2 h1 h2
    cases hd;rw [xm5 h1 (fun b hb=>ha b (by simp [hb])),vrp h2 (fun b hb=>ha b (by simp [hb]))]
  . cases hd
theorem zii {J J':List SB}:∀{bs:List Nat},(∀ b∈bs,gB J' b=gB J b)->frzE J' bs=frzE J bs
 | [],_=>rfl
 | b::bs,ha=>by
  show (b,frzB (gB J' b))::frzE J' bs=(b,frzB (gB J b))::frzE J bs;rw [ha b (by simp),zii (fun i hi=>ha i (by simp [hi]))]
theorem RI.frz {E:HEnv} {ρ:Nat->Value} {I:List SV} {J:List SB} {a:Act} {w:World} (h:RI Γ E ρ I J a w) {bs:List Nat} (ha:∀ b∈bs,y10 (gB J b)=true) :
 RI Γ E ρ I (appL (frzE J bs) J) a w/\∀ b∈bs,gB (appL (frzE J bs) J) b=frzB (gB J b):=by
 obtain ⟨h1,_,h3⟩:=Went.frz bs J h.inv rfl ha (fun _=>.inl rfl);exact ⟨h.go h1,h3⟩
def y31 (place:Nat->Option (Nat×Nat)) (cs:List HC):List (Nat×SV)->Option (List HC)
 | []=>some cs
 | (i,x)::r=>match place i,vg7 x with
  | some (off,size),some us=>if us.length=size/\off+size<=cs.length then y31 place (cs.take off++us++cs.drop (off+size)) r else none
  | _,_=>none
def x3f (Γ:List (Nat×List Cell)) (I:List SV):List (Nat×Operand)->List (Nat×SV)
 | []=>[]
 | (i,x)::r=>(i,opdS Γ I x)::x3f Γ I r
theorem xtx {E:HEnv} {ρ:Nat->Value} {I:List SV} {J:List SB} {a:Act} {w:World} (hI:RI Γ E ρ I J a w) (place:Nat->Option (Nat×Nat)):∀(ps:List (Nat×Operand)) (cells:Array Value) (cs cs':List HC),
 HRL J ρ (MX E.Mo ρ J) w cells.toList cs->y31 place cs (x3f Γ I ps)=some cs'->∃ cells',Instr.fill place cells (ps.map fun p=>(p.1,a.eval p.2))=some cells'/\HRL J ρ (MX E.Mo ρ J) w cells'.toList cs'
 | [],cells,cs,cs',hr,h=>by
  simp only [x3f,y31,Option.some.injEq] at h;subst h;exact ⟨cells,rfl,hr⟩
 | (i, x) :: ps, cells, cs, cs', hr, h => by
  simp only [x3f,y31] at h;split at h
  . rename_i off size us hp hu;split at h
    . rename_i hc;obtain ⟨h1,h2⟩:=hc;have hv:=z1g hu (hI.opd x)
      have hvl:(a.eval x).cells.size=size:=by rw [<-h1,<-hv.length];simp
      have hcl:cells.size=cs.length:=by rw [<-hr.length];simp
      have hfold:((a.eval x).cells.zipIdx.foldl (fun cs (p:Value×Nat)=>cs.setIfInBounds (off+p.2) p.1) cells).toList=cells.toList.take off++(a.eval x).cells.toList++cells.toList.drop (off+size):=by
       have:=ye2 off (a.eval x).cells.toList 0 cells (by simp [hvl];omega)
       rw [<-Array.foldl_toList];simpa [hvl] using this
      obtain ⟨cells',hf,hr'⟩:=xtx hI place ps ((a.eval x).cells.zipIdx.foldl (fun cs (p:Value×Nat)=>cs.setIfInBounds (off+p.2) p.1) cells) _ cs' (by
       rw [hfold]
       exact ((hr.take off).append hv).append (hr.drop _)) h
      refine ⟨cells',?_,hr'⟩;simp only [List.map_cons,Instr.fill,hp];rw [if_neg]
      . exact hf
      . simp only [hvl,ne_eq,not_true_eq_false,decide_false,Bool.false_or,decide_eq_true_eq];omega
    . cases h
  . cases h
theorem ywe {rd:List Nat} {I I':List SV} (hag:agS rd I I'):∀(ps:List (Nat×Operand)),(∀ t∈orrs ps,t∈rd)->x3f Γ I' ps=x3f Γ I ps
 | [],_=>rfl
 | (i,x)::ps,h=>by
  simp only [x3f];rw [hag.opd (fun t ht=>h t (by simp [orrs,ht])),ywe hag ps (fun t ht=>h t (by simp [orrs,ht]))]
theorem y49 {d:Nat} (ho:o.op=.build T parts.toArray) (hdst:o.dst=some d) (hti:mkTI P T=some ti)
 (harr:v27 ti=true) (hagg:ti.sh.agg=true) {hs:List HC} (hf:y31 (placeOf ti.sh) (ti.zc.map .dat) (x3f Γ I parts)=some hs):vbd Γ P o I J (d::orrs parts) [] [(d,.agg hs)] []:=by
 have hok:=wgk hti;obtain ⟨ds,i,z,hd,hi,hz,hsz,_,hzs,hone,hzc,hsh⟩:=hok.ex;refine vbd.pure hdst (fun E ρ I' J' a w hag hah hI=>?_);have hav:=ywe (Γ:=Γ) hag parts (fun t ht=>by simp [ht])
 have hz0:HRL J' ρ (MX E.Mo ρ J') w z.cells.toList (ti.zc.map .dat):=by rw [hzc];exact vrd hone
 obtain ⟨cells',hfill,hrd⟩:=xtx hI (placeOf ti.sh) parts z.cells _ hs hz0 (by rw [hav];exact hf)
 have hbuilt:P.built T (parts.map fun p=>(p.1,a.eval p.2))=some cells':=by
  unfold Program.built;rw [hi,hd];rw [hsh] at hagg
  rcases zc8 hagg with ⟨fl,rfl⟩ | ⟨n,e,rfl⟩
  . have hst:∃ fs,ti.sh=.struct fs:=by
     rw [hsh];unfold shOf at hagg ⊢;dsimp only at hagg ⊢;split at hagg
     . exact ⟨_,by rename_i hc;rw [if_pos hc]⟩
     . cases hagg
    obtain ⟨fs,hfs⟩:=hst;obtain ⟨fl',e1,rfl,hne⟩:=xzn (hsh.symm.trans hfs)
    cases e1;have hpl:fl.toList.mapM (fun f=>(P.info? f.type).map fun i=>(f.offset,i.size))=some (fl.toList.map fun f=>(f.offset,P.cellsOf f.type)):=
     mapM_some _ _ _ (fun f hf=>by
      obtain ⟨j,hj,hjs⟩:=vpg (hne f hf)
      simp [hj,hjs])
    simp only [hz,hpl];rw [hfs] at hfill;rw [<-hfill]
    congr 1
    funext x
    simp [placeOf];rfl
  . have har:ti.sh=.array n e (P.cellsOf e):=hsh
    have har':P.cellsOf e≠0:=by unfold v27 at harr;rw [har] at harr;simpa using harr
    obtain ⟨j,hj,hjs⟩:=vpg har';simp only [hz,hj];rw [har] at hfill;rw [<-hfill,hjs];rfl
 refine ⟨.agg cells',?_,⟨cells'.toList,by simp,hrd⟩⟩;have hrun:=run_build (P:=P) w T (parts.map fun p=>(p.1,a.eval p.2)).toArray cells' (by simpa using hbuilt);simp only [execOp,ho]
 have he:(parts.toArray.map fun (p:Nat×Operand)=>(p.1,a.eval p.2))=(parts.map fun p=>(p.1,a.eval p.2)).toArray:=by simp
 have:(Array.map (fun x=>match x with | (i,x)=>(i,a.eval x)) parts.toArray)=(parts.map fun p=>(p.1,a.eval p.2)).toArray:=by rw [<-he]
 rw [this];simp [hrun]
def y44 (es:Nat) (ik:Option IntKind) (n:Nat) (cs:List Cell):Option Cell:=match ik with
 | some k=>if es=1 then (w6n k cs).map (.ints k) else none
 | none=>some (.sl es (chunk es n cs))
theorem xf8 {k : IntKind} : ∀ {cs : List Cell} {l : List Int}, w6n k cs = some l → cs = l.map fun n => .raw (.int k n)
 | [],l,h=>by simp [w6n] at h;simp [h]
 | c::cs,l,h=>by
  unfold w6n at h;split at h
  . rename_i heq;cases heq
  . rename_i k' n r heq
    cases heq;split at h
    . rename_i hk;subst hk;simp only [Option.map_eq_some_iff] at h;obtain ⟨l',h1,rfl⟩:=h;rw [xf8 h1];rfl
    . cases h
  . cases h
theorem x1n {n:Nat} {cs:List Cell} (hlen:cs.length=n*es) (h:y44 es ik n cs=some c):c.uni/\c.cnt=n/\c.esz=es/\c.flat=cs:=by
 unfold y44 at h;split at h
 . rename_i k;split at h
   . rename_i he;subst he;obtain ⟨l,hl,rfl⟩:=Option.map_eq_some_iff.1 h
     have:=xf8 hl
     subst this;simp only [List.length_map,Nat.mul_one] at hlen;exact ⟨trivial,hlen,rfl,rfl⟩
   . cases h
 . cases h;exact ⟨xc3 es n cs hlen,v3j es n cs,rfl,x7j es n cs hlen⟩
theorem w1y {place : Nat → Option (Nat × Nat)} : ∀ (ps : List (Nat × SV)) (cs cs' : List HC), y31 place cs ps = some cs' → cs'.length = cs.length
 | [],cs,cs',h=>by simp only [y31,Option.some.injEq] at h;rw [h]
 | (i, x) :: ps, cs, cs', h => by
  simp only [y31] at h;split at h
  . rename_i off size us hp hu;split at h
    . rename_i hc;rw [w1y ps _ cs' h];simp only [List.length_append,List.length_take,List.length_drop];omega
    . cases h
  . cases h
theorem vfo {J:List SB}:∀{hs:List HC} {cs:List Cell} {bs:List Nat},w8n J hs=some (cs,bs)->cs.length=hs.length
 | [],cs,bs,hd=>by cases hd;rfl
 | h::hs,cs,bs,hd=>by
  simp only [w8n] at hd;split at hd
  . rename_i c bs1 cs2 bs2 h1 h2
    cases hd;simp [vfo h2]
  . cases hd
def litH (Γ:List (Nat×List Cell)) (I:List SV) (J:List SB) (es:Nat) (ik:Option IntKind) (zc:List Cell) (n:Nat) (parts:List (Nat×Operand)):Option (Cell×List Nat):=
 if n*es<=16777216/\n≠0 then match y31 (fun i=>some (i*es,es)) ((yql zc n).map .dat) (x3f Γ I parts) with
  | some hs=>match w8n J hs with
   | some (cs,bs)=>(y44 es ik n cs).map fun c=>(c,bs)
   | none=>none
  | none=>none
 else none
theorem vzj {J:List SB} {ρ:Nat->Value} {M:Nat->Nat->Prop} {w:World} {vs:List Value} {cs:List Cell} (h:HRL J ρ M w vs (cs.map .dat)):∀ n,HRL J ρ M w (yql vs n) ((yql cs n).map .dat)
 | 0=>trivial
 | n+1=>by
  simp only [yql,List.map_append];exact h.append (vzj h n)
theorem vep {E:HEnv} {a:Act} (hI:RI Γ E ρ I J a w) {n:Nat} (ho:o.op=.buildSlice T n parts.toArray)
 (hti:mkTI P T=some ti) (hsh:ti.sh=.slice e es eb ik) (hte:mkTI P e=some te) (h:litH Γ I J es ik te.zc n parts=some (c,bs)) :
 ∃ vs:List Value,(execOp a.eval o).run P w=.ok (.value (.slice (some ⟨w.heap.size,0,none⟩) n n)) (w.alloc (.cells vs.toArray e))/\c.uni/\c.cnt=n/\c.esz=es/\vs.length=n*es/\(∀ b∈bs,y10 (gB J b)=true)/\
  ∀(ρ':Nat->Value) (J':List SB) (w':World),HInv Γ E.Mo ρ' J' w'->Mv J ρ (MX E.Mo ρ J) w J' ρ' (MX E.Mo ρ' J') w'->(∀ b∈bs,gB J' b=frzB (gB J b))->RdD (MX E.Mo ρ' J') w' vs c.flat:=by
 have hok:=wgk hti;obtain ⟨ds,i,z,hd,hi,hz,_,_,_,_,_,hsh'⟩:=hok.ex;unfold litH at h;split at h
 case isFalse=>cases h
 rename_i hsmall;split at h
 case h_2=>cases h
 rename_i hs hfill;split at h
 case h_2=>cases h
 rename_i cs bs' hdat;obtain ⟨c',hsl,he⟩:=Option.map_eq_some_iff.1 h
 cases he;obtain ⟨rfl,j,z',hj,hz',hjs,hjb,hes0,hzs,hik⟩:=zu3 (hsh'.symm.trans hsh);obtain ⟨de,je,ze,hde,hje,hze,_,_,_,hone,hzce,_⟩:=(wgk hte).ex;rw [hj] at hje;cases hje;rw [hz'] at hze;cases hze;have hz0:HRL J ρ (MX E.Mo ρ J) w (yql z'.cells.toList n) ((yql te.zc n).map .dat):=vzj (by rw [hzce];exact vrd hone) n
 have hinit:(Array.range (n*es)).map (z'.cells[· % z'.cells.size]!)=(yql z'.cells.toList n).toArray:=by
  apply Array.ext
  . simp [vww,hzs]
  . intro q h1 h2;simp only [Array.size_map,Array.size_range] at h1;have hq:=vp8 z'.cells.toList n q (by simpa [hzs] using h1);have hlt:q % z'.cells.size<z'.cells.size:=Nat.mod_lt _ (by rw [hzs];omega);simp only [Array.getElem_map,Array.getElem_range,List.getElem_toArray];simp only [Array.length_toList,Array.getElem?_toList] at hq;rw [Array.getElem?_eq_getElem hlt,List.getElem?_eq_getElem (by simpa using h2)] at hq;simp at hq;rw [hq];simp [hlt]
 obtain ⟨cells',hf,hrd⟩:=xtx hI (fun i=>some (i*es,es)) parts (yql z'.cells.toList n).toArray _ hs (by simpa using hz0) hfill
 have hrun:(execOp a.eval o).run P w=.ok (.value (.slice (some ⟨w.heap.size,0,none⟩) n n)) (w.alloc (.cells cells' e)):=by
  have hpe:(Array.map (fun x=>match x with | (i,x)=>(i,a.eval x)) parts.toArray).toList=parts.map fun p=>(p.1,a.eval p.2):=by simp
  have h24:¬(16777216<n*es):=by omega
  have hne:¬(n*es=0):=by
   intro h0
   rcases Nat.mul_eq_zero.1 h0 with h0 | h0
   . exact hsmall.2 h0
   . exact hes0 h0
  simp only [execOp,ho,Instr.buildSlice,Sem.run_bind,w9c hd,Result.andThen_ok,yyt hj,hjs];rw [if_neg (by simpa using h24),if_neg hne];simp only [Sem.run_bind,wx4 hj hz',Result.andThen_ok,Sem.run_pure,hinit];rw [hpe,hf];simp [newRow]
 have hlen:cs.length=n*es:=by
  rw [vfo hdat,w1y _ _ _ hfill,List.length_map,vww,hzce];simp [hzs]
 obtain ⟨h1,h2,h3,h4⟩:=x1n hlen hsl;refine ⟨cells'.toList,by rw [Array.toArray_toList];exact hrun,h1,h2,h3,?_,y93 hdat,fun ρ' J' w' hinv m hfz=>?_⟩
 . rw [hrd.length,<-vfo hdat,hlen]
 . rw [h4];exact zqm hinv hdat hfz (hrd.mv m)
theorem yqw {I':List SV} {n:Nat} {zc:List Cell} (hp:x3f Γ I' parts=x3f Γ I parts) (h:litH Γ I J es ik zc n parts=some (c,bs))
 (ha:∀ b∈bs,gB J' b=gB J b):litH Γ I' J' es ik zc n parts=some (c,bs):=by
 unfold litH at h ⊢;rw [hp];split at h
 . rename_i hc;rw [if_pos hc];split at h
   . rename_i hs hf;split at h
     . rename_i cs bs' hd;obtain ⟨c',_,he⟩:=Option.map_eq_some_iff.1 h
       cases he;rw [vrp hd ha];exact h
     . cases h
   . cases h
 . cases h
theorem zo1 {α:Type}:∀(e e':List (Nat×α)) (l:List α),appL (e++e') l=appL e' (appL e l)
 | [],_,_=>rfl
 | (i,x)::e,e',l=>by simp only [List.cons_append,appL];exact zo1 e e' _
theorem xd8 (ha : ∀ b ∈ bs, y10 (gB J b) = true) (hf : J[nb]? = some .fresh) : (appL (frzE J bs) J)[nb]? = some .fresh := by
 have key:∀(bs:List Nat) (η1:List SB),(∀ b∈bs,y10 (gB J b)=true)->η1[nb]? = some .fresh->(appL (frzE J bs) η1)[nb]? = some .fresh:=by
  intro bs
  induction bs with
  | nil=>intro η1 _ h;exact h
  | cons b bs ih=>
   intro η1 ha h;show (appL (frzE J bs) (η1.set b (frzB (gB J b))))[nb]? = _;refine ih _ (fun i hi=>ha i (by simp [hi])) ?_
   have hne:b≠nb:=fun e=>by
    have h1:=ha b (by simp);rw [e] at h1;unfold gB at h1;rw [hf] at h1
    cases h1
   rw [List.getElem?_set_ne hne];exact h
 exact key bs J ha hf
theorem zru {n d:Nat} (ho:o.op=.buildSlice T n parts.toArray) (hdst:o.dst=some d)
 (hti:mkTI P T=some ti) (hsh:ti.sh=.slice e es eb ik) (hte:mkTI P e=some te) (h:litH Γ I J es ik te.zc n parts=some (c,bs)) (hroom:y4f J nb=true) :
 vbd Γ P o I J (d::orrs parts) (nb::bs) [(d,.one (.sl nb es 0 n))] (frzE J bs++[(nb,.arr c 0 (some e))]):=by
 refine vbd.val hdst (fun E ρ I' J' a w hag hah hI=>?_);have hp:=ywe (Γ:=Γ) hag parts (fun t ht=>by simp [ht])
 have hgb:∀ b∈bs,gB J' b=gB J b:=fun b hb=>hah.gB (by simp [hb])
 obtain ⟨vs,hrun,hu,hcnt,hesz,hvl,harr,hrd⟩:=vep hI ho hti hsh hte (yqw hp h hgb);obtain ⟨hw1,_,hfz⟩:=Went.frz bs J' hI.inv rfl harr (fun _=>.inl rfl);have hfr:=xd8 harr (hah.room (by simp) hroom);have hb:Below w.heap.size w (w.alloc (.cells vs.toArray e)):=(Below.refl _ _).alloc (Nat.le_refl _) _;have hlt:nb<(appL (frzE J' bs) J').length:=(List.getElem?_eq_some_iff.1 hfr).1;have hrd1:=hrd ρ _ w hw1.inv hw1.mv hfz;have hw2:=Went.new hw1.inv hb hfr (v:=.pointer (some ⟨w.heap.size,0,none⟩)) (x:=.arr c 0 (some e)) (by simp) (fun _ _=>Nat.le_refl _) (fun m=>⟨⟨hu,Nat.zero_le _⟩,.inr ⟨w.heap.size,vs,[],e,rfl,by simpa using xp1 w _,hrd1.keep m.keep,fun t' ht=>by cases ht;rfl⟩⟩);refine ⟨_,_,upd ρ nb (.pointer (some ⟨w.heap.size,0,none⟩)),hrun,?_,?_⟩
 . rw [<-zii hgb,zo1];exact hw1.trans hw2
 . rw [<-zii hgb,zo1];refine ⟨⟨_,by simp only [appL];rw [List.getElem?_set_self hlt],by simp⟩,_,n,rfl,Nat.le_refl _,fun _=>⟨by rw [yr4];simp [real],by rw [yr4];simp [bk,blk],vs.toArray,e,(0,0),by rw [yr4];exact xp1 w _,?_⟩⟩;simp [hvl]
theorem vnm {n d:Nat} (ho:o.op=.buildSlice T n parts.toArray) (hdst:o.dst=some d)
 (hti:mkTI P T=some ti) (hsh:ti.sh=.slice e es eb ik) (hte:mkTI P e=some te) (h:litH Γ I J es ik te.zc n parts=some (c,bs)) :
 vbd Γ P o I J (d::orrs parts) bs [(d,.one (.dat c))] (frzE J bs):=by
 refine vbd.val hdst (fun E ρ I' J' a w hag hah hI=>?_);have hp:=ywe (Γ:=Γ) hag parts (fun t ht=>by simp [ht])
 have hgb:∀ b∈bs,gB J' b=gB J b:=fun b hb=>hah.gB hb
 obtain ⟨vs,hrun,hu,hcnt,hesz,hvl,harr,hrd⟩:=vep hI ho hti hsh hte (yqw hp h hgb);obtain ⟨hw1,_,hfz⟩:=Went.frz bs J' hI.inv rfl harr (fun _=>.inl rfl);have hb:Below w.heap.size w (w.alloc (.cells vs.toArray e)):=(Below.refl _ _).alloc (Nat.le_refl _) _;have hw2:=Went.below hw1.inv hb;have hrd2:=(hrd ρ _ w hw1.inv hw1.mv hfz).keep hw2.keep;refine ⟨_,_,ρ,hrun,?_,?_⟩
 . rw [<-zii hgb];exact hw1.trans hw2
 . rw [<-zii hgb]
   have hM:∀ o,o<vs.length->¬MX E.Mo ρ (appL (frzE J' bs) J') w.heap.size o:=fun o _ hm=>by
    have:=x02 hw1.inv hm
    omega
   have:=x78 (cap:=n) (q:=[]) (by simpa using xp1 w (.cells vs.toArray e)) hrd2 hu (by omega) hM
   rw [hcnt] at this;exact this
def appT (T:Option TypeId) (e:TypeId):Option TypeId:=match T with
 | some t=>if t=e then some e else none
 | none=>none
def dstH (J:List SB) (e:TypeId) (es:Nat) (ik:Option IntKind):SV->Option (Option Nat×Cell×Nat×Option TypeId)
 | .one (.sl b es' 0 n)=>match gB J b with
  | .arr c k T=>if es'=es/\c.esz=es/\n=c.cnt then some (some b,c,k,T) else none
  | _=>none
 | .one (.dat c)=>match isZc c with
  | true=>some (none,y00 es ik,0,some e)
  | false=>none
 | _=>none
def srcH (J:List SB):SV->Option (Cell×List Nat)
 | .one h=>zyf J h
 | _=>none
def x03:Option Nat->List (Nat×SB)
 | some b=>[(b,.dead)]
 | none=>[]
def wd0 (J:List SB) (nb:Nat) (e:TypeId) (es eb:Nat) (ik:Option IntKind) (x y:SV):Option (List Nat×List (Nat×SB)×SV):=
 match dstH J e es ik x,srcH J y with
 | some (ob,c,k,T),some (cy,bs)=>match wch es eb ik c cy with
  | some c'=>if bs.all (fun i=>ob != some i) then some (ob.toList++bs,frzE J bs++(x03 ob++[(nb,.arr c' k (appT T e))]),.one (.sl nb es 0 c'.cnt)) else none
  | none=>none
 | _,_=>none
theorem zmi {J:List SB} {b:Nat}:∀(bs:List Nat) (η1:List SB),b∉bs->gB (appL (frzE J bs) η1) b=gB η1 b
 | [],_,_=>rfl
 | i::bs,η1,h=>by
  show gB (appL (frzE J bs) (η1.set i (frzB (gB J i)))) b=_;rw [zmi bs _ (fun hb=>h (by simp [hb])),yta (fun e=>h (by simp [e]))]
theorem z0v (es:Nat) (ik:Option IntKind):(y00 es ik).uni/\(y00 es ik).cnt=0:=by
 cases ik with
 | none=>exact ⟨fun r hr=>(by cases hr),rfl⟩
 | some k=>exact ⟨trivial,rfl⟩
theorem wg4 (h:HInv Γ Mo ρ J w) (hf:J[nb]? = some .fresh) {n m k:Nat} {T:Option TypeId} {c':Cell} {all:List Value} {rest:Array Value}
 (hu:c'.uni) (_hcnt:c'.cnt=n+m) (hk:k<=c'.cnt*c'.esz) (hrd:RdD (MX Mo ρ J) w all c'.flat) (hall:all.length=(n+m)*es) (hcap:n+m<=cap) (hrest:rest.size=(cap-(n+m))*es) :
 Went Γ Mo ρ J w (upd ρ nb (.pointer (some ⟨w.heap.size,0,none⟩))) (J.set nb (.arr c' k (appT T e))) (w.drew.alloc (.cells (all.toArray++rest) e))/\
 HRd (J.set nb (.arr c' k (appT T e))) (upd ρ nb (.pointer (some ⟨w.heap.size,0,none⟩))) (MX Mo (upd ρ nb (.pointer (some ⟨w.heap.size,0,none⟩))) (J.set nb (.arr c' k (appT T e)))) (w.drew.alloc (.cells (all.toArray++rest) e))
  (.slice (some ⟨w.heap.size,0,none⟩) (n+m) cap) (.sl nb es 0 (n+m)):=by
 have hb:Below w.heap.size w (w.drew.alloc (.cells (all.toArray++rest) e)):=((Below.refl _ _).drew).alloc (Nat.le_refl _) _
 have hheap:(w.drew.alloc (.cells (all.toArray++rest) e)).heap[w.heap.size]? = some (.cells (all++rest.toList).toArray e (0,0)):=by
  have:=xp1 w.drew (.cells (all.toArray++rest) e)
  rw [show (all++rest.toList).toArray=all.toArray++rest by apply Array.ext';simp];exact this
 have hlt:nb<J.length:=(List.getElem?_eq_some_iff.1 hf).1;refine ⟨Went.new h hb hf (by simp) (fun _ _=>Nat.le_refl _) (fun m=>⟨⟨hu,hk⟩,.inr ⟨w.heap.size,all,rest.toList,e,rfl,hheap,hrd.keep m.keep,fun t' ht=>?_⟩⟩),?_⟩
 . unfold appT at ht;split at ht
   . split at ht<;>cases ht;rfl
   . cases ht
 . refine ⟨⟨_,by rw [List.getElem?_set_self hlt],by simp⟩,_,cap,rfl,hcap,fun _=>⟨by rw [yr4];simp [real],by rw [yr4];simp [bk,blk],_,e,(0,0),by rw [yr4];exact hheap,?_⟩⟩;simp only [List.size_toArray,List.length_append,Array.length_toList,hall,hrest,Nat.zero_add];rw [<-Nat.add_mul];exact Nat.le_of_eq (by congr 1;omega)
theorem w0n {x y:Operand} {d:Nat} (ho:o.op=.call { callee:=.builtin .append,args:=#[x,y],argTypes:=#[T,T] }) (hdst:o.dst=some d)
 (hti:mkTI P T=some ti) (hsh:ti.sh=.slice e es eb ik) {rh:List Nat} {heff:List (Nat×SB)} {v:SV} (h:wd0 J nb e es eb ik (opdS Γ I x) (opdS Γ I y)=some (rh,heff,v)) (hroom:y4f J nb=true) :
 vbd Γ P o I J (d::(orr x++orr y)) (nb::rh) [(d,v)] heff:=by
 refine vbd.val hdst (fun E ρ I' J' a w hag hah hI=>?_);obtain ⟨d0,i,z,hd0,hi,hz,_,_,_,_,_,hsh'⟩:=(wgk hti).ex;obtain ⟨rfl,j,z',hj,hz',hjs,hjb,hes0,hzs,hik⟩:=zu3 (hsh'.symm.trans hsh)
 have hes:0<es:=by omega
 have hx:=hI.opd x;have hy:=hI.opd y;rw [hag.opd (fun t ht=>by simp [ht])] at hx hy;unfold wd0 at h;split at h
 case h_2=>cases h
 rename_i ob c k T0 cy bs hD hS;split at h
 case h_2=>cases h
 rename_i c' wvz;split at h
 case isFalse=>cases h
 rename_i hob
 cases h
 have hnb:∀ b,ob=some b->b∉bs:=fun b e1 hb=>by
  have:=(List.all_eq_true.1 hob) b hb
  rw [e1] at this;simp at this
 obtain ⟨hsv,hS'⟩:∃ hc,opdS Γ I y=.one hc/\zyf J hc=some (cy,bs):=by
  unfold srcH at hS;split at hS
  . rename_i hc e1;exact ⟨hc,e1,hS⟩
  . cases hS
 obtain ⟨hye,hyd⟩:=hS';rw [hye] at hy
 have hgb:∀ b∈bs,gB J' b=gB J b:=fun b hb=>hah.gB (by simp [hb])
 have hyd':=xm5 hyd hgb;have harr:=wtq hyd';obtain ⟨hw1,_,hfz⟩:=Went.frz bs J' hI.inv rfl harr (fun _=>.inl rfl);have hfr:=xd8 harr (hah.room (by simp) hroom);have hyr:=yw5 hw1.inv hyd' hfz (HRd.mv hw1.mv hy);have hfe:frzE J bs=frzE J' bs:=(zii hgb).symm;rw [hfe];simp only [zo1];have hlt:nb<(appL (frzE J' bs) J').length:=(List.getElem?_eq_some_iff.1 hfr).1;generalize hη1:appL (frzE J' bs) J'=η1 at hw1 hfr hyr hfz hlt
 have hexec:∀(vx vy u:Value) (w2:World),a.eval x=vx->a.eval y=vy->(Builtin.append_ #[T,T] o.type #[vx,vy]).run P w=.ok u w2->(execOp a.eval o).run P w=.ok (.value u) w2:=fun vx vy u w2 e1 e2 hr=>by
  rw [zs6 ho,show (#[x,y]:Array Operand).map a.eval=#[vx,vy] from by simp [e1,e2]];simp only [builtin,Sem.run_bind,hr];rfl
 have nothing:∀(ad yad:Option Addr) (ycap:Nat),(Builtin.append_ #[T,T] o.type #[.slice ad 0 0,.slice yad 0 ycap]).run P w=.ok (.slice ad 0 0) w:=fun ad yad ycap=>by
  have hf0:(Builtin.firstCells j.size 0 (.slice yad 0 ycap)).run P w=.ok #[] w:=waf w 0 _ [] ⟨_,_,rfl⟩ (by simp) (.inl rfl)
  cases ad with
  | none=>simp [Builtin.append_,run_underlying hd0,sizeOf,typeInfo,hj,Builtin.lenOf,hf0]
  | some b=>simp [Builtin.append_,run_underlying hd0,sizeOf,typeInfo,hj,Builtin.lenOf,hf0,storeCells]
 unfold dstH at hD;split at hD
 ·
  rename_i b es' n hxe;split at hD
  case h_2=>cases hD
  rename_i c0 k0 T1 hb;split at hD
  case isFalse=>cases hD
  rename_i hc;obtain ⟨rfl,hcz,hn⟩:=hc
  cases hD;rw [hxe] at hx;have hx0:HRd J' ρ (MX E.Mo ρ J') w (a.eval x) (.sl b es' 0 n):=hx;have hx1:=HRd.mv hw1.mv hx0
  have hb':gB η1 b=.arr c k T0:=by
   rw [<-hη1,zmi bs J' (hnb b rfl),hah.gB (by simp)];exact hb
  have hb1:=xuw hb' (by simp);have hsb:=hw1.inv.blk b _ hb1;obtain ⟨⟨hu,hk⟩,h0⟩:=hsb;obtain ⟨m,news,fy,⟨yad,ycap,hvy⟩,hnl,hnr,hnc,hu',hcnt',hesz',hcesz,hflat',hb1',hb2'⟩:=wdv hes wvz hu hyr;obtain ⟨_,ad,cap,hv,hle,hcap⟩:=hx1
  have hk':k<=c'.cnt*c'.esz:=by
   rw [hcnt',hesz',<-hcesz,Nat.add_mul];omega
  have hne:nb≠b:=fun e1=>by rw [e1,hb1] at hfr;cases hfr
  have hkf:(η1.set b .dead)[nb]? = some .fresh:=by rw [List.getElem?_set_ne (Ne.symm hne)];exact hfr
  have hnc':news=[]\/∃ b off cap,Value.slice yad m ycap=.slice (some ⟨b,off,none⟩) m cap/\∀ j u,news[j]? = some u->w.cell? ⟨b,off+j,none⟩=some u:=
   hnc.imp id fun ⟨b,off,cap,e,h⟩=>⟨b,off,cap,hvy▸e,fun j u hj=>(h j u hj).2⟩
  show ∃ v w' ρ',_/\Went Γ E.Mo ρ J' w ρ' ((η1.set b .dead).set nb (.arr c' k (appT T0 e))) w'/\SVR ((η1.set b .dead).set nb (.arr c' k (appT T0 e))) ρ' (MX E.Mo ρ' ((η1.set b .dead).set nb (.arr c' k (appT T0 e)))) w' v _;by_cases hcm:cap=0/\m=0
  . obtain ⟨rfl,rfl⟩:=hcm
    have hn0:n=0:=by omega
    subst hn0;have hk0:=Went.kill hw1.inv hb1;have hw2:=Went.new hk0.inv (vpa w) hkf (v:=.pointer none) (x:=.arr c' k (appT T0 e)) (by simp) (fun _ hr=>absurd rfl hr) (fun m=>⟨⟨hu',hk'⟩,.inl ⟨by rw [hcnt'];omega,rfl⟩⟩);refine ⟨.slice ad 0 0,w,_,hexec _ _ _ _ hv hvy (nothing ad yad ycap),hw1.trans (hk0.trans hw2),⟨_,by rw [List.getElem?_set_self (by simpa using hlt)],by simp⟩,ad,0,?_,by omega,fun h=>absurd rfl h⟩;rw [hcnt',<-hn]
  . by_cases hroom':n+m<=cap
    ·
     obtain ⟨hre,had,arr,Tb,fz,hheap,hsz⟩:=hcap (by omega)
     rcases h0 with ⟨_,e1⟩ | ⟨bb,vs,q,Tb',e1,hh,hr,hT⟩
     . exact absurd e1 hre
     have hbk:bk (ρ b)=bb:=by rw [e1];rfl
     rw [hbk] at had hheap;rw [hh] at hheap
     cases hheap;have hvl:=hr.length;have hfl:=Cell.wg8 hu
     have hfit:n*es'+news.length<=(vs++q).length:=by
      have:(n+m)*es'<=(0+cap)*es':=Nat.mul_le_mul_right _ (by omega)
      rw [Nat.add_mul] at this;simp only [List.size_toArray] at hsz;rw [hnl];omega
     have hf:(Builtin.firstCells j.size m (.slice yad m ycap)).run P w=.ok news.toArray w:=waf w m _ news ⟨_,_,rfl⟩ (by rw [hjs];exact hnl) hnc'
     have hones:∀ u∈news,u.oneCell'=true:=fun u hu=>hnr.oneL u hu
     have hrun:=w7e (P:=P) hd0 hj w o.type bb Tb n cap (vs++q).toArray hh m (.slice yad m ycap) news ⟨_,_,rfl⟩ (by rw [hjs];exact hnl) hf hones hroom' (by rw [hjs];simpa using hfit);rw [hjs] at hrun
     have hnv:n*es'=vs.length:=by rw [hvl,hfl,hn,hcesz]
     have hnew:(vs++q).toArray.toList.take (n*es')++news++(vs++q).toArray.toList.drop (n*es'+news.length)=(vs++news)++(vs++q).drop (vs.length+news.length):=by
      simp only [hnv,List.take_left',List.append_assoc]
     rw [hnew] at hrun
     have hdrop:(vs++q).drop (vs.length+news.length)=q.drop news.length:=by rw [List.drop_append];simp
     rw [hdrop] at hrun;rw [hnv,List.length_append] at hfit
     have hsize':((vs++news)++q.drop news.length).length=(vs++q).length:=by
      simp only [List.length_append,List.length_drop];omega
     have hwr:=Went.write (w':=w.setRow bb ((vs++news)++q.drop news.length).toArray) (x':=.arr c' k (appT T0 e)) hw1.inv hb1 rfl hre rfl (fun o=>Iff.rfl) (by simp [World.setRow]) rfl rfl rfl (fun kk hk=>setRow_other w bb kk _ (by rw [<-hbk];exact hk))
      (zwl hh (by simp only [List.size_toArray];omega)) (fun oo u hm hc=>by
        rw [hbk] at hc ⊢;rw [cell_setRow_same w bb oo _ _ _ _ hh]
        have hlt':oo<vs.length:=by
         have:¬k<=oo:=hm
         omega
        simp only [World.cell?,hh,Option.isSome_none,Bool.false_eq_true,if_false,List.getElem?_toArray] at hc;rw [List.getElem?_append_left hlt'] at hc;rw [List.getElem?_toArray,List.append_assoc,List.getElem?_append_left hlt']
        exact hc)
      (fun m'=>⟨⟨hu',hk'⟩,.inr ⟨bb,vs++news,q.drop news.length,Tb,e1,setRow_heap w bb _ _ Tb (0,0) hh,by rw [hflat'];exact (hr.app hnr).keep m'.keep,fun t' ht=>by
        unfold appT at ht;split at ht
        . rename_i t;split at ht
          . rename_i e2;cases ht;rw [<-e2];exact hT t rfl
          . cases ht
        . cases ht⟩⟩)
     have hfr2:(η1.set b (.arr c' k (appT T0 e)))[nb]? = some .fresh:=by rw [List.getElem?_set_ne (Ne.symm hne)];exact hfr
     have hmv:=Went.move hwr.inv (b:=b) (nb:=nb) (x:=.arr c' k (appT T0 e)) (by rw [List.getElem?_set_self (List.getElem?_eq_some_iff.1 hb1).1]) rfl hfr2;rw [List.set_set] at hmv;subst had;refine ⟨_,_,_,hexec _ _ _ _ hv hvy (by rw [Nat.zero_mul];exact hrun),hw1.trans (hwr.trans hmv),⟨_,by rw [List.getElem?_set_self (by simpa using hlt)],by simp⟩,_,cap,?_,?_,fun _=>⟨by rw [yr4];exact hre,by rw [yr4,hbk,Nat.zero_mul],_,Tb,(0,0),by rw [yr4,hbk];exact setRow_heap w bb _ _ Tb (0,0) hh,?_⟩⟩
     . rw [hcnt',<-hn]
     . rw [hcnt',<-hn];exact hroom'
     . simp only [List.size_toArray] at hsz ⊢;rw [hsize'];exact hsz
    ·
     have hold:cap<n+m:=by omega
     have hxs:∃ xs:List Value,RdD (MX E.Mo ρ η1) w xs c.flat/\(xs=[]\/∃ g cap',Value.slice ad n cap=.slice (some ⟨g,0,none⟩) n cap'/\∀ j u,xs[j]? = some u->w.cell? ⟨g,0+j,none⟩=some u):=by
      by_cases h00:n=0
      . have hf0:c.flat=[]:=List.eq_nil_of_length_eq_zero (by rw [Cell.wg8 hu,<-hn,h00];simp);rw [hf0];exact ⟨[],trivial,.inl rfl⟩
      . obtain ⟨hre,had,arr,Tb,fz,hheap,hsz⟩:=hcap (by omega)
        rcases h0 with ⟨h00',_⟩ | ⟨bb,vs,q,Tb',e1,hh,hr,hT⟩
        . omega
        . have hbk:bk (ρ b)=bb:=by rw [e1];rfl
          rw [hbk] at had;refine ⟨vs,hr,.inr ⟨bb,cap,by rw [had];simp,fun jj u hj=>?_⟩⟩;rw [Nat.zero_add];exact xbn hh hj
     obtain ⟨xs,hxr,hxc⟩:=hxs
     have hxl:xs.length=n*es':=by rw [hxr.length,Cell.wg8 hu,hn,hcesz]
     have hfd:(Builtin.firstCells j.size m (.slice yad m ycap)).run P w.drew=.ok news.toArray w.drew:=waf w.drew m _ news ⟨_,_,rfl⟩ (by rw [hjs];exact hnl) hnc';have hfo:(Builtin.firstCells j.size n (.slice ad n cap)).run P w.drew=.ok xs.toArray w.drew:=waf w.drew n _ xs ⟨_,_,rfl⟩ (by rw [hjs];exact hxl) (hxc.imp id fun ⟨g,cap',e1,hc⟩=>⟨g,0,cap',e1,hc⟩);have hrun:=wtc (P:=P) hd0 hj hz' w o.type hfd hfo hold (by rw [hjb,hn];exact hb1') (by rw [hn];exact hb2');have hge:=grownCap_ge w (n+m) cap e;have hk0:=Went.kill hw1.inv hb1;have hgn:=wg4 hk0.inv hkf (e:=e) (es:=es') (n:=n) (m:=m) (cap:=grownCap w (n+m) cap e) (k:=k) (T:=T0) (c':=c') (all:=xs++news) (rest:=Builtin.zeroCells z'.cells (grownCap w (n+m) cap e-(n+m))) hu' (by rw [hcnt',<-hn]) hk'
      (by rw [hflat'];exact (hxr.app hnr).keep hk0.keep) (by rw [List.length_append,hxl,hnl,Nat.add_mul]) hge (by rw [size_zeroCells,hzs])
     refine ⟨_,_,_,hexec _ _ _ _ hv hvy hrun,hw1.trans (hk0.trans hgn.1),?_⟩;rw [hcnt',<-hn];exact hgn.2
 ·
  rename_i c0 hxe;split at hD
  case h_2=>cases hD
  rename_i hzc
  cases hD;rw [hxe] at hx;obtain ⟨hu,hcnt0⟩:=z0v es ik;obtain ⟨ad,hv⟩:=vun (τ:=fun _=>⟨Go.undef,0⟩) hzc (RdT.of (show RdC _ w (a.eval x) c0 from hx));obtain ⟨m,news,fy,⟨yad,ycap,hvy⟩,hnl,hnr,hnc,hu',hcnt',hesz',hcesz,hflat',hb1',hb2'⟩:=wdv hes wvz hu hyr;rw [hcnt0] at hcnt' hb1' hb2';show ∃ v w' ρ',_/\Went Γ E.Mo ρ J' w ρ' (η1.set nb (.arr c' 0 (appT (some e) e))) w'/\SVR (η1.set nb (.arr c' 0 (appT (some e) e))) ρ' (MX E.Mo ρ' (η1.set nb (.arr c' 0 (appT (some e) e)))) w' v _;by_cases hm0:m=0
  . subst hm0;have hw2:=Went.new hw1.inv (vpa w) hfr (v:=.pointer none) (x:=.arr c' 0 (appT (some e) e)) (by simp) (fun _ hr=>absurd rfl hr) (fun m=>⟨⟨hu',Nat.zero_le _⟩,.inl ⟨by rw [hcnt'],rfl⟩⟩);refine ⟨.slice ad 0 0,w,_,hexec _ _ _ _ hv hvy (nothing ad yad ycap),hw1.trans hw2,⟨_,by rw [List.getElem?_set_self hlt],by simp⟩,ad,0,?_,by omega,fun h=>absurd rfl h⟩;rw [hcnt']
  . have hnc':news=[]\/∃ b off cap,Value.slice yad m ycap=.slice (some ⟨b,off,none⟩) m cap/\∀ j u,news[j]? = some u->w.cell? ⟨b,off+j,none⟩=some u:=
     hnc.imp id fun ⟨b,off,cap,e,h⟩=>⟨b,off,cap,hvy▸e,fun j u hj=>(h j u hj).2⟩
    have hfd:(Builtin.firstCells j.size m (.slice yad m ycap)).run P w.drew=.ok news.toArray w.drew:=waf w.drew m _ news ⟨_,_,rfl⟩ (by rw [hjs];exact hnl) hnc';have hfo:(Builtin.firstCells j.size 0 (.slice ad 0 0)).run P w.drew=.ok ([]:List Value).toArray w.drew:=waf w.drew 0 _ [] ⟨_,_,rfl⟩ (by simp) (.inl rfl);have hrun:=wtc (P:=P) hd0 hj hz' w o.type hfd hfo (by omega) (by rw [hjb];exact hb1') hb2';have hge:=grownCap_ge w (0+m) 0 e;have hf0:(y00 es ik).flat=[]:=List.eq_nil_of_length_eq_zero (by rw [Cell.wg8 hu,hcnt0];simp);have hgn:=wg4 hw1.inv hfr (e:=e) (es:=es) (n:=0) (m:=m) (cap:=grownCap w (0+m) 0 e) (k:=0) (T:=some e) (c':=c') (all:=[]++news) (rest:=Builtin.zeroCells z'.cells (grownCap w (0+m) 0 e-(0+m))) hu' hcnt' (Nat.zero_le _)
     (by rw [hflat',hf0];exact hnr) (by rw [List.nil_append,hnl,Nat.zero_add]) hge (by rw [size_zeroCells,hzs])
    refine ⟨_,_,_,hexec _ _ _ _ hv hvy hrun,hw1.trans hgn.1,?_⟩;rw [hcnt'];exact hgn.2
 . cases hD
end Go.Hp
