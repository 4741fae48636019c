/- The proof, part X11: Mq, Mr, Mx, My, Ha. -/
import Derived.Test.YtpkininnjhbeaaaGreatDoorX10
import Derived.Test.YtpkininnjhbeaaaGreatDoorX9
import Derived.Test.YtpkininnjhbeaaaGreatDoorX2
namespace Go.Slot
open Go Go.RowKit
variable {P:Program} {G:List (Nat×List Gh)}
variable {f:FuncId} {fn:Func} {c:Code} {res:AV} {b c':Bool} {A B X Y:Bool->Prop}
theorem RC.sound:∀(c:Code) (b:Bool) (Q:Exit->Bool->List AV->Prop) (I:List AV),RC P G c b Q I->zus P c (outQ Q) I:=by
 intro c
 induction c with
 | skip=>intro b Q I h;exact wv2 ⟨b,h⟩
 | region id ops dr=>
  intro b Q I h
  cases dr with
  | false=>exact zus.le (StLe.ghL _ _) (z1s (RunF.run _ b _ _ h))
  | true=>exact zus.le (StLe.ghL _ _) (wm5 h.1 (RunG.runD _ b [] _ _ h.2))
 | seq x y ihx ihy=>
  intro b Q I h;have h:seqF (z7d G y) (fun _=>xks P G x y Q I) (fun _=>RC P G x b (ycn (fun b I=>RC P G y b Q I) Q) I):=h
  cases hj:z7d G y with
  | true=>rw [hj] at h;exact h
  | false=>
  rw [hj] at h;have h:RC P G x b (ycn (fun b I=>RC P G y b Q I) Q) I:=h;refine wga ((ihx b _ I h).mono ?_);intro e I' ⟨b',h'⟩
  cases e with
  | normal=>exact ihy b' Q I' h'
  | _=>exact ⟨b',h'⟩
 | cond c x y ihx ihy=>
  intro b Q I h;unfold RC wth at h;split at h
  . rename_i p hp;exact wjz hp (fun hb=>ihx _ _ _ (h.1 hb)) (fun hb=>ihy _ _ _ (h.2 hb))
  . exact h.elim
 | block id x ih=>
  intro b Q I h;refine yb7 ((ih b _ I h).mono ?_);intro e I' ⟨b',h'⟩
  cases e with
  | exit j=>
   show zeh id (outQ Q) (.exit j) I';unfold vtx at h';unfold zeh;simp only at h' ⊢;split at h'
   . rename_i hj;simp only [hj];exact ⟨b',h'⟩
   . rename_i hj;simp only [hj];exact ⟨b',h'⟩
  | _=>exact ⟨b',h'⟩
 | loop x ih=>intro b Q I h;exact h
 | exit id=>intro b Q I h;exact xpa ⟨b,h⟩
 | ret=>intro b Q I h;exact x3t ⟨b,h⟩
 | _=>intro b Q I h;exact h.elim
def retC (P:Program) (rs:List ResultVar) (res:AV):Exit->Bool->List AV->Prop
 | .ret,_,I | .normal,_,I=>∃ av,yhv P I rs=some av/\RLe av res
 | _,_,_=>False
theorem y4n.run (G:List (Nat×List Gh)) {args:List AV} (hf:P.funcs[f]? = some fn) (hb:fn.body=some c) (hname:(fn.name == "runtime.NumGoroutine")=false)
 (h:RC P G c true (retC P fn.results.toList res) (vh6 (args++List.replicate (fn.ntmps-args.length) .undef))):y4n P f args res:=by
 rw [vsc] at h;refine y4n.of hf hb hname ((RC.sound c true _ _ h).mono ?_);intro e I ⟨b,h⟩
 cases e with
 | normal=>exact h
 | ret=>exact h
 | _=>exact h.elim
def zmd (P:Program) (rs:List ResultVar) (j:Nat) (out res:AV):Exit->Bool->List AV->Prop
 | .ret,_,I | .normal,_,I=>retX P rs j out res .ret I
 | _,_,_=>False
theorem x8f.run (G:List (Nat×List Gh)) {args:List AV} {j:Nat} {out:AV} (hf:P.funcs[f]? = some fn) (hb:fn.body=some c) (hname:(fn.name == "runtime.NumGoroutine")=false)
 (hnt:∀ t,¬out.v7d t) (h:RC P G c true (zmd P fn.results.toList j out res) (vh6 (args++List.replicate (fn.ntmps-args.length) .undef))):x8f P f args j out res:=by
 rw [vsc] at h;refine x8f.of hf hb hname hnt ((RC.sound c true _ _ h).mono ?_);intro e I ⟨b,h⟩
 cases e with
 | normal=>exact h
 | ret=>exact h
 | _=>exact h.elim
theorem y4n.le {f:FuncId} {args:List AV} {res res':AV} (h:y4n P f args res) (hle:RLe res res'):y4n P f args res':=
 ⟨h.1,fun M w vs hM hr=>(h.2 M w vs hM hr).mono (fun _ _ ⟨v,h1,h2,h3,h4⟩=>⟨v,h1,h2,h3.le hle,fun hh=>h4 (hle.xeo hh)⟩)⟩
abbrev U {α:Type} (_:α):Type:=Unit
def hide {α:Type} (f:α) (_:U f):α:=f
theorem wfv {f:Bool->Prop} {u:U f}:hide f u b=f b:=_root_.id rfl
theorem x6a {f:Bool->AV->Prop} {u:U f} {r:AV}:hide f u b r=f b r:=_root_.id rfl
def tick {α:Type} (x:α):α:=x
theorem wcr:tick true=true:=_root_.id rfl
theorem whn:tick false=false:=_root_.id rfl
theorem wcq:seqF true A B=A true:=_root_.id rfl
theorem wlk:seqF false A B=B true:=_root_.id rfl
theorem vq6 {c:Bool} (h:c=c'):seqF c A B=seqF c' A B:=by rw [h]
section
variable {next:Bool->List AV->Prop} {Q:Exit->Bool->List AV->Prop}
end
section
variable {o:Oper} {I:List AV} {b:Bool} {k:Bool->List Nat->List Nat->List (Nat×AV)->Prop} {rd tk:List Nat} {e:List (Nat×AV)} {f:FuncId} {args:List AV}
end
theorem ykm:vdc true true X Y=X true:=by simp [vdc]
theorem z5i:vdc false false X Y=X true:=by simp [vdc]
theorem x8y:vdc true false X Y=Y true:=by simp [vdc]
theorem zw2:vdc false true X Y=Y true:=by simp [vdc]
theorem wj2:ymv true X Y=X true:=by simp [ymv]
theorem yzg:ymv false X Y=Y true:=by simp [ymv]
section
variable {o o':Oper} {I I':List AV} {b:Bool} {k:Bool->List Nat->List Nat->List (Nat×AV)->Prop}
theorem zr0 {c:Bool} (h:c=c'):ymv c X Y=ymv c' X Y:=by rw [h]
end
end Go.Slot
namespace Go.Slot
open Go Go.RowKit
variable {P:Program}
variable {a:AV} {I:List AV} {i:Nat} {b:Bool} {c:Prop} {α β:Type}
theorem v2l:gt (a::I) 0=a:=rfl
theorem zrz {n:Nat}:gt (a::I) (n+1)=gt I n:=rfl
theorem wnu:nh (a::I) 0 = !a.xeo:=rfl
theorem wdg {n:Nat}:nh (a::I) (n+1)=nh I n:=rfl
section
variable {a0 a1 a2 a3 a4 a5 a6 a7 a8 a9 a10 a11 a12 a13 a14 a15 x:AV} {r:List AV} {n:Nat}
theorem v23:gt (ch a0 a1 a2 a3 a4 a5 a6 a7 a8 a9 a10 a11 a12 a13 a14 a15 r) 0=a0:=rfl
theorem zux:nh (ch a0 a1 a2 a3 a4 a5 a6 a7 a8 a9 a10 a11 a12 a13 a14 a15 r) 0 = !a0.xeo:=rfl
theorem xm2:(ch a0 a1 a2 a3 a4 a5 a6 a7 a8 a9 a10 a11 a12 a13 a14 a15 r).set 0 x=ch x a1 a2 a3 a4 a5 a6 a7 a8 a9 a10 a11 a12 a13 a14 a15 r:=rfl
theorem wtx:gt (ch a0 a1 a2 a3 a4 a5 a6 a7 a8 a9 a10 a11 a12 a13 a14 a15 r) 1=a1:=rfl
theorem w3g:nh (ch a0 a1 a2 a3 a4 a5 a6 a7 a8 a9 a10 a11 a12 a13 a14 a15 r) 1 = !a1.xeo:=rfl
theorem w7b:(ch a0 a1 a2 a3 a4 a5 a6 a7 a8 a9 a10 a11 a12 a13 a14 a15 r).set 1 x=ch a0 x a2 a3 a4 a5 a6 a7 a8 a9 a10 a11 a12 a13 a14 a15 r:=rfl
theorem wwi:gt (ch a0 a1 a2 a3 a4 a5 a6 a7 a8 a9 a10 a11 a12 a13 a14 a15 r) 2=a2:=rfl
theorem y22:nh (ch a0 a1 a2 a3 a4 a5 a6 a7 a8 a9 a10 a11 a12 a13 a14 a15 r) 2 = !a2.xeo:=rfl
theorem wyw:(ch a0 a1 a2 a3 a4 a5 a6 a7 a8 a9 a10 a11 a12 a13 a14 a15 r).set 2 x=ch a0 a1 x a3 a4 a5 a6 a7 a8 a9 a10 a11 a12 a13 a14 a15 r:=rfl
theorem x19:gt (ch a0 a1 a2 a3 a4 a5 a6 a7 a8 a9 a10 a11 a12 a13 a14 a15 r) 3=a3:=rfl
theorem w0l:nh (ch a0 a1 a2 a3 a4 a5 a6 a7 a8 a9 a10 a11 a12 a13 a14 a15 r) 3 = !a3.xeo:=rfl
theorem xqe:(ch a0 a1 a2 a3 a4 a5 a6 a7 a8 a9 a10 a11 a12 a13 a14 a15 r).set 3 x=ch a0 a1 a2 x a4 a5 a6 a7 a8 a9 a10 a11 a12 a13 a14 a15 r:=rfl
theorem yti:gt (ch a0 a1 a2 a3 a4 a5 a6 a7 a8 a9 a10 a11 a12 a13 a14 a15 r) 4=a4:=rfl
theorem z0m:nh (ch a0 a1 a2 a3 a4 a5 a6 a7 a8 a9 a10 a11 a12 a13 a14 a15 r) 4 = !a4.xeo:=rfl
theorem vfi:(ch a0 a1 a2 a3 a4 a5 a6 a7 a8 a9 a10 a11 a12 a13 a14 a15 r).set 4 x=ch a0 a1 a2 a3 x a5 a6 a7 a8 a9 a10 a11 a12 a13 a14 a15 r:=rfl
theorem v4t:gt (ch a0 a1 a2 a3 a4 a5 a6 a7 a8 a9 a10 a11 a12 a13 a14 a15 r) 5=a5:=rfl
theorem w8e:nh (ch a0 a1 a2 a3 a4 a5 a6 a7 a8 a9 a10 a11 a12 a13 a14 a15 r) 5 = !a5.xeo:=rfl
theorem zi4:(ch a0 a1 a2 a3 a4 a5 a6 a7 a8 a9 a10 a11 a12 a13 a14 a15 r).set 5 x=ch a0 a1 a2 a3 a4 x a6 a7 a8 a9 a10 a11 a12 a13 a14 a15 r:=rfl
theorem xaf:gt (ch a0 a1 a2 a3 a4 a5 a6 a7 a8 a9 a10 a11 a12 a13 a14 a15 r) 6=a6:=rfl
theorem y01:nh (ch a0 a1 a2 a3 a4 a5 a6 a7 a8 a9 a10 a11 a12 a13 a14 a15 r) 6 = !a6.xeo:=rfl
theorem yf9:(ch a0 a1 a2 a3 a4 a5 a6 a7 a8 a9 a10 a11 a12 a13 a14 a15 r).set 6 x=ch a0 a1 a2 a3 a4 a5 x a7 a8 a9 a10 a11 a12 a13 a14 a15 r:=rfl
theorem vlo:gt (ch a0 a1 a2 a3 a4 a5 a6 a7 a8 a9 a10 a11 a12 a13 a14 a15 r) 7=a7:=rfl
theorem ze6:nh (ch a0 a1 a2 a3 a4 a5 a6 a7 a8 a9 a10 a11 a12 a13 a14 a15 r) 7 = !a7.xeo:=rfl
theorem xet:(ch a0 a1 a2 a3 a4 a5 a6 a7 a8 a9 a10 a11 a12 a13 a14 a15 r).set 7 x=ch a0 a1 a2 a3 a4 a5 a6 x a8 a9 a10 a11 a12 a13 a14 a15 r:=rfl
theorem x1e:gt (ch a0 a1 a2 a3 a4 a5 a6 a7 a8 a9 a10 a11 a12 a13 a14 a15 r) 8=a8:=rfl
theorem ypn:nh (ch a0 a1 a2 a3 a4 a5 a6 a7 a8 a9 a10 a11 a12 a13 a14 a15 r) 8 = !a8.xeo:=rfl
theorem yis:(ch a0 a1 a2 a3 a4 a5 a6 a7 a8 a9 a10 a11 a12 a13 a14 a15 r).set 8 x=ch a0 a1 a2 a3 a4 a5 a6 a7 x a9 a10 a11 a12 a13 a14 a15 r:=rfl
theorem xvk:gt (ch a0 a1 a2 a3 a4 a5 a6 a7 a8 a9 a10 a11 a12 a13 a14 a15 r) 9=a9:=rfl
theorem y82:nh (ch a0 a1 a2 a3 a4 a5 a6 a7 a8 a9 a10 a11 a12 a13 a14 a15 r) 9 = !a9.xeo:=rfl
theorem ycm:(ch a0 a1 a2 a3 a4 a5 a6 a7 a8 a9 a10 a11 a12 a13 a14 a15 r).set 9 x=ch a0 a1 a2 a3 a4 a5 a6 a7 a8 x a10 a11 a12 a13 a14 a15 r:=rfl
theorem yyu:gt (ch a0 a1 a2 a3 a4 a5 a6 a7 a8 a9 a10 a11 a12 a13 a14 a15 r) 10=a10:=rfl
theorem xe6:nh (ch a0 a1 a2 a3 a4 a5 a6 a7 a8 a9 a10 a11 a12 a13 a14 a15 r) 10 = !a10.xeo:=rfl
theorem ywy:(ch a0 a1 a2 a3 a4 a5 a6 a7 a8 a9 a10 a11 a12 a13 a14 a15 r).set 10 x=ch a0 a1 a2 a3 a4 a5 a6 a7 a8 a9 x a11 a12 a13 a14 a15 r:=rfl
theorem yw2:gt (ch a0 a1 a2 a3 a4 a5 a6 a7 a8 a9 a10 a11 a12 a13 a14 a15 r) 11=a11:=rfl
theorem vbb:nh (ch a0 a1 a2 a3 a4 a5 a6 a7 a8 a9 a10 a11 a12 a13 a14 a15 r) 11 = !a11.xeo:=rfl
theorem wuf:(ch a0 a1 a2 a3 a4 a5 a6 a7 a8 a9 a10 a11 a12 a13 a14 a15 r).set 11 x=ch a0 a1 a2 a3 a4 a5 a6 a7 a8 a9 a10 x a12 a13 a14 a15 r:=rfl
theorem zbf:gt (ch a0 a1 a2 a3 a4 a5 a6 a7 a8 a9 a10 a11 a12 a13 a14 a15 r) 12=a12:=rfl
theorem wp4:nh (ch a0 a1 a2 a3 a4 a5 a6 a7 a8 a9 a10 a11 a12 a13 a14 a15 r) 12 = !a12.xeo:=rfl
theorem yoq:(ch a0 a1 a2 a3 a4 a5 a6 a7 a8 a9 a10 a11 a12 a13 a14 a15 r).set 12 x=ch a0 a1 a2 a3 a4 a5 a6 a7 a8 a9 a10 a11 x a13 a14 a15 r:=rfl
theorem z7r:gt (ch a0 a1 a2 a3 a4 a5 a6 a7 a8 a9 a10 a11 a12 a13 a14 a15 r) 13=a13:=rfl
theorem x1f:nh (ch a0 a1 a2 a3 a4 a5 a6 a7 a8 a9 a10 a11 a12 a13 a14 a15 r) 13 = !a13.xeo:=rfl
theorem vje:(ch a0 a1 a2 a3 a4 a5 a6 a7 a8 a9 a10 a11 a12 a13 a14 a15 r).set 13 x=ch a0 a1 a2 a3 a4 a5 a6 a7 a8 a9 a10 a11 a12 x a14 a15 r:=rfl
theorem vir:gt (ch a0 a1 a2 a3 a4 a5 a6 a7 a8 a9 a10 a11 a12 a13 a14 a15 r) 14=a14:=rfl
theorem zhm:nh (ch a0 a1 a2 a3 a4 a5 a6 a7 a8 a9 a10 a11 a12 a13 a14 a15 r) 14 = !a14.xeo:=rfl
theorem vgq:(ch a0 a1 a2 a3 a4 a5 a6 a7 a8 a9 a10 a11 a12 a13 a14 a15 r).set 14 x=ch a0 a1 a2 a3 a4 a5 a6 a7 a8 a9 a10 a11 a12 a13 x a15 r:=rfl
theorem x9n:gt (ch a0 a1 a2 a3 a4 a5 a6 a7 a8 a9 a10 a11 a12 a13 a14 a15 r) 15=a15:=rfl
theorem wci:nh (ch a0 a1 a2 a3 a4 a5 a6 a7 a8 a9 a10 a11 a12 a13 a14 a15 r) 15 = !a15.xeo:=rfl
theorem xcv:(ch a0 a1 a2 a3 a4 a5 a6 a7 a8 a9 a10 a11 a12 a13 a14 a15 r).set 15 x=ch a0 a1 a2 a3 a4 a5 a6 a7 a8 a9 a10 a11 a12 a13 a14 x r:=rfl
theorem y3d:gt (ch a0 a1 a2 a3 a4 a5 a6 a7 a8 a9 a10 a11 a12 a13 a14 a15 r) (n+16)=gt r n:=rfl
theorem x1m:nh (ch a0 a1 a2 a3 a4 a5 a6 a7 a8 a9 a10 a11 a12 a13 a14 a15 r) (n+16)=nh r n:=rfl
theorem xu2:(ch a0 a1 a2 a3 a4 a5 a6 a7 a8 a9 a10 a11 a12 a13 a14 a15 r).set (n+16) x=ch a0 a1 a2 a3 a4 a5 a6 a7 a8 a9 a10 a11 a12 a13 a14 a15 (r.set n x):=rfl
theorem vt1:vh6 (a0::a1::a2::a3::a4::a5::a6::a7::a8::a9::a10::a11::a12::a13::a14::a15::r)=ch a0 a1 a2 a3 a4 a5 a6 a7 a8 a9 a10 a11 a12 a13 a14 a15 (vh6 r):=rfl
theorem ynk:vh6 (ch a0 a1 a2 a3 a4 a5 a6 a7 a8 a9 a10 a11 a12 a13 a14 a15 r)=ch a0 a1 a2 a3 a4 a5 a6 a7 a8 a9 a10 a11 a12 a13 a14 a15 (vh6 r):=rfl
theorem z5p:vh6 []=[]:=rfl
theorem wh7:vh6 [a0]=[a0]:=rfl
theorem v56:vh6 [a0,a1]=[a0,a1]:=rfl
theorem v3k:vh6 [a0,a1,a2]=[a0,a1,a2]:=rfl
theorem v01:vh6 [a0,a1,a2,a3]=[a0,a1,a2,a3]:=rfl
theorem ykf:vh6 [a0,a1,a2,a3,a4]=[a0,a1,a2,a3,a4]:=rfl
theorem w1x:vh6 [a0,a1,a2,a3,a4,a5]=[a0,a1,a2,a3,a4,a5]:=rfl
theorem x5n:vh6 [a0,a1,a2,a3,a4,a5,a6]=[a0,a1,a2,a3,a4,a5,a6]:=rfl
theorem zr9:vh6 [a0,a1,a2,a3,a4,a5,a6,a7]=[a0,a1,a2,a3,a4,a5,a6,a7]:=rfl
theorem yiq:vh6 [a0,a1,a2,a3,a4,a5,a6,a7,a8]=[a0,a1,a2,a3,a4,a5,a6,a7,a8]:=rfl
theorem zbz:vh6 [a0,a1,a2,a3,a4,a5,a6,a7,a8,a9]=[a0,a1,a2,a3,a4,a5,a6,a7,a8,a9]:=rfl
theorem v77:vh6 [a0,a1,a2,a3,a4,a5,a6,a7,a8,a9,a10]=[a0,a1,a2,a3,a4,a5,a6,a7,a8,a9,a10]:=rfl
theorem wkj:vh6 [a0,a1,a2,a3,a4,a5,a6,a7,a8,a9,a10,a11]=[a0,a1,a2,a3,a4,a5,a6,a7,a8,a9,a10,a11]:=rfl
theorem xxp:vh6 [a0,a1,a2,a3,a4,a5,a6,a7,a8,a9,a10,a11,a12]=[a0,a1,a2,a3,a4,a5,a6,a7,a8,a9,a10,a11,a12]:=rfl
theorem zdj:vh6 [a0,a1,a2,a3,a4,a5,a6,a7,a8,a9,a10,a11,a12,a13]=[a0,a1,a2,a3,a4,a5,a6,a7,a8,a9,a10,a11,a12,a13]:=rfl
theorem yul:vh6 [a0,a1,a2,a3,a4,a5,a6,a7,a8,a9,a10,a11,a12,a13,a14]=[a0,a1,a2,a3,a4,a5,a6,a7,a8,a9,a10,a11,a12,a13,a14]:=rfl
theorem xz3 {tk:List Nat}:zcm tk i (ch a0 a1 a2 a3 a4 a5 a6 a7 a8 a9 a10 a11 a12 a13 a14 a15 r)=zcm tk i (a0::a1::a2::a3::a4::a5::a6::a7::a8::a9::a10::a11::a12::a13::a14::a15::r):=rfl
theorem v5d {s:Nat}:v5c s i (ch a0 a1 a2 a3 a4 a5 a6 a7 a8 a9 a10 a11 a12 a13 a14 a15 r)=v5c s i (a0::a1::a2::a3::a4::a5::a6::a7::a8::a9::a10::a11::a12::a13::a14::a15::r):=rfl
theorem wd1 {s:Nat} {hv:AV}:vn0 s hv i (ch a0 a1 a2 a3 a4 a5 a6 a7 a8 a9 a10 a11 a12 a13 a14 a15 r)=vn0 s hv i (a0::a1::a2::a3::a4::a5::a6::a7::a8::a9::a10::a11::a12::a13::a14::a15::r):=rfl
theorem vq2 {s:Nat}:voy s i (ch a0 a1 a2 a3 a4 a5 a6 a7 a8 a9 a10 a11 a12 a13 a14 a15 r)=voy s i (a0::a1::a2::a3::a4::a5::a6::a7::a8::a9::a10::a11::a12::a13::a14::a15::r):=rfl
theorem wsn {ks:List Nat}:y05 ks i (ch a0 a1 a2 a3 a4 a5 a6 a7 a8 a9 a10 a11 a12 a13 a14 a15 r)=y05 ks i (a0::a1::a2::a3::a4::a5::a6::a7::a8::a9::a10::a11::a12::a13::a14::a15::r):=rfl
end
attribute [go_sem] v23 zux xm2 wtx w3g w7b wwi y22 wyw x19 w0l xqe yti z0m vfi v4t w8e zi4 xaf y01 yf9 vlo ze6 xet x1e ypn yis xvk y82 ycm yyu xe6 ywy yw2 vbb wuf zbf wp4 yoq z7r x1f vje vir zhm vgq x9n wci xcv y3d x1m xu2 vt1 ynk z5p wh7 v56 v3k v01 ykf w1x x5n zr9 yiq zbz v77 wkj xxp zdj yul xz3 v5d wd1 vq2 wsn
theorem y8h:app [] I=I:=rfl
theorem wag {p:Nat×AV} {r:List (Nat×AV)}:app (p::r) I=app r (I.set p.1 p.2):=rfl
theorem z0p {t:Nat}:opd I (.tmp t)=gt I t:=rfl
theorem zaz {k:IntKind} {n:Int}:opd I (.const (.int k n))=.one (.raw (.int k n)):=rfl
theorem ysv:opd I (.const (.bool b))=.one (.raw (.bool b)):=rfl
theorem y0i {s:ByteArray}:opd I (.const (.string s))=.one (.raw (.string s)):=rfl
theorem zpo {a:Option Addr} {l c:Nat}:opd I (.const (.slice a l c))=.one (.raw (.slice a l c)):=rfl
theorem yip {vs:Array Value}:opd I (.const (.agg vs))=z1h (.agg vs):=rfl
theorem ytv {f:FuncId}:opd I (.func f)=.one (.raw (.func (.func f) #[] #[])):=rfl
theorem zr3 {o:Oper} {rd:List Nat} {av:AV}:val I o rd av=match o.dst with
 | some d=>if nh I d then some (d::rd,[(d,av)]) else none
 | none=>none:=rfl
theorem vmr {x:List Nat×List (Nat×AV)}:OR.of (some x)=.eff x.1 [] x.2:=rfl
theorem y4p:OR.of none=.bad:=rfl
theorem w02 {s b:Nat} {z:List Cell} {sh:Sh}:TI.many ⟨s,b,z,sh⟩=if sh.agg then some true else if sh.plain then some false else none:=rfl
theorem x14 {t:TypeId} {ti:TI} (h:mkTI P t=some ti) {k:TI->OR}:wgg P t k=k ti:=by unfold wgg;rw [h]
theorem y5g [Decidable c] {a b:α} (h:c):(if c then a else b)=a:=if_pos h
theorem wt3 [Decidable c] {a b:α} (h:¬c):(if c then a else b)=b:=if_neg h
theorem w64 {n:Int} (h:-9223372036854775808<=n/\n<=9223372036854775807):IntKind.i64.wrap n=n:=by rw [IntKind.wrap_i64];omega
theorem vdu (f:α->β) (a:α):(some a).map f=some (f a):=rfl
theorem yj5 (f:α->β):(none:Option α).map f=none:=rfl
theorem w6q (f:α->Option β) (a:α):(some a).bind f=f a:=rfl
theorem beqI {a b:Int}:(a==b)=decide (a=b):=rfl
theorem bneI {a b:Int}:(a != b)=decide (a≠b):=by simp [bne,beqI]
theorem yy0 {a b:α}:(bif true then a else b)=a:=rfl
theorem zdc {a b:α}:(bif false then a else b)=b:=rfl
attribute [go_sem 100] y5g wt3
attribute [go_sem 10000] if_true if_false
attribute [go_sem] w64
attribute [go_sem] beqI bneI yy0 zdc
attribute [go_sem ↓] wfv x6a
attribute [go_sem] wcr whn
attribute [go_sem] ykm z5i x8y zw2 wj2 yzg
attribute [congr] vq6 zr0
attribute [go_sem] v2l zrz wnu wdg y8h wag z0p zaz ysv y0i zpo yip ytv zr3 vmr y4p w02
attribute [go_sem] vdu yj5 w6q List.set_cons_zero List.set_cons_succ Option.getD_some Option.getD_none List.getElem?_cons_zero List.getElem?_cons_succ List.getElem?_nil
attribute [go_sem] zai z9m Cell.xhr wai wcu ghOf ghL ghA y0x frz vn0 zma AV.frzd Cell.sub Cell.at Cell.upd Cell.cnt Cell.esz AV.vwb AV.xuy AV.fresh xch AV.wls x8a
attribute [go_sem] wcq wlk z7d yeg x5i wlx y05 anyH v31 zcq isK
attribute [go_sem] opA opA0 opL selO litA litB litE isNone ya9 y00 isZc zcAt ownN w6x isX opX nilO nilV tiX valX maxV eqOp vub bbA vcv wbc y7m nilA nilC x5m vmt hitB yga voy zzc mvS AV.rf
attribute [go_sem] vmw xtk opB vofA vofB vw7 z4h v27 cpy zlz xwy v72 wjl ywr xjw vz9 elemAt zxf abin binA aun unA vwq lenC lenA zps xmh Cell.isSl natA vwf orrO cutC x4g zqp
attribute [go_sem] yys xsx orrs placeOf v7w w6n chunk yql xw9 wxa vbz wch ownC z3f w0m argA zvb orrL xl0 xas ydq vr2 orr AV.xeo AV.w7h AV.y10 Sh.agg Sh.plain Cell.bare vc2 z1h
attribute [go_sem] zb3 x3g yhv AV.wi1 z3p Cell.wi1 AV.vtf
attribute [go_sem] List.take_succ_cons List.take_zero List.drop_succ_cons List.drop_zero List.drop_nil List.take_nil List.length_cons List.length_nil List.cons_append List.nil_append List.append_nil List.all_cons List.all_nil List.map_cons List.map_nil
theorem bq3:(false==b) = !b:=by cases b<;>rfl
attribute [go_sem] bq3 List.foldl_cons List.foldl_nil AV.strip Cell.strip yvb
attribute [go_sem] Bool.not_true Bool.not_false Bool.false_eq_true Bool.true_and Bool.and_true Bool.false_and Bool.and_false true_and and_true and_self cond_true cond_false not_true_eq_false not_false_eq_true
attribute [go_sem] Nat.zero_add Nat.add_zero List.drop_length List.take_length List.length_set List.length_replicate
attribute [go_sem] decide_true decide_false beq_self_eq_true bne_self_eq_false Option.toList Int.toNat_natCast List.toList_toArray
def yuk (s:ByteArray) (i:Nat):Int:=((s.data[i]?).getD 0).toNat
end Go.Slot
namespace Go.Hp
open Go Go.RowKit Go.Slot
variable {o b i:Nat} {v:Value}
inductive HC where
 | any
 | dat (c:Cell)
 | ptr (b off:Nat)
 | pel (b es i f:Nat)
 | sl (b es lo n:Nat)
 | mp (b:Nat)
 | fnr (b:Nat)
inductive SV where
 | any
 | undef
 | one (h:HC)
 | agg (hs:List HC)
 | tup (l:List SV)
 | elt (cs:List Cell)
inductive SB where
 | fresh
 | dead
 | box (hs:List HC) (T:Option TypeId)
 | arr (c:Cell) (k:Nat) (T:Option TypeId)
 | map (es:List (Value×SV))
 | clo (f:FuncId) (caps:List SV)
variable {x x':SB}
def SB.own:SB->Bool
 | .box _ _ | .arr _ _ _ | .map _=>true
 | _=>false
def SB.mut (o:Nat):SB->Prop
 | .box _ _=>True
 | .arr _ k _=>k<=o
 | _=>False
theorem SB.zgj (h:x.mut o):x.own=true:=by cases x<;>first | rfl | exact h.elim
def bk:Value->Nat
 | .map (some b)=>b
 | v=>blk v
def okB (J:List SB) (b:Nat):Prop:=∃ x,J[b]? = some x/\x≠.fresh
def real (v:Value):Prop:=v≠.pointer none
def Xb (ρ:Nat->Value) (J:List SB) (k:Nat):Prop:=∃ i x,J[i]? = some x/\x.own=true/\real (ρ i)/\bk (ρ i)=k
def MX (Mo:Nat->Nat->Prop) (ρ:Nat->Value) (J:List SB) (b o:Nat):Prop:=Mo b o\/∃ i x,J[i]? = some x/\x.mut o/\real (ρ i)/\bk (ρ i)=b
def HRd (J:List SB) (ρ:Nat->Value) (M:Nat->Nat->Prop) (w:World) (v:Value):HC->Prop
 | .any=>v.oneCell'=true
 | .dat c=>RdC M w v c
 | .ptr b off=>okB J b/\v=.pointer (some ⟨bk (ρ b),off,none⟩)
 | .pel b es i f=>okB J b/\v=.pointer (some ⟨bk (ρ b),i*es+f,none⟩)
 | .sl b es lo n=>okB J b/\∃ ad cap,v=.slice ad n cap/\n<=cap/\(cap≠0->real (ρ b)/\ad=some ⟨bk (ρ b),lo*es,none⟩/\∃(arr:Array Value) (T:TypeId) (fz:Nat×Nat),w.heap[bk (ρ b)]? = some (Obj.cells arr T fz)/\(lo+cap)*es<=arr.size)
 | .mp b=>okB J b/\v=ρ b/\v.oneCell'=true
 | .fnr b=>okB J b/\v=ρ b/\v.oneCell'=true
def HRL (J:List SB) (ρ:Nat->Value) (M:Nat->Nat->Prop) (w:World):List Value->List HC->Prop
 | [],[]=>True
 | v::vs,h::hs=>HRd J ρ M w v h/\HRL J ρ M w vs hs
 | _,_=>False
def SVR0 (J:List SB) (ρ:Nat->Value) (M:Nat->Nat->Prop) (w:World) (v:Value):SV->Prop
 | .any=>True
 | .undef=>v=Go.undef
 | .one h=>HRd J ρ M w v h
 | .agg hs=>∃ vs:List Value,v=.agg vs.toArray/\HRL J ρ M w vs hs
 | .elt cs=>∃(b off:Nat) (vs:List Value),v=.pointer (some ⟨b,off,none⟩)/\(∀ j u,vs[j]? = some u->¬M b (off+j)/\w.cell? ⟨b,off+j,none⟩=some u)/\RdD M w vs cs
 | .tup _=>False
def SRL (J:List SB) (ρ:Nat->Value) (M:Nat->Nat->Prop) (w:World):List Value->List SV->Prop
 | [],[]=>True
 | v::vs,x::l=>SVR0 J ρ M w v x/\SRL J ρ M w vs l
 | _,_=>False
def SVR (J:List SB) (ρ:Nat->Value) (M:Nat->Nat->Prop) (w:World) (v:Value):SV->Prop
 | .tup l=>∃ vs:List Value,v=.tuple vs.toArray/\SRL J ρ M w vs l
 | x=>SVR0 J ρ M w v x
def EnR (J:List SB) (ρ:Nat->Value) (M:Nat->Nat->Prop) (w:World):List MapEntry->List (Value×SV)->Prop
 | [],[]=>True
 | e::es,p::l=>(e.key=p.1/\SVR0 J ρ M w e.val p.2)/\EnR J ρ M w es l
 | _,_=>False
def SBR (J:List SB) (ρ:Nat->Value) (M:Nat->Nat->Prop) (w:World) (v:Value):SB->Prop
 | .fresh | .dead=>True
 | .box hs t=>∃(b:Nat) (vs:List Value) (T:TypeId),v=.pointer (some ⟨b,0,none⟩)/\w.heap[b]? = some (.cells vs.toArray T (0,0))/\HRL J ρ M w vs hs/\∀ t',t=some t'->T=t'
 | .arr c k t=>(c.uni/\k<=c.cnt*c.esz)/\((c.cnt=0/\v=.pointer none)\/∃(b:Nat) (vs q:List Value) (T:TypeId),v=.pointer (some ⟨b,0,none⟩)/\w.heap[b]? = some (.cells (vs++q).toArray T (0,0))/\RdD M w vs c.flat/\∀ t',t=some t'->T=t')
 | .map es=>∃(b:Nat) (ents:Array MapEntry) (clk:Nat),v=.map (some b)/\w.heap[b]? = some (.map ents clk)/\EnR J ρ M w ents.toList es
 | .clo f caps=>∃ cv:List Value,v=.func (.func f) #[] cv.toArray/\SRL J ρ M w cv caps
def Grow (w w':World):Prop:=∀(b:Nat) (arr:Array Value) (T:TypeId) (fz:Nat×Nat),w.heap[b]? = some (Obj.cells arr T fz)->∃(arr':Array Value) (T':TypeId) (fz':Nat×Nat),w'.heap[b]? = some (Obj.cells arr' T' fz')/\arr.size<=arr'.size
theorem Grow.refl (w:World):Grow w w:=fun _ arr T fz h=>⟨arr,T,fz,h,Nat.le_refl _⟩
theorem Grow.trans {a b c:World} (h:Grow a b) (k:Grow b c):Grow a c:=fun i arr T fz hi=>by
 obtain ⟨arr',T',fz',h1,h2⟩:=h i arr T fz hi;obtain ⟨arr2,T2,fz2,h3,h4⟩:=k i arr' T' fz' h1;exact ⟨arr2,T2,fz2,h3,Nat.le_trans h2 h4⟩
theorem Grow.below {w w':World} (h:Below w.heap.size w w'):Grow w w':=fun b arr T fz hb=>
 ⟨arr,T,fz,(h.block b (Array.getElem?_eq_some_iff.1 hb).1).trans hb,Nat.le_refl _⟩
structure Mv (J:List SB) (ρ:Nat->Value) (M:Nat->Nat->Prop) (w:World) (J':List SB) (ρ':Nat->Value) (M':Nat->Nat->Prop) (w':World):Prop where
 ok:∀ b,okB J b->okB J' b
 rho:∀ b,okB J b->ρ' b=ρ b
 keep:wf2 M M' w w'
 grow:Grow w w'
section
variable {J J':List SB} {ρ ρ':Nat->Value} {M M':Nat->Nat->Prop} {w w':World}
theorem HRd.mv (m:Mv J ρ M w J' ρ' M' w') {h:HC} (hr:HRd J ρ M w v h):HRd J' ρ' M' w' v h:=by
 cases h with
 | any=>exact hr
 | dat c=>exact RdC.keep m.keep hr
 | ptr b off=>exact ⟨m.ok b hr.1,by rw [m.rho b hr.1];exact hr.2⟩
 | pel b es i f=>exact ⟨m.ok b hr.1,by rw [m.rho b hr.1];exact hr.2⟩
 | sl b es lo n=>
  obtain ⟨ho,ad,cap,hv,hn,hc⟩:=hr;refine ⟨m.ok b ho,ad,cap,hv,hn,fun h0=>?_⟩;obtain ⟨hre,h1,arr,T,fz,h2,h3⟩:=hc h0;rw [m.rho b ho];obtain ⟨arr',T',fz',h4,h5⟩:=m.grow _ _ _ _ h2;exact ⟨hre,h1,arr',T',fz',h4,Nat.le_trans h3 h5⟩
 | mp b=>exact ⟨m.ok b hr.1,by rw [m.rho b hr.1];exact hr.2⟩
 | fnr b=>exact ⟨m.ok b hr.1,by rw [m.rho b hr.1];exact hr.2⟩
theorem HRL.mv (m:Mv J ρ M w J' ρ' M' w'):∀{vs:List Value} {hs:List HC},HRL J ρ M w vs hs->HRL J' ρ' M' w' vs hs
 | [],[],_=>trivial
 | _::_,_::_,h=>⟨h.1.mv m,h.2.mv m⟩
theorem SVR0.mv (m:Mv J ρ M w J' ρ' M' w') {v:Value} {x:SV} (h:SVR0 J ρ M w v x):SVR0 J' ρ' M' w' v x:=by
 cases x with
 | one c=>exact HRd.mv m h
 | agg cs=>obtain ⟨vs,rfl,h⟩:=h;exact ⟨vs,rfl,h.mv m⟩
 | elt cs=>obtain ⟨b,off,vs,rfl,hc,h⟩:=h;exact ⟨b,off,vs,rfl,fun j u hj=>m.keep _ _ _ (hc j u hj).1 (hc j u hj).2,h.keep m.keep⟩
 | _=>exact h
theorem SRL.mv (m:Mv J ρ M w J' ρ' M' w'):∀{vs:List Value} {l:List SV},SRL J ρ M w vs l->SRL J' ρ' M' w' vs l
 | [],[],_=>trivial
 | _::_,_::_,h=>⟨h.1.mv m,h.2.mv m⟩
theorem SVR.of0 {x:SV} (h:SVR0 J ρ M w v x):SVR J ρ M w v x:=by
 cases x<;>first | exact h | exact h.elim
theorem SVR.mv (m:Mv J ρ M w J' ρ' M' w') {v:Value} {x:SV} (h:SVR J ρ M w v x):SVR J' ρ' M' w' v x:=by
 cases x with
 | tup l=>obtain ⟨vs,rfl,h⟩:=h;exact ⟨vs,rfl,h.mv m⟩
 | _=>exact SVR.of0 (SVR0.mv m h)
theorem EnR.mv (m:Mv J ρ M w J' ρ' M' w'):∀{es:List MapEntry} {l:List (Value×SV)},EnR J ρ M w es l->EnR J' ρ' M' w' es l
 | [],[],_=>trivial
 | _::_,_::_,h=>⟨⟨h.1.1,h.1.2.mv m⟩,h.2.mv m⟩
theorem SBR.mv (m:Mv J ρ M w J' ρ' M' w') {v:Value} {x:SB} (hh:x.own=true->real v->w'.heap[bk v]? = w.heap[bk v]?) (h:SBR J ρ M w v x):SBR J' ρ' M' w' v x:=by
 cases x with
 | fresh=>trivial
 | dead=>trivial
 | box hs t=>obtain ⟨b,vs,T,rfl,hb,h,ht⟩:=h;exact ⟨b,vs,T,rfl,(hh rfl (by simp [real])).trans hb,h.mv m,ht⟩
 | arr c k t=>
  obtain ⟨hu,h | ⟨b,vs,q,T,rfl,hb,h,hk⟩⟩:=h
  . exact ⟨hu,.inl h⟩
  . exact ⟨hu,.inr ⟨b,vs,q,T,rfl,(hh rfl (by simp [real])).trans hb,h.keep m.keep,hk⟩⟩
 | map es=>obtain ⟨b,ents,clk,rfl,hb,h⟩:=h;exact ⟨b,ents,clk,rfl,(hh rfl (by simp [real])).trans hb,h.mv m⟩
 | clo f caps=>obtain ⟨cv,rfl,h⟩:=h;exact ⟨cv,rfl,h.mv m⟩
theorem SBR.whw (h:SBR J ρ M w v x) (ho:x.own=true) (hr:real v):bk v<w.heap.size:=by
 cases x with
 | box hs t=>obtain ⟨b,vs,T,rfl,hb,_⟩:=h;exact (Array.getElem?_eq_some_iff.1 hb).1
 | arr c k t=>
  obtain ⟨_,⟨_,e⟩ | ⟨b,vs,q,T,rfl,hb,_⟩⟩:=h
  . exact absurd e hr
  . exact (Array.getElem?_eq_some_iff.1 hb).1
 | map es=>obtain ⟨b,ents,clk,rfl,hb,_⟩:=h;exact (Array.getElem?_eq_some_iff.1 hb).1
 | _=>cases ho
theorem HRd.one {v:Value} {h:HC} (hr:HRd J ρ M w v h):v.oneCell'=true:=by
 cases h with
 | any=>exact hr
 | dat c=>exact RdC.one hr
 | ptr b off=>rw [hr.2];rfl
 | pel b es i f=>rw [hr.2];rfl
 | sl b es lo n=>obtain ⟨_,ad,cap,rfl,_⟩:=hr;rfl
 | mp b=>exact hr.2.2
 | fnr b=>exact hr.2.2
theorem HRL.ones:∀{vs:List Value} {hs:List HC},HRL J ρ M w vs hs->∀ v∈vs,v.oneCell'=true
 | [],[],_,v,hv=>by simp at hv
 | u::vs,_::_,h,v,hv=>by
  rcases List.mem_cons.1 hv with rfl | hv
  . exact h.1.one
  . exact h.2.ones v hv
theorem HRL.length:∀{vs:List Value} {hs:List HC},HRL J ρ M w vs hs->vs.length=hs.length
 | [],[],_=>rfl
 | _::_,_::_,h=>by simp [h.2.length]
theorem SRL.length:∀{vs:List Value} {l:List SV},SRL J ρ M w vs l->vs.length=l.length
 | [],[],_=>rfl
 | _::_,_::_,h=>by simp [h.2.length]
theorem HRL.drop:∀(n:Nat) {vs:List Value} {cs:List HC},HRL J ρ M w vs cs->HRL J ρ M w (vs.drop n) (cs.drop n)
 | 0,_,_,h=>by simpa using h
 | n+1,[],[],_=>trivial
 | n+1,_::_,_::_,h=>by simpa using h.2.drop n
theorem HRL.take:∀(n:Nat) {vs:List Value} {cs:List HC},HRL J ρ M w vs cs->HRL J ρ M w (vs.take n) (cs.take n)
 | 0,_,_,_=>trivial
 | _n+1,[],[],_=>trivial
 | n+1,_::_,_::_,h=>⟨h.1,h.2.take n⟩
theorem HRL.append:∀{vs:List Value} {cs:List HC} {us:List Value} {ds:List HC},HRL J ρ M w vs cs->HRL J ρ M w us ds->HRL J ρ M w (vs++us) (cs++ds)
 | [],[],_,_,_,h=>h
 | _::_,_::_,_,_,h,h'=>⟨h.1,h.2.append h'⟩
theorem SRL.append:∀{vs:List Value} {cs:List SV} {us:List Value} {ds:List SV},SRL J ρ M w vs cs->SRL J ρ M w us ds->SRL J ρ M w (vs++us) (cs++ds)
 | [],[],_,_,_,h=>h
 | _::_,_::_,_,_,h,h'=>⟨h.1,h.2.append h'⟩
theorem SRL.get:∀{vs:List Value} {cs:List SV},SRL J ρ M w vs cs->∀(j:Nat) (c:SV),cs[j]? = some c->∃ v,vs[j]? = some v/\SVR0 J ρ M w v c
 | [],[],_,j,c,hc=>by simp at hc
 | v::vs,c'::cs,h,0,c,hc=>by simp at hc;subst hc;exact ⟨v,by simp,h.1⟩
 | v::vs,c'::cs,h,j+1,c,hc=>by simpa using h.2.get j c (by simpa using hc)
theorem HRL.get:∀{vs:List Value} {cs:List HC},HRL J ρ M w vs cs->∀(j:Nat) (c:HC),cs[j]? = some c->∃ v,vs[j]? = some v/\HRd J ρ M w v c
 | [],[],_,j,c,hc=>by simp at hc
 | v::vs,c'::cs,h,0,c,hc=>by simp at hc;subst hc;exact ⟨v,by simp,h.1⟩
 | v::vs,c'::cs,h,j+1,c,hc=>by simpa using h.2.get j c (by simpa using hc)
theorem RdD.hrl:∀{vs:List Value} {cs:List Cell},RdD M w vs cs->HRL J ρ M w vs (cs.map .dat)
 | [],[],_=>trivial
 | _::_,_::_,h=>⟨h.1,RdD.hrl h.2⟩
end
def y72 (Γ:List (Nat×List Cell)) (M:Nat->Nat->Prop) (w:World):Prop:=
 ∀ g cs,(g,cs)∈Γ->∃ vs:List Value,(∀ j u,vs[j]? = some u->¬M g j/\w.cell? ⟨g,j,none⟩=some u)/\RdD M w vs cs
theorem y72.keep {Γ:List (Nat×List Cell)} {M M':Nat->Nat->Prop} {w w':World} (hk:wf2 M M' w w') (h:y72 Γ M w):y72 Γ M' w':=fun g cs hg=>by
 obtain ⟨vs,h1,h2⟩:=h g cs hg;exact ⟨vs,fun j u hj=>hk _ _ _ (h1 j u hj).1 (h1 j u hj).2,h2.keep hk⟩
structure HInv (Γ:List (Nat×List Cell)) (Mo:Nat->Nat->Prop) (ρ:Nat->Value) (J:List SB) (w:World):Prop where
 bnd:∀ b o,Mo b o->b<w.heap.size
 blk:∀ i x,J[i]? = some x->SBR J ρ (MX Mo ρ J) w (ρ i) x
 inj:∀ i j x y,J[i]? = some x->J[j]? = some y->x.own=true->y.own=true->real (ρ i)->real (ρ j)->bk (ρ i)=bk (ρ j)->i=j
 sep:∀ i x,J[i]? = some x->x.own=true->real (ρ i)->∀ o,¬Mo (bk (ρ i)) o
 glob:y72 Γ (MX Mo ρ J) w
structure Went (Γ:List (Nat×List Cell)) (Mo:Nat->Nat->Prop) (ρ:Nat->Value) (J:List SB) (w:World) (ρ':Nat->Value) (J':List SB) (w':World):Prop where
 ok:∀ b,okB J b->okB J' b
 rho:∀ b,okB J b->ρ' b=ρ b
 keep:wf2 (MX Mo ρ J) (MX Mo ρ' J') w w'
 grow:Grow w w'
 inv:HInv Γ Mo ρ' J' w'
 size:w.heap.size<=w'.heap.size
 os:w'.os=w.os
 tape:w'.tape=w.tape
 output:w'.output=w.output
 frame:∀ k,k<w.heap.size->¬Xb ρ J k->w'.heap[k]? = w.heap[k]?
 fresh:∀ k,Xb ρ' J' k->w.heap.size<=k\/Xb ρ J k
section
variable {Γ:List (Nat×List Cell)} {Mo:Nat->Nat->Prop} {J J' J'':List SB} {ρ ρ' ρ'':Nat->Value} {w w' w'':World}
theorem Went.mv (h:Went Γ Mo ρ J w ρ' J' w'):Mv J ρ (MX Mo ρ J) w J' ρ' (MX Mo ρ' J') w':=⟨h.ok,h.rho,h.keep,h.grow⟩
theorem Went.refl (h:HInv Γ Mo ρ J w):Went Γ Mo ρ J w ρ J w:=
 ⟨fun _ h=>h,fun _ _=>rfl,fun _ _ _ h1 h2=>⟨h1,h2⟩,Grow.refl w,h,Nat.le_refl _,rfl,rfl,rfl,fun _ _ _=>rfl,fun _ h=>.inr h⟩
theorem Went.trans (h:Went Γ Mo ρ J w ρ' J' w') (k:Went Γ Mo ρ' J' w' ρ'' J'' w''):Went Γ Mo ρ J w ρ'' J'' w'' where
 ok:=fun b hb=>k.ok b (h.ok b hb)
 rho:=fun b hb=>(k.rho b (h.ok b hb)).trans (h.rho b hb)
 keep:=h.keep.trans k.keep
 grow:=h.grow.trans k.grow
 inv:=k.inv
 size:=Nat.le_trans h.size k.size
 os:=k.os.trans h.os
 tape:=k.tape.trans h.tape
 output:=k.output.trans h.output
 frame:=fun i hi hx=>(k.frame i (Nat.lt_of_lt_of_le hi h.size) (fun h1=>by
  rcases h.fresh i h1 with h2 | h2
  . omega
  . exact hx h2)).trans (h.frame i hi hx)
 fresh:=fun i hx=>by
  rcases k.fresh i hx with h1 | h1
  . exact .inl (Nat.le_trans h.size h1)
  . exact h.fresh i h1
theorem w2t (hx:x≠.fresh) (h:okB J b):okB (J.set i x) b:=by
 obtain ⟨y,h1,h2⟩:=h;unfold okB;rw [List.getElem?_set]
 split
 . rename_i e;subst e;rw [if_pos (List.getElem?_eq_some_iff.1 h1).1];exact ⟨x,rfl,hx⟩
 . exact ⟨y,h1,h2⟩
theorem v3t (l:List SB) (h:okB J b):okB (J++l) b:=by
 obtain ⟨y,h1,h2⟩:=h;exact ⟨y,by rw [List.getElem?_append_left (List.getElem?_eq_some_iff.1 h1).1];exact h1,h2⟩
theorem yu6 {α:Type} {l:List α} {d:Nat} {x y:α} (h:(l.set d x)[i]? = some y):(i=d/\y=x)\/(i≠d/\l[i]? = some y):=getElem?_set_cases h
theorem HInv.below (h:HInv Γ Mo ρ J w) (hb:Below w.heap.size w w'):HInv Γ Mo ρ J w' where
 bnd:=fun b o ho=>Nat.lt_of_lt_of_le (h.bnd b o ho) hb.size
 blk:=fun i x hi=>(h.blk i x hi).mv ⟨fun _ h=>h,fun _ _=>rfl,wf2.below hb,Grow.below hb⟩ (fun ho hr=>hb.block _ ((h.blk i x hi).whw ho hr))
 inj:=h.inj
 sep:=h.sep
 glob:=h.glob.keep (wf2.below hb)
theorem Went.below (h:HInv Γ Mo ρ J w) (hb:Below w.heap.size w w'):Went Γ Mo ρ J w ρ J w':=
 ⟨fun _ h=>h,fun _ _=>rfl,wf2.below hb,Grow.below hb,h.below hb,hb.size,hb.os,hb.tape,hb.output,fun k hk _=>hb.block k hk,fun _ h=>.inr h⟩
theorem x02 (h:HInv Γ Mo ρ J w) (hm:MX Mo ρ J b o):b<w.heap.size:=by
 rcases hm with hm | ⟨i,x,hi,hx,hr,rfl⟩
 . exact h.bnd b o hm
 . exact (h.blk i x hi).whw (SB.zgj hx) hr
theorem yri {n:Nat} (h:(J++List.replicate n .fresh)[i]? = some x):J[i]? = some x\/(J.length<=i/\x=.fresh):=by
 rw [List.getElem?_append] at h;split at h
 . exact .inl h
 . rw [List.getElem?_replicate] at h;split at h
   . cases h;exact .inr ⟨by omega,rfl⟩
   . cases h
theorem Went.extend (h:HInv Γ Mo ρ J w) (n:Nat):Went Γ Mo ρ J w ρ (J++List.replicate n .fresh) w:=by
 have hM:∀ b o,MX Mo ρ (J++List.replicate n .fresh) b o->MX Mo ρ J b o:=by
  rintro b o (hm | ⟨i,x,hi,hx,hr⟩)
  . exact .inl hm
  . rcases yri hi with hi | ⟨_,rfl⟩
    . exact .inr ⟨i,x,hi,hx,hr⟩
    . exact hx.elim
 have hk:wf2 (MX Mo ρ J) (MX Mo ρ (J++List.replicate n .fresh)) w w:=fun b o u h1 h2=>⟨fun hm=>h1 (hM b o hm),h2⟩
 refine ⟨fun b hb=>v3t _ hb,fun _ _=>rfl,hk,Grow.refl w,⟨h.bnd,?_,?_,?_,h.glob.keep hk⟩,Nat.le_refl _,rfl,rfl,rfl,fun _ _ _=>rfl,?_⟩
 . intro i x hi
   rcases yri hi with hi | ⟨_,rfl⟩
   . exact (h.blk i x hi).mv ⟨fun b hb=>v3t _ hb,fun _ _=>rfl,hk,Grow.refl w⟩ (fun _ _=>rfl)
   . trivial
 . intro i j x y hi hj hx hy
   rcases yri hi with hi | ⟨_,rfl⟩
   . rcases yri hj with hj | ⟨_,rfl⟩
     . exact h.inj i j x y hi hj hx hy
     . cases hy
   . cases hx
 . intro i x hi hx
   rcases yri hi with hi | ⟨_,rfl⟩
   . exact h.sep i x hi hx
   . cases hx
 . rintro k ⟨i,x,hi,hx,hr⟩
   rcases yri hi with hi | ⟨_,rfl⟩
   . exact .inr ⟨i,x,hi,hx,hr⟩
   . cases hx
def upd (ρ:Nat->Value) (b:Nat) (v:Value):Nat->Value:=fun i=>if i=b then v else ρ i
theorem yr4:upd ρ b v b=v:=by simp [upd]
theorem zwj (h:i≠b):upd ρ b v i=ρ i:=by simp [upd,h]
theorem x9f (h:J[b]? = some .fresh):¬okB J b:=fun ⟨x,h1,h2⟩=>by rw [h] at h1;cases h1;exact h2 rfl
theorem Went.new (h:HInv Γ Mo ρ J w) (hb:Below w.heap.size w w') (hf:J[b]? = some .fresh) (hxf:x≠.fresh)
 (hnew:x.own=true->real v->w.heap.size<=bk v)
 (hok:Mv J ρ (MX Mo ρ J) w (J.set b x) (upd ρ b v) (MX Mo (upd ρ b v) (J.set b x)) w'->SBR (J.set b x) (upd ρ b v) (MX Mo (upd ρ b v) (J.set b x)) w' v x):Went Γ Mo ρ J w (upd ρ b v) (J.set b x) w':=by
 have hne:∀ i,okB J i->i≠b:=fun i hi e=>x9f hf (e▸hi)
 have hM:∀ c o,MX Mo (upd ρ b v) (J.set b x) c o->MX Mo ρ J c o\/(w.heap.size<=c):=by
  rintro c o (hm | ⟨i,y,hi,hy,hr,e⟩)
  . exact .inl (.inl hm)
  . rcases yu6 hi with ⟨rfl,rfl⟩ | ⟨hn,hi⟩
    . rw [yr4] at hr e;exact .inr (e▸hnew (SB.zgj hy) hr)
    . rw [zwj hn] at hr e;exact .inl (.inr ⟨i,y,hi,hy,hr,e⟩)
 have hk:wf2 (MX Mo ρ J) (MX Mo (upd ρ b v) (J.set b x)) w w':=fun c o u h1 h2=>by
  have hl:=World.block_lt_of_cell? w _ h2;refine ⟨fun hm=>?_,(wf2.below hb c o u h1 h2).2⟩
  rcases hM c o hm with hm | hm
  . exact h1 hm
  . simp only at hl;omega
 have hm:Mv J ρ (MX Mo ρ J) w (J.set b x) (upd ρ b v) (MX Mo (upd ρ b v) (J.set b x)) w':=⟨fun i hi=>w2t hxf hi,fun i hi=>zwj (hne i hi),hk,Grow.below hb⟩;refine ⟨hm.ok,hm.rho,hk,hm.grow,⟨fun c o ho=>Nat.lt_of_lt_of_le (h.bnd c o ho) hb.size,?_,?_,?_,h.glob.keep hk⟩,hb.size,hb.os,hb.tape,hb.output,fun k hk _=>hb.block k hk,?_⟩
 . intro i y hi
   rcases yu6 hi with ⟨rfl,rfl⟩ | ⟨hn,hi⟩
   . rw [yr4];exact hok hm
   . rw [zwj hn];exact (h.blk i y hi).mv hm (fun ho hr=>hb.block _ ((h.blk i y hi).whw ho hr))
 . intro i j y z hi hj hy hz hri hrj e
   rcases yu6 hi with ⟨ei,ey⟩ | ⟨hn,hi'⟩
   . rcases yu6 hj with ⟨ej,ez⟩ | ⟨hn',hj'⟩
     . rw [ei,ej]
     . subst ei;subst ey;rw [yr4] at hri e;rw [zwj hn'] at hrj e;have h1:=hnew hy hri;have h2:=(h.blk j z hj').whw hz hrj;omega
   . rcases yu6 hj with ⟨ej,ez⟩ | ⟨hn',hj'⟩
     . subst ej;subst ez;rw [yr4] at hrj e;rw [zwj hn] at hri e;have h1:=hnew hz hrj;have h2:=(h.blk i y hi').whw hy hri;omega
     . rw [zwj hn] at hri e;rw [zwj hn'] at hrj e;exact h.inj i j y z hi' hj' hy hz hri hrj e
 . intro i y hi hy hr o ho
   rcases yu6 hi with ⟨rfl,rfl⟩ | ⟨hn,hi⟩
   . rw [yr4] at hr ho;have h1:=hnew hy hr;have h2:=h.bnd _ _ ho;omega
   . rw [zwj hn] at hr ho;exact h.sep i y hi hy hr o ho
 . rintro k ⟨i,y,hi,hy,hr,e⟩
   rcases yu6 hi with ⟨rfl,rfl⟩ | ⟨hn,hi⟩
   . rw [yr4] at hr e;exact .inl (e▸hnew hy hr)
   . rw [zwj hn] at hr e;exact .inr ⟨i,y,hi,hy,hr,e⟩
theorem Went.write (h:HInv Γ Mo ρ J w) (hx:J[b]? = some x) (ho:x.own=true) (hr:real (ρ b)) (ho':x'.own=true) (hmut:∀ o,x'.mut o↔x.mut o)
 (hsize:w'.heap.size=w.heap.size) (hos:w'.os=w.os) (htape:w'.tape=w.tape) (hout:w'.output=w.output) (hother:∀ k,k≠bk (ρ b)->w'.heap[k]? = w.heap[k]?) (hgrow:Grow w w')
 (hcell:∀ o u,¬x.mut o->w.cell? ⟨bk (ρ b),o,none⟩=some u->w'.cell? ⟨bk (ρ b),o,none⟩=some u)
 (hok:Mv J ρ (MX Mo ρ J) w (J.set b x') ρ (MX Mo ρ (J.set b x')) w'->SBR (J.set b x') ρ (MX Mo ρ (J.set b x')) w' (ρ b) x'):Went Γ Mo ρ J w ρ (J.set b x') w':=by
 have hxf:x'≠.fresh:=fun e=>by rw [e] at ho';cases ho'
 have hlt:b<J.length:=(List.getElem?_eq_some_iff.1 hx).1
 have hM:∀ c o,MX Mo ρ (J.set b x') c o↔MX Mo ρ J c o:=fun c o=>by
  constructor
  . rintro (hm | ⟨i,y,hi,hy,hr,e⟩)
    . exact .inl hm
    . rcases yu6 hi with ⟨rfl,rfl⟩ | ⟨hn,hi⟩
      . exact .inr ⟨i,x,hx,(hmut o).1 hy,hr,e⟩
      . exact .inr ⟨i,y,hi,hy,hr,e⟩
  . rintro (hm | ⟨i,y,hi,hy,hr,e⟩)
    . exact .inl hm
    . by_cases hn:i=b
      . subst hn;rw [hx] at hi;cases hi;exact .inr ⟨i,x',by simp [hlt],(hmut o).2 hy,hr,e⟩
      . exact .inr ⟨i,y,by rw [List.getElem?_set_ne (Ne.symm hn)];exact hi,hy,hr,e⟩
 have hk:wf2 (MX Mo ρ J) (MX Mo ρ (J.set b x')) w w':=fun c o u h1 h2=>by
  refine ⟨fun hm=>h1 ((hM c o).1 hm),?_⟩;by_cases e:c=bk (ρ b)
  . subst e;exact hcell o u (fun hm=>h1 (.inr ⟨b,x,hx,hm,hr,rfl⟩)) h2
  . unfold World.cell? at h2 ⊢;dsimp only at h2 ⊢;rw [hother c e];exact h2
 have hm:Mv J ρ (MX Mo ρ J) w (J.set b x') ρ (MX Mo ρ (J.set b x')) w':=⟨fun i hi=>w2t hxf hi,fun _ _=>rfl,hk,hgrow⟩;refine ⟨hm.ok,hm.rho,hk,hgrow,⟨fun c o hc=>by rw [hsize];exact h.bnd c o hc,?_,?_,?_,h.glob.keep hk⟩,by omega,hos,htape,hout,?_,?_⟩
 . intro i y hi
   rcases yu6 hi with ⟨rfl,rfl⟩ | ⟨hn,hi⟩
   . exact hok hm
   . exact (h.blk i y hi).mv hm (fun hyo hri=>hother _ (fun e=>hn (h.inj i b y x hi hx hyo ho hri hr e)))
 . intro i j y z hi hj hy hz
   have key:∀(k:Nat) (u:SB),(J.set b x')[k]? = some u->u.own=true->∃ u':SB,J[k]? = some u'/\u'.own=true:=fun k u hk hu=>by
    rcases yu6 hk with ⟨rfl,rfl⟩ | ⟨_,hk⟩
    . exact ⟨x,hx,ho⟩
    . exact ⟨u,hk,hu⟩
   obtain ⟨y',h1,h2⟩:=key i y hi hy;obtain ⟨z',h3,h4⟩:=key j z hj hz;exact h.inj i j y' z' h1 h3 h2 h4
 . intro i y hi hy
   rcases yu6 hi with ⟨rfl,rfl⟩ | ⟨_,hi⟩
   . exact h.sep i x hx ho
   . exact h.sep i y hi hy
 . intro k _ hk;exact hother k (fun e=>hk ⟨b,x,hx,ho,hr,e.symm⟩)
 . rintro k ⟨i,y,hi,hy,hr',e⟩
   rcases yu6 hi with ⟨rfl,rfl⟩ | ⟨_,hi⟩
   . exact .inr ⟨i,x,hx,ho,hr',e⟩
   . exact .inr ⟨i,y,hi,hy,hr',e⟩
theorem Went.less (h:HInv Γ Mo ρ J w) (hx:J[b]? = some x) (hxf:x'≠.fresh) (ho:x'.own=true->x.own=true) (hmut:∀ o,x'.mut o->x.mut o)
 (hok:Mv J ρ (MX Mo ρ J) w (J.set b x') ρ (MX Mo ρ (J.set b x')) w->SBR (J.set b x') ρ (MX Mo ρ (J.set b x')) w (ρ b) x'):Went Γ Mo ρ J w ρ (J.set b x') w:=by
 have hM:∀ c o,MX Mo ρ (J.set b x') c o->MX Mo ρ J c o:=by
  rintro c o (hm | ⟨i,y,hi,hy,hr,e⟩)
  . exact .inl hm
  . rcases yu6 hi with ⟨rfl,rfl⟩ | ⟨_,hi⟩
    . exact .inr ⟨i,x,hx,hmut o hy,hr,e⟩
    . exact .inr ⟨i,y,hi,hy,hr,e⟩
 have hk:wf2 (MX Mo ρ J) (MX Mo ρ (J.set b x')) w w:=fun c o u h1 h2=>⟨fun hm=>h1 (hM c o hm),h2⟩
 have hm:Mv J ρ (MX Mo ρ J) w (J.set b x') ρ (MX Mo ρ (J.set b x')) w:=⟨fun i hi=>w2t hxf hi,fun _ _=>rfl,hk,Grow.refl w⟩
 have key:∀(k:Nat) (u:SB),(J.set b x')[k]? = some u->u.own=true->∃ u':SB,J[k]? = some u'/\u'.own=true:=fun k u hk hu=>by
  rcases yu6 hk with ⟨rfl,rfl⟩ | ⟨_,hk⟩
  . exact ⟨x,hx,ho hu⟩
  . exact ⟨u,hk,hu⟩
 refine ⟨hm.ok,hm.rho,hk,hm.grow,⟨h.bnd,?_,?_,?_,h.glob.keep hk⟩,Nat.le_refl _,rfl,rfl,rfl,fun _ _ _=>rfl,?_⟩
 . intro i y hi
   rcases yu6 hi with ⟨rfl,rfl⟩ | ⟨_,hi⟩
   . exact hok hm
   . exact (h.blk i y hi).mv hm (fun _ _=>rfl)
 . intro i j y z hi hj hy hz;obtain ⟨y',h1,h2⟩:=key i y hi hy;obtain ⟨z',h3,h4⟩:=key j z hj hz;exact h.inj i j y' z' h1 h3 h2 h4
 . intro i y hi hy;obtain ⟨y',h1,h2⟩:=key i y hi hy;exact h.sep i y' h1 h2
 . rintro k ⟨i,y,hi,hy,hr',e⟩;obtain ⟨y',h1,h2⟩:=key i y hi hy;exact .inr ⟨i,y',h1,h2,hr',e⟩
theorem Went.move (h:HInv Γ Mo ρ J w) {nb:Nat} (hx:J[b]? = some x) (ho:x.own=true) (hf:J[nb]? = some .fresh):Went Γ Mo ρ J w (upd ρ nb (ρ b)) ((J.set b .dead).set nb x) w:=by
 have hxf:x≠.fresh:=fun e=>by rw [e] at ho;cases ho
 have hbn:b≠nb:=fun e=>by rw [e,hf] at hx;cases hx;exact hxf rfl
 have hlb:b<J.length:=(List.getElem?_eq_some_iff.1 hx).1;have hln:nb<J.length:=(List.getElem?_eq_some_iff.1 hf).1
 have key:∀(i:Nat) (y:SB),((J.set b .dead).set nb x)[i]? = some y->(i=nb/\y=x)\/(i≠nb/\i=b/\y=.dead)\/(i≠nb/\i≠b/\J[i]? = some y):=fun i y hi=>by
  rcases yu6 hi with h1 | ⟨hn,hi⟩
  . exact .inl h1
  . rcases yu6 hi with ⟨h2,h3⟩ | ⟨hn',hi⟩
    . exact .inr (.inl ⟨hn,h2,h3⟩)
    . exact .inr (.inr ⟨hn,hn',hi⟩)
 have hold:∀(i:Nat) (y:SB),((J.set b .dead).set nb x)[i]? = some y->y.own=true->∃ j,J[j]? = some y/\upd ρ nb (ρ b) i=ρ j/\(i=nb->j=b)/\(i≠nb->j=i):=fun i y hi hy=>by
  rcases key i y hi with ⟨rfl,rfl⟩ | ⟨hn,rfl,rfl⟩ | ⟨hn,hn',hi⟩
  . exact ⟨b,hx,yr4,fun _=>rfl,fun e=>absurd rfl e⟩
  . cases hy
  . exact ⟨i,hi,zwj hn,fun e=>absurd e hn,fun _=>rfl⟩
 have hM:∀ c o,MX Mo (upd ρ nb (ρ b)) ((J.set b .dead).set nb x) c o->MX Mo ρ J c o:=by
  rintro c o (hm | ⟨i,y,hi,hy,hr,e⟩)
  . exact .inl hm
  . obtain ⟨j,h1,h2,_⟩:=hold i y hi (SB.zgj hy);rw [h2] at hr e;exact .inr ⟨j,y,h1,hy,hr,e⟩
 have hk:wf2 (MX Mo ρ J) (MX Mo (upd ρ nb (ρ b)) ((J.set b .dead).set nb x)) w w:=fun c o u h1 h2=>⟨fun hm=>h1 (hM c o hm),h2⟩
 have hok:∀ i,okB J i->okB ((J.set b .dead).set nb x) i:=fun i hi=>w2t hxf (w2t (by simp) hi)
 have hm:Mv J ρ (MX Mo ρ J) w ((J.set b .dead).set nb x) (upd ρ nb (ρ b)) (MX Mo (upd ρ nb (ρ b)) ((J.set b .dead).set nb x)) w:=
  ⟨hok,fun i hi=>zwj (fun e=>x9f hf (e▸hi)),hk,Grow.refl w⟩
 refine ⟨hm.ok,hm.rho,hk,hm.grow,⟨h.bnd,?_,?_,?_,h.glob.keep hk⟩,Nat.le_refl _,rfl,rfl,rfl,fun _ _ _=>rfl,?_⟩
 . intro i y hi
   rcases key i y hi with ⟨rfl,rfl⟩ | ⟨hn,rfl,rfl⟩ | ⟨hn,hn',hi⟩
   . rw [yr4];exact (h.blk b y hx).mv hm (fun _ _=>rfl)
   . trivial
   . rw [zwj hn];exact (h.blk i y hi).mv hm (fun _ _=>rfl)
 . intro i j y z hi hj hy hz hri hrj e;obtain ⟨i',h1,h2,h3,h4⟩:=hold i y hi hy;obtain ⟨j',h5,h6,h7,h8⟩:=hold j z hj hz;rw [h2] at hri e;rw [h6] at hrj e;have e':=h.inj i' j' y z h1 h5 hy hz hri hrj e;by_cases hin:i=nb
   . by_cases hjn:j=nb
     . rw [hin,hjn]
     . exfalso;rw [h3 hin,h8 hjn] at e'
       rcases key j z hj with ⟨e1,_⟩ | ⟨_,_,rfl⟩ | ⟨_,e1,_⟩
       . exact hjn e1
       . cases hz
       . exact e1 e'.symm
   . by_cases hjn:j=nb
     . exfalso;rw [h7 hjn,h4 hin] at e'
       rcases key i y hi with ⟨e1,_⟩ | ⟨_,_,rfl⟩ | ⟨_,e1,_⟩
       . exact hin e1
       . cases hy
       . exact e1 e'
     . rw [h4 hin,h8 hjn] at e';exact e'
 . intro i y hi hy hr;obtain ⟨j,h1,h2,_⟩:=hold i y hi hy;rw [h2] at hr ⊢;exact h.sep j y h1 hy hr
 . rintro k ⟨i,y,hi,hy,hr,e⟩;obtain ⟨j,h1,h2,_⟩:=hold i y hi hy;rw [h2] at hr e;exact .inr ⟨j,y,h1,hy,hr,e⟩
theorem Went.kill (h:HInv Γ Mo ρ J w) (hx:J[b]? = some x):Went Γ Mo ρ J w ρ (J.set b .dead) w:=
 Went.less h hx (by simp) (by intro h;cases h) (by intro o h;exact h.elim) (fun _=>trivial)
end
end Go.Hp
