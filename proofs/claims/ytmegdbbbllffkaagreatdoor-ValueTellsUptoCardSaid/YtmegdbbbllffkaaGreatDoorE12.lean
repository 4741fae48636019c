/- The proof, part E12: Mq, Mr, Mx, Ja, Jb. -/
import Derived.Test.YtmegdbbbllffkaaGreatDoorE11
import Derived.WalkKit
import Derived.ProofKit
import Derived.OpenShut
import Derived.JoinedCond
import Derived.ChangeBook
import Derived.ChangeStays
namespace Go.Slot
open Go Go.RowKit
variable {P:Program} {G:List (Nat×List Gh)}
variable {f:FuncId} {fn:Func} {c b c':Bool} {res out:AV} {j id:Nat} {I σ0:List AV} {rd tk:List Nat} {e:List (Nat×AV)} {r l ops:List Oper} {ov:OV} {α:Type} {Q:Exit->Bool->List AV->Prop} {x y K:Bool->List AV->Prop} {A B X Y:Bool->Prop} {o:Oper} {rs:List ResultVar}
theorem RC.sound:∀(c:Code) (b:Bool) (Q:Exit->Bool->List AV->Prop) (I:List AV),RC P G c b Q I->vy2 P c (outQ Q) I:=by
 intro c
 induction c with
 | skip=>intro b Q I h;exact wt7 ⟨b,h⟩
 | region id ops dr=>
  intro b Q I h
  cases dr with
  | false=>exact vy2.le (StLe.ghL _ _) (xls (RunF.run _ b _ _ h))
  | true=>exact vy2.le (StLe.ghL _ _) (we5 h.1 (RunG.runD _ b [] _ _ h.2))
 | seq x y ihx ihy=>
  intro b Q I h;have h:seqF (vre G y) (fun _=>zrn P G x y Q I) (fun _=>RC P G x b (w4w (fun b I=>RC P G y b Q I) Q) I):=h
  cases hj:vre G y with
  | true=>rw [hj] at h;exact h
  | false=>
  rw [hj] at h;have h:RC P G x b (w4w (fun b I=>RC P G y b Q I) Q) I:=h;refine zyx ((ihx b _ I h).mono ?_);intro e I' ⟨b',h'⟩
  cases e with
  | normal=>exact ihy b' Q I' h'
  | _=>exact ⟨b',h'⟩
 | cond c x y ihx ihy=>
  intro b Q I h;unfold RC vh9 at h;split at h
  . rename_i p hp;exact v06 hp (fun hb=>ihx _ _ _ (h.1 hb)) (fun hb=>ihy _ _ _ (h.2 hb))
  . exact h.elim
 | block id x ih=>
  intro b Q I h;refine wnx ((ih b _ I h).mono ?_);intro e I' ⟨b',h'⟩
  cases e with
  | exit j=>
   show xi9 id (outQ Q) (.exit j) I';unfold w6d at h';unfold xi9;simp only at h' ⊢;split at h'
   . rename_i hj;simp only [hj];exact ⟨b',h'⟩
   . rename_i hj;simp only [hj];exact ⟨b',h'⟩
  | _=>exact ⟨b',h'⟩
 | loop x ih=>intro b Q I h;exact h
 | exit id=>intro b Q I h;exact vpl ⟨b,h⟩
 | ret=>intro b Q I h;exact xgm ⟨b,h⟩
 | _=>intro b Q I h;exact h.elim
def retC (P:Program) (rs:List ResultVar) (res:AV):Exit->Bool->List AV->Prop
 | .ret,_,I | .normal,_,I=>∃ av,ylc P I rs=some av/\RLe av res
 | _,_,_=>False
theorem yn2.run (G:List (Nat×List Gh)) {c:Code} {args:List AV} (hf:P.funcs[f]? = some fn) (hb:fn.body=some c) (hname:(fn.name == "runtime.NumGoroutine")=false)
 (h:RC P G c true (retC P fn.results.toList res) (zyh (args++List.replicate (fn.ntmps-args.length) .undef))):yn2 P f args res:=by
 rw [wbd] at h;refine yn2.of hf hb hname ((RC.sound c true _ _ h).mono ?_);intro e I ⟨b,h⟩
 cases e with
 | normal=>exact h
 | ret=>exact h
 | _=>exact h.elim
def v0u (P:Program) (rs:List ResultVar) (j:Nat) (out res:AV):Exit->Bool->List AV->Prop
 | .ret,_,I | .normal,_,I=>retX P rs j out res .ret I
 | _,_,_=>False
theorem wmo.run (G:List (Nat×List Gh)) {c:Code} {args:List AV} (hf:P.funcs[f]? = some fn) (hb:fn.body=some c) (hname:(fn.name == "runtime.NumGoroutine")=false)
 (hnt:∀ t,¬out.vjg t) (h:RC P G c true (v0u P fn.results.toList j out res) (zyh (args++List.replicate (fn.ntmps-args.length) .undef))):wmo P f args j out res:=by
 rw [wbd] at h;refine wmo.of hf hb hname hnt ((RC.sound c true _ _ h).mono ?_);intro e I ⟨b,h⟩
 cases e with
 | normal=>exact h
 | ret=>exact h
 | _=>exact h.elim
theorem yn2.le {f:FuncId} {args:List AV} {res res':AV} (h:yn2 P f args res) (hle:RLe res res'):yn2 P f args res':=
 ⟨h.1,fun M w vs hM hr=>(h.2 M w vs hM hr).mono (fun _ _ ⟨v,h1,h2,h3,h4⟩=>⟨v,h1,h2,h3.le hle,fun hh=>h4 (hle.vy8 hh)⟩)⟩
abbrev U {α:Type} (_:α):Type:=Unit
def hide {α:Type} (f:α) (_:U f):α:=f
theorem y23 {f:Bool->Prop} {u:U f}:hide f u b=f b:=_root_.id rfl
theorem xrm {f:Bool->List AV->Prop} {u:U f}:hide f u b I=f b I:=_root_.id rfl
theorem wqf {f:Bool->List Nat->List Nat->List (Nat×AV)->Prop} {u:U f}:hide f u b rd tk e=f b rd tk e:=_root_.id rfl
theorem yqr {f:Bool->AV->Prop} {u:U f} {r:AV}:hide f u b r=f b r:=_root_.id rfl
theorem xa2 {f:Bool->OV->AV->Prop} {u:U f} {n:OV} {r:AV}:hide f u b n r=f b n r:=_root_.id rfl
def nrm (I:List AV):List AV:=I
theorem wlg {a:AV}:nrm (a::I)=a::I:=_root_.id rfl
theorem xm7 {a0 a1 a2 a3 a4 a5 a6 a7 a8 a9 a10 a11 a12 a13 a14 a15:AV} {r:List AV}:nrm (ch a0 a1 a2 a3 a4 a5 a6 a7 a8 a9 a10 a11 a12 a13 a14 a15 r)=ch a0 a1 a2 a3 a4 a5 a6 a7 a8 a9 a10 a11 a12 a13 a14 a15 r:=_root_.id rfl
def nrmR (l:List SR):List SR:=l
theorem wvl:nrmR []=[]:=_root_.id rfl
theorem xed {a:SR} {l:List SR}:nrmR (a::l)=a::l:=_root_.id rfl
def tick {α:Type} (x:α):α:=x
theorem x3h:tick true=true:=_root_.id rfl
theorem wz7:tick false=false:=_root_.id rfl
theorem yvn:tick GR.plain=GR.plain:=_root_.id rfl
theorem znh {d:Nat}:tick (GR.when d c b)=GR.when d c b:=_root_.id rfl
theorem z0a {d:Nat}:tick (GR.skip d)=GR.skip d:=_root_.id rfl
theorem y0y:tick (OR.eff rd tk e)=OR.eff rd tk e:=_root_.id rfl
theorem yom {l:List AV}:tick (OR.call f l rd)=OR.call f l rd:=_root_.id rfl
theorem yne {l:List AV} {s:Nat}:tick (OR.own f l j s ov rd)=OR.own f l j s ov rd:=_root_.id rfl
theorem z1e {c:Cell}:tick (AV.one c)=AV.one c:=_root_.id rfl
theorem xyc {c:Code} (ch:α->List (Nat×AV)) (pre:α->Prop) (μ:α->Nat) (x0:α) (h0:pre x0) (hle:StLe I (app (ch x0) I))
 (round:∀ x,pre x->RC P G c true (w4w (hide (fun _ I'=>∃ y,pre y/\μ y<μ x/\StLe I' (app (ch y) I)) ()) Q) (app (ch x) I)):vvr P G c Q I:=
 yd1 (fun x=>app (ch x) I) pre μ x0 h0 hle (fun x hx=>(RC.sound c true _ _ (round x hx)).mono (fun e I' ⟨b,h⟩=>by
  cases e with
  | normal=>exact h
  | _=>exact ⟨b,h⟩))
theorem vxs {c:Code} (keep:List Nat) (ch:α->List (Nat×AV)) (pre:α->Prop) (μ:α->Nat) (x0:α) (h0:pre x0) (hle:StLe I (app (ch x0) (zjk keep I)))
 (round:∀ x,pre x->RC P G c true (w4w (hide (fun _ I'=>∃ y,pre y/\μ y<μ x/\StLe I' (app (ch y) (zjk keep I))) ()) Q) (zyh (app (ch x) (zjk keep I)))):vvr P G c Q I:=
 yd1 (fun x=>app (ch x) (zjk keep I)) pre μ x0 h0 hle (fun x hx=>(RC.sound c true _ _ (wbd (app (ch x) (zjk keep I))▸round x hx)).mono (fun e I' ⟨b,h⟩=>by
  cases e with
  | normal=>exact h
  | _=>exact ⟨b,h⟩))
theorem zu4 {x y:Code} (keep:List Nat) (ch:α->List (Nat×AV)) (pre:α->Prop)
 (hx:RC P G x true (w4w (hide (fun _ I'=>∃ a,pre a/\StLe I' (app (ch a) (zjk keep I))) ()) Q) I)
 (hy:∀ a,pre a->RC P G y true Q (zyh (app (ch a) (zjk keep I)))):zrn P G x y Q I:=
 zyx ((RC.sound x true _ _ hx).mono (fun e I' ⟨b,h⟩=>by
  cases e with
  | normal=>
   obtain ⟨a,h1,h2⟩:=h;exact vy2.le h2 (RC.sound y true _ _ (wbd (app (ch a) (zjk keep I))▸hy a h1))
  | _=>exact ⟨b,h⟩))
def selE (c:Bool) (x y:Bool->List AV->Prop):Bool->List AV->Prop:=match c with
 | true=>x
 | false=>y
theorem v8t:RC P G .skip true Q I=Q .normal true I:=_root_.id rfl
def ltF (c:Bool) (A:Bool->Prop):Prop:=A c
theorem vdg:ltF true A=A true:=_root_.id rfl
theorem y5s:ltF false A=A false:=_root_.id rfl
theorem zrv (h:c=c'):ltF c A=ltF c' A:=by rw [h]
theorem yxj:RC P G (.region id l.toArray false) true Q I=ltF (tick (wgd (ghOf G id))) (hide (fun lt=>RunF P lt l true l (nrm (ghL (ghOf G id) I)) (Q .normal)) ()):=_root_.id rfl
theorem z2r:RC P G (.region id l.toArray true) true Q I=va1 P (hide (fun _=>ltF (tick (wgd (ghOf G id))) (hide (fun lt=>RunG P lt l (ghL (ghOf G id) I) true l (nrmR []) (nrm (ghL (ghOf G id) I)) (Q .normal)) ())) ()):=_root_.id rfl
theorem vee {x y:Code}:RC P G (.seq x y) true Q I=seqF (tick (vre G y)) (hide (fun _=>zrn P G x y Q I) ()) (hide (fun _=>RC P G x true (w4w (hide (fun b I=>RC P G y b Q I) ()) Q) I) ()):=_root_.id rfl
theorem wen:seqF true A B=A true:=_root_.id rfl
theorem xme:seqF false A B=B true:=_root_.id rfl
theorem yu3 (h:c=c'):seqF c A B=seqF c' A B:=by rw [h]
theorem wzo {x y:Code} {I':List AV} (h:I=I'):zrn P G x y Q I=zrn P G x y Q I':=by rw [h]
theorem zc6 {c:Operand} {x y:Code}:RC P G (.cond c x y) true Q I=vh9 P c I (hide (fun b=>RC P G x b Q I) ()) (hide (fun b=>RC P G y b Q I) ()) (tick (opd I c)):=_root_.id rfl
theorem xqb {x:Code}:RC P G (.block id x) true Q I=RC P G x true (w6d id Q) I:=_root_.id rfl
theorem x8a {x:Code}:RC P G (.loop x) true Q I=vvr P G x Q I:=_root_.id rfl
theorem wu5:RC P G (.exit id) true Q I=Q (.exit id) true I:=_root_.id rfl
theorem vmw:RC P G .ret true Q I=Q .ret true I:=_root_.id rfl
theorem x5v {lt:Bool}:RunF P lt ops true [] I K=K true I:=_root_.id rfl
theorem wa5 {lt:Bool}:RunF P lt ops true (o::r) I K=gdF P lt (tick (vhy ops I o)) o I true (hide (fun b _ _ e=>RunF P lt ops b r (nrm (app e I)) K) ()):=_root_.id rfl
theorem yvg {lt:Bool} {acc:List SR}:RunG P lt ops σ0 true [] acc I K=IndK ops acc σ0 (hide (fun b=>K b I) ()):=_root_.id rfl
theorem w2d {lt:Bool} {acc:List SR}:RunG P lt ops σ0 true (o::r) acc I K=gdF P lt (tick (vhy ops I o)) o I true (hide (fun b rd tk e=>RunG P lt ops σ0 b r (nrmR (acc++[⟨rd,tk,e⟩])) (nrm (app e I)) K) ()):=_root_.id rfl
section
variable {next:Bool->List AV->Prop} {Q:Exit->Bool->List AV->Prop}
theorem wkb:w4w next Q .normal=next:=_root_.id rfl
theorem y24:w4w next Q (.exit id)=Q (.exit id):=_root_.id rfl
theorem wpv:w4w next Q .ret=Q .ret:=_root_.id rfl
theorem zz5:w6d id Q .normal=Q .normal:=_root_.id rfl
theorem x70:w6d id Q (.exit j)=selE (j==id) (Q .normal) (Q (.exit j)):=by
 have h:w6d id Q (.exit j)=if j=id then Q .normal else Q (.exit j):=rfl
 rw [h];unfold selE;by_cases e:j=id
 . rw [if_pos e,show (j==id)=true from by simp [e]]
 . rw [if_neg e,show (j==id)=false from by simp [e]]
theorem ytv:selE true x y=x:=rfl
theorem v8r:selE false x y=y:=rfl
theorem w4y (h:c=c'):selE c x y=selE c' x y:=by rw [h]
theorem vo0:w6d id Q .ret=Q .ret:=_root_.id rfl
end
section
variable {o:Oper} {I:List AV} {b:Bool} {k:Bool->List Nat->List Nat->List (Nat×AV)->Prop} {rd tk:List Nat} {e:List (Nat×AV)} {f:FuncId} {args:List AV}
theorem z8f:doF P (.eff rd tk e) o I b k=k b rd tk e:=_root_.id rfl
theorem x88:doF P (.call f args rd) o I b k=zqq P f args (hide (fun b res=>k b rd [] (x93 o res)) ()):=_root_.id rfl
theorem xc9 {l:List AV} {s:Nat}:doF P (.own f l j s ov rd) o I b k=OwnK P f l j ov (hide (fun b new res=>ownF o I s rd k b (vpn (gt I s) ov new) (y47 s ov res)) ()):=_root_.id rfl
theorem zgu {s:Nat} {nw r:AV}:ownF o I s rd k b (some nw) (some r)=k b rd [] ((s,nw)::x93 o r):=_root_.id rfl
theorem zb7 {d:Nat}:onD d o I k b rd [] e=k b (d::rd) [] e:=_root_.id rfl
theorem vny {lt:Bool}:gdF P lt .plain o I b k=doF P (tick (opA P lt I o)) o I b k:=_root_.id rfl
theorem zwv {lt:Bool} {d:Nat} {b':Bool}:gdF P lt (.when d c b') o I b k=x4q c b' (hide (fun b=>doF P (tick (opA P lt I o)) o I b (hide (fun b rd tk e=>onD d o I k b rd tk e) ())) ()) (hide (fun b=>yiq I o d b k) ()):=_root_.id rfl
theorem wwq {lt:Bool} {d:Nat}:gdF P lt (.skip d) o I b k=yiq I o d b k:=_root_.id rfl
end
theorem zfq:x4q true true X Y=X true:=by simp [x4q]
theorem xsl:x4q false false X Y=X true:=by simp [x4q]
theorem wlk:x4q true false X Y=Y true:=by simp [x4q]
theorem vv3:x4q false true X Y=Y true:=by simp [x4q]
theorem zpe:x29 true X Y=X true:=by simp [x29]
theorem vey:x29 false X Y=Y true:=by simp [x29]
theorem xx2 {c:Operand} {p:Bool}:vh9 P c I X Y (.one (.raw (.bool p)))=x29 p X Y:=_root_.id rfl
theorem wu6:retC P rs res .ret b I=∃ av,ylc P I rs=some av/\RLe av res:=_root_.id rfl
theorem yju:v0u P rs j out res .ret b I=retX P rs j out res .ret I:=_root_.id rfl
section
variable {o o':Oper} {I I':List AV} {b:Bool} {k:Bool->List Nat->List Nat->List (Nat×AV)->Prop}
theorem z8u {x x':OR} (h:x=x'):doF P x o I b k=doF P x' o I b k:=by rw [h]
theorem zhc (h:c=c'):x29 c X Y=x29 c' X Y:=by rw [h]
theorem xkf {s:Nat} {a a' r r':Option AV} (h:a=a') (h2:r=r'):ownF o I s rd k b a r=ownF o I s rd k b a' r':=by rw [h,h2]
theorem ydm {lt:Bool} (h:I=I'):RunF P lt ops b l I K=RunF P lt ops b l I' K:=by rw [h]
theorem xwc {lt:Bool} {acc acc':List SR} (ha:acc=acc') (h:I=I'):RunG P lt ops σ0 b l acc I K=RunG P lt ops σ0 b l acc' I' K:=by rw [h,ha]
end
end Go.Slot
namespace Go.Slot
open Go Go.RowKit
variable {P:Program}
variable {a c q:Prop} {I:List AV} {i:Nat} {k:IntKind} {b:Bool} {f:FuncId} {α β:Type} {X Y:Bool->Prop}
theorem z7u {a:AV}:gt (a::I) 0=a:=rfl
theorem x7v {a:AV} {n:Nat}:gt (a::I) (n+1)=gt I n:=rfl
theorem ypr {a:AV}:nh (a::I) 0 = !a.vy8:=rfl
theorem v70 {a:AV} {n:Nat}:nh (a::I) (n+1)=nh I n:=rfl
section
variable {a0 a1 a2 a3 a4 a5 a6 a7 a8 a9 a10 a11 a12 a13 a14 a15 x:AV} {r:List AV} {n:Nat}
theorem xio:gt (ch a0 a1 a2 a3 a4 a5 a6 a7 a8 a9 a10 a11 a12 a13 a14 a15 r) 0=a0:=rfl
theorem znw:nh (ch a0 a1 a2 a3 a4 a5 a6 a7 a8 a9 a10 a11 a12 a13 a14 a15 r) 0 = !a0.vy8:=rfl
theorem xvc:(ch a0 a1 a2 a3 a4 a5 a6 a7 a8 a9 a10 a11 a12 a13 a14 a15 r).set 0 x=ch x a1 a2 a3 a4 a5 a6 a7 a8 a9 a10 a11 a12 a13 a14 a15 r:=rfl
theorem w2z:gt (ch a0 a1 a2 a3 a4 a5 a6 a7 a8 a9 a10 a11 a12 a13 a14 a15 r) 1=a1:=rfl
theorem zly:nh (ch a0 a1 a2 a3 a4 a5 a6 a7 a8 a9 a10 a11 a12 a13 a14 a15 r) 1 = !a1.vy8:=rfl
theorem xgh:(ch a0 a1 a2 a3 a4 a5 a6 a7 a8 a9 a10 a11 a12 a13 a14 a15 r).set 1 x=ch a0 x a2 a3 a4 a5 a6 a7 a8 a9 a10 a11 a12 a13 a14 a15 r:=rfl
theorem wqs:gt (ch a0 a1 a2 a3 a4 a5 a6 a7 a8 a9 a10 a11 a12 a13 a14 a15 r) 2=a2:=rfl
theorem y84:nh (ch a0 a1 a2 a3 a4 a5 a6 a7 a8 a9 a10 a11 a12 a13 a14 a15 r) 2 = !a2.vy8:=rfl
theorem y0x:(ch a0 a1 a2 a3 a4 a5 a6 a7 a8 a9 a10 a11 a12 a13 a14 a15 r).set 2 x=ch a0 a1 x a3 a4 a5 a6 a7 a8 a9 a10 a11 a12 a13 a14 a15 r:=rfl
theorem x3l:gt (ch a0 a1 a2 a3 a4 a5 a6 a7 a8 a9 a10 a11 a12 a13 a14 a15 r) 3=a3:=rfl
theorem z0s:nh (ch a0 a1 a2 a3 a4 a5 a6 a7 a8 a9 a10 a11 a12 a13 a14 a15 r) 3 = !a3.vy8:=rfl
theorem x48:(ch a0 a1 a2 a3 a4 a5 a6 a7 a8 a9 a10 a11 a12 a13 a14 a15 r).set 3 x=ch a0 a1 a2 x a4 a5 a6 a7 a8 a9 a10 a11 a12 a13 a14 a15 r:=rfl
theorem z5g:gt (ch a0 a1 a2 a3 a4 a5 a6 a7 a8 a9 a10 a11 a12 a13 a14 a15 r) 4=a4:=rfl
theorem yrg:nh (ch a0 a1 a2 a3 a4 a5 a6 a7 a8 a9 a10 a11 a12 a13 a14 a15 r) 4 = !a4.vy8:=rfl
theorem vja:(ch a0 a1 a2 a3 a4 a5 a6 a7 a8 a9 a10 a11 a12 a13 a14 a15 r).set 4 x=ch a0 a1 a2 a3 x a5 a6 a7 a8 a9 a10 a11 a12 a13 a14 a15 r:=rfl
theorem yfr:gt (ch a0 a1 a2 a3 a4 a5 a6 a7 a8 a9 a10 a11 a12 a13 a14 a15 r) 5=a5:=rfl
theorem v8p:nh (ch a0 a1 a2 a3 a4 a5 a6 a7 a8 a9 a10 a11 a12 a13 a14 a15 r) 5 = !a5.vy8:=rfl
theorem zg7:(ch a0 a1 a2 a3 a4 a5 a6 a7 a8 a9 a10 a11 a12 a13 a14 a15 r).set 5 x=ch a0 a1 a2 a3 a4 x a6 a7 a8 a9 a10 a11 a12 a13 a14 a15 r:=rfl
theorem w3f:gt (ch a0 a1 a2 a3 a4 a5 a6 a7 a8 a9 a10 a11 a12 a13 a14 a15 r) 6=a6:=rfl
theorem x9x:nh (ch a0 a1 a2 a3 a4 a5 a6 a7 a8 a9 a10 a11 a12 a13 a14 a15 r) 6 = !a6.vy8:=rfl
theorem xb5:(ch a0 a1 a2 a3 a4 a5 a6 a7 a8 a9 a10 a11 a12 a13 a14 a15 r).set 6 x=ch a0 a1 a2 a3 a4 a5 x a7 a8 a9 a10 a11 a12 a13 a14 a15 r:=rfl
theorem vo1:gt (ch a0 a1 a2 a3 a4 a5 a6 a7 a8 a9 a10 a11 a12 a13 a14 a15 r) 7=a7:=rfl
theorem xd5:nh (ch a0 a1 a2 a3 a4 a5 a6 a7 a8 a9 a10 a11 a12 a13 a14 a15 r) 7 = !a7.vy8:=rfl
theorem w5i:(ch a0 a1 a2 a3 a4 a5 a6 a7 a8 a9 a10 a11 a12 a13 a14 a15 r).set 7 x=ch a0 a1 a2 a3 a4 a5 a6 x a8 a9 a10 a11 a12 a13 a14 a15 r:=rfl
theorem zfg:gt (ch a0 a1 a2 a3 a4 a5 a6 a7 a8 a9 a10 a11 a12 a13 a14 a15 r) 8=a8:=rfl
theorem ww3:nh (ch a0 a1 a2 a3 a4 a5 a6 a7 a8 a9 a10 a11 a12 a13 a14 a15 r) 8 = !a8.vy8:=rfl
theorem ym1:(ch a0 a1 a2 a3 a4 a5 a6 a7 a8 a9 a10 a11 a12 a13 a14 a15 r).set 8 x=ch a0 a1 a2 a3 a4 a5 a6 a7 x a9 a10 a11 a12 a13 a14 a15 r:=rfl
theorem zn7:gt (ch a0 a1 a2 a3 a4 a5 a6 a7 a8 a9 a10 a11 a12 a13 a14 a15 r) 9=a9:=rfl
theorem zga:nh (ch a0 a1 a2 a3 a4 a5 a6 a7 a8 a9 a10 a11 a12 a13 a14 a15 r) 9 = !a9.vy8:=rfl
theorem y04:(ch a0 a1 a2 a3 a4 a5 a6 a7 a8 a9 a10 a11 a12 a13 a14 a15 r).set 9 x=ch a0 a1 a2 a3 a4 a5 a6 a7 a8 x a10 a11 a12 a13 a14 a15 r:=rfl
theorem x2d:gt (ch a0 a1 a2 a3 a4 a5 a6 a7 a8 a9 a10 a11 a12 a13 a14 a15 r) 10=a10:=rfl
theorem zzi:nh (ch a0 a1 a2 a3 a4 a5 a6 a7 a8 a9 a10 a11 a12 a13 a14 a15 r) 10 = !a10.vy8:=rfl
theorem xnz:(ch a0 a1 a2 a3 a4 a5 a6 a7 a8 a9 a10 a11 a12 a13 a14 a15 r).set 10 x=ch a0 a1 a2 a3 a4 a5 a6 a7 a8 a9 x a11 a12 a13 a14 a15 r:=rfl
theorem vei:gt (ch a0 a1 a2 a3 a4 a5 a6 a7 a8 a9 a10 a11 a12 a13 a14 a15 r) 11=a11:=rfl
theorem zmn:nh (ch a0 a1 a2 a3 a4 a5 a6 a7 a8 a9 a10 a11 a12 a13 a14 a15 r) 11 = !a11.vy8:=rfl
theorem xy7:(ch a0 a1 a2 a3 a4 a5 a6 a7 a8 a9 a10 a11 a12 a13 a14 a15 r).set 11 x=ch a0 a1 a2 a3 a4 a5 a6 a7 a8 a9 a10 x a12 a13 a14 a15 r:=rfl
theorem zdo:gt (ch a0 a1 a2 a3 a4 a5 a6 a7 a8 a9 a10 a11 a12 a13 a14 a15 r) 12=a12:=rfl
theorem yk9:nh (ch a0 a1 a2 a3 a4 a5 a6 a7 a8 a9 a10 a11 a12 a13 a14 a15 r) 12 = !a12.vy8:=rfl
theorem yx4:(ch a0 a1 a2 a3 a4 a5 a6 a7 a8 a9 a10 a11 a12 a13 a14 a15 r).set 12 x=ch a0 a1 a2 a3 a4 a5 a6 a7 a8 a9 a10 a11 x a13 a14 a15 r:=rfl
theorem xf3:gt (ch a0 a1 a2 a3 a4 a5 a6 a7 a8 a9 a10 a11 a12 a13 a14 a15 r) 13=a13:=rfl
theorem vq7:nh (ch a0 a1 a2 a3 a4 a5 a6 a7 a8 a9 a10 a11 a12 a13 a14 a15 r) 13 = !a13.vy8:=rfl
theorem x26:(ch a0 a1 a2 a3 a4 a5 a6 a7 a8 a9 a10 a11 a12 a13 a14 a15 r).set 13 x=ch a0 a1 a2 a3 a4 a5 a6 a7 a8 a9 a10 a11 a12 x a14 a15 r:=rfl
theorem vy3:gt (ch a0 a1 a2 a3 a4 a5 a6 a7 a8 a9 a10 a11 a12 a13 a14 a15 r) 14=a14:=rfl
theorem xnv:nh (ch a0 a1 a2 a3 a4 a5 a6 a7 a8 a9 a10 a11 a12 a13 a14 a15 r) 14 = !a14.vy8:=rfl
theorem yur:(ch a0 a1 a2 a3 a4 a5 a6 a7 a8 a9 a10 a11 a12 a13 a14 a15 r).set 14 x=ch a0 a1 a2 a3 a4 a5 a6 a7 a8 a9 a10 a11 a12 a13 x a15 r:=rfl
theorem xs3:gt (ch a0 a1 a2 a3 a4 a5 a6 a7 a8 a9 a10 a11 a12 a13 a14 a15 r) 15=a15:=rfl
theorem xgf:nh (ch a0 a1 a2 a3 a4 a5 a6 a7 a8 a9 a10 a11 a12 a13 a14 a15 r) 15 = !a15.vy8:=rfl
theorem wh8:(ch a0 a1 a2 a3 a4 a5 a6 a7 a8 a9 a10 a11 a12 a13 a14 a15 r).set 15 x=ch a0 a1 a2 a3 a4 a5 a6 a7 a8 a9 a10 a11 a12 a13 a14 x r:=rfl
theorem vm8:gt (ch a0 a1 a2 a3 a4 a5 a6 a7 a8 a9 a10 a11 a12 a13 a14 a15 r) (n+16)=gt r n:=rfl
theorem v2u:nh (ch a0 a1 a2 a3 a4 a5 a6 a7 a8 a9 a10 a11 a12 a13 a14 a15 r) (n+16)=nh r n:=rfl
theorem zo2:(ch a0 a1 a2 a3 a4 a5 a6 a7 a8 a9 a10 a11 a12 a13 a14 a15 r).set (n+16) x=ch a0 a1 a2 a3 a4 a5 a6 a7 a8 a9 a10 a11 a12 a13 a14 a15 (r.set n x):=rfl
theorem vn8:zyh (a0::a1::a2::a3::a4::a5::a6::a7::a8::a9::a10::a11::a12::a13::a14::a15::r)=ch a0 a1 a2 a3 a4 a5 a6 a7 a8 a9 a10 a11 a12 a13 a14 a15 (zyh r):=rfl
theorem x7p:zyh (ch a0 a1 a2 a3 a4 a5 a6 a7 a8 a9 a10 a11 a12 a13 a14 a15 r)=ch a0 a1 a2 a3 a4 a5 a6 a7 a8 a9 a10 a11 a12 a13 a14 a15 (zyh r):=rfl
theorem x1y:zyh []=[]:=rfl
theorem xdo:zyh [a0]=[a0]:=rfl
theorem vlj:zyh [a0,a1]=[a0,a1]:=rfl
theorem zt5:zyh [a0,a1,a2]=[a0,a1,a2]:=rfl
theorem xj8:zyh [a0,a1,a2,a3]=[a0,a1,a2,a3]:=rfl
theorem wmp:zyh [a0,a1,a2,a3,a4]=[a0,a1,a2,a3,a4]:=rfl
theorem y66:zyh [a0,a1,a2,a3,a4,a5]=[a0,a1,a2,a3,a4,a5]:=rfl
theorem we8:zyh [a0,a1,a2,a3,a4,a5,a6]=[a0,a1,a2,a3,a4,a5,a6]:=rfl
theorem wop:zyh [a0,a1,a2,a3,a4,a5,a6,a7]=[a0,a1,a2,a3,a4,a5,a6,a7]:=rfl
theorem vcc:zyh [a0,a1,a2,a3,a4,a5,a6,a7,a8]=[a0,a1,a2,a3,a4,a5,a6,a7,a8]:=rfl
theorem vx1:zyh [a0,a1,a2,a3,a4,a5,a6,a7,a8,a9]=[a0,a1,a2,a3,a4,a5,a6,a7,a8,a9]:=rfl
theorem ya8:zyh [a0,a1,a2,a3,a4,a5,a6,a7,a8,a9,a10]=[a0,a1,a2,a3,a4,a5,a6,a7,a8,a9,a10]:=rfl
theorem xb4:zyh [a0,a1,a2,a3,a4,a5,a6,a7,a8,a9,a10,a11]=[a0,a1,a2,a3,a4,a5,a6,a7,a8,a9,a10,a11]:=rfl
theorem won:zyh [a0,a1,a2,a3,a4,a5,a6,a7,a8,a9,a10,a11,a12]=[a0,a1,a2,a3,a4,a5,a6,a7,a8,a9,a10,a11,a12]:=rfl
theorem vsp:zyh [a0,a1,a2,a3,a4,a5,a6,a7,a8,a9,a10,a11,a12,a13]=[a0,a1,a2,a3,a4,a5,a6,a7,a8,a9,a10,a11,a12,a13]:=rfl
theorem xyg:zyh [a0,a1,a2,a3,a4,a5,a6,a7,a8,a9,a10,a11,a12,a13,a14]=[a0,a1,a2,a3,a4,a5,a6,a7,a8,a9,a10,a11,a12,a13,a14]:=rfl
theorem vzx {tk:List Nat}:zrx tk i (ch a0 a1 a2 a3 a4 a5 a6 a7 a8 a9 a10 a11 a12 a13 a14 a15 r)=zrx tk i (a0::a1::a2::a3::a4::a5::a6::a7::a8::a9::a10::a11::a12::a13::a14::a15::r):=rfl
theorem y6c {s:Nat}:w5h s i (ch a0 a1 a2 a3 a4 a5 a6 a7 a8 a9 a10 a11 a12 a13 a14 a15 r)=w5h s i (a0::a1::a2::a3::a4::a5::a6::a7::a8::a9::a10::a11::a12::a13::a14::a15::r):=rfl
theorem w4p {s:Nat} {hv:AV}:ye6 s hv i (ch a0 a1 a2 a3 a4 a5 a6 a7 a8 a9 a10 a11 a12 a13 a14 a15 r)=ye6 s hv i (a0::a1::a2::a3::a4::a5::a6::a7::a8::a9::a10::a11::a12::a13::a14::a15::r):=rfl
theorem x75 {s:Nat}:vgm s i (ch a0 a1 a2 a3 a4 a5 a6 a7 a8 a9 a10 a11 a12 a13 a14 a15 r)=vgm s i (a0::a1::a2::a3::a4::a5::a6::a7::a8::a9::a10::a11::a12::a13::a14::a15::r):=rfl
theorem wfj {ks:List Nat}:z9t ks i (ch a0 a1 a2 a3 a4 a5 a6 a7 a8 a9 a10 a11 a12 a13 a14 a15 r)=z9t ks i (a0::a1::a2::a3::a4::a5::a6::a7::a8::a9::a10::a11::a12::a13::a14::a15::r):=rfl
end
attribute [go_sem] xio znw xvc w2z zly xgh wqs y84 y0x x3l z0s x48 z5g yrg vja yfr v8p zg7 w3f x9x xb5 vo1 xd5 w5i zfg ww3 ym1 zn7 zga y04 x2d zzi xnz vei zmn xy7 zdo yk9 yx4 xf3 vq7 x26 vy3 xnv yur xs3 xgf wh8 vm8 v2u zo2 vn8 x7p x1y xdo vlj zt5 xj8 wmp y66 we8 wop vcc vx1 ya8 xb4 won vsp xyg vzx y6c w4p x75 wfj
theorem xty:app [] I=I:=rfl
theorem x6l {p:Nat×AV} {r:List (Nat×AV)}:app (p::r) I=app r (I.set p.1 p.2):=rfl
theorem v8n {t:Nat}:opd I (.tmp t)=gt I t:=rfl
theorem wn2 {n:Int}:opd I (.const (.int k n))=.one (.raw (.int k n)):=rfl
theorem vfo:opd I (.const (.bool b))=.one (.raw (.bool b)):=rfl
theorem w2y {s:ByteArray}:opd I (.const (.string s))=.one (.raw (.string s)):=rfl
theorem zbl {a:Option Addr} {l c:Nat}:opd I (.const (.slice a l c))=.one (.raw (.slice a l c)):=rfl
theorem ylu {vs:Array Value}:opd I (.const (.agg vs))=wx7 (.agg vs):=rfl
theorem z09:opd I (.func f)=.one (.raw (.func (.func f) #[] #[])):=rfl
theorem vut {o:Oper} {rd:List Nat} {av:AV}:val I o rd av=match o.dst with
 | some d=>if nh I d then some (d::rd,[(d,av)]) else none
 | none=>none:=rfl
theorem zws {x:List Nat×List (Nat×AV)}:OR.of (some x)=.eff x.1 [] x.2:=rfl
theorem v8q:OR.of none=.bad:=rfl
theorem ykg {s b:Nat} {z:List Cell} {sh:Sh}:TI.many ⟨s,b,z,sh⟩=if sh.agg then some true else if sh.plain then some false else none:=rfl
theorem yqx {t:TypeId} {ti:TI} (h:mkTI P t=some ti) {k:TI->OR}:zl2 P t k=k ti:=by unfold zl2;rw [h]
theorem yim [Decidable c] {a b:α} (h:c):(if c then a else b)=a:=if_pos h
theorem xrz [Decidable c] {a b:α} (h:¬c):(if c then a else b)=b:=if_neg h
theorem w64 {n:Int} (h:-9223372036854775808<=n/\n<=9223372036854775807):IntKind.i64.wrap n=n:=by rw [IntKind.wrap_i64];omega
theorem xha (f:α->β) (a:α):(some a).map f=some (f a):=rfl
theorem xpe (f:α->β):(none:Option α).map f=none:=rfl
theorem wjx (f:α->Option β) (a:α):(some a).bind f=f a:=rfl
theorem beqI {a b:Int}:(a==b)=decide (a=b):=rfl
theorem bneI {a b:Int}:(a != b)=decide (a≠b):=by simp [bne,beqI]
theorem z4u {p:Prop} [Decidable p] (hx:p->X true) (hy:¬p->Y true):x4q (decide p) true X Y:=⟨fun h=>hx (of_decide_eq_true h),fun h=>hy (of_decide_eq_false h)⟩
theorem xjr {p:Prop} [Decidable p] (hx:¬p->X true) (hy:p->Y true):x4q (decide p) false X Y:=⟨fun h=>hx (of_decide_eq_false h),fun h=>hy (of_decide_eq_true h)⟩
theorem xdc {a b:α}:(bif true then a else b)=a:=rfl
theorem yov {a b:α}:(bif false then a else b)=b:=rfl
attribute [go_sem 100] yim xrz
attribute [go_sem 10000] if_true if_false
attribute [go_sem] w64
attribute [go_sem] beqI bneI xdc yov
attribute [go_sem ↓] v8t yxj z2r vee zc6 xqb x8a wu5 vmw
attribute [go_sem] x5v wa5 yvg w2d wlg xm7 wvl xed
attribute [go_sem ↓] y23 xrm wqf yqr xa2
attribute [go_sem] x3h wz7 yvn znh z0a y0y yom yne z1e
attribute [go_sem ↓] wkb y24 wpv zz5 x70 vo0
attribute [go_sem] ytv v8r
attribute [go_sem] z8f x88 xc9 zgu yju zb7 vny zwv wwq
attribute [go_sem] zfq xsl wlk vv3 zpe vey xx2 wu6
attribute [congr] zrv w4y yu3 wzo xkf z8u zhc ydm xwc
attribute [go_sem] z7u x7v ypr v70 xty x6l v8n wn2 vfo w2y zbl ylu z09 vut zws v8q ykg
attribute [go_sem] xha xpe wjx List.set_cons_zero List.set_cons_succ Option.getD_some Option.getD_none List.getElem?_cons_zero List.getElem?_cons_succ List.getElem?_nil
attribute [go_sem] zzy z2i Cell.y7u vpn y47 ghOf ghL ghA ysb frz ye6 ypi AV.frzd Cell.sub Cell.at Cell.upd Cell.cnt Cell.esz AV.xns AV.zca AV.fresh yla AV.xb8 y42
attribute [go_sem] vdg y5s wen xme vre wu4 wps zjk z9t anyH yr1 vct isK
attribute [go_sem] opA opA0 opL selO litA litB litE isNone wgd yo1 isZc zcAt ownN ysg isX opX nilO nilV tiX valX maxV eqOp vim bbA yj0 vtr xja nilA nilC xd4 x12 xzn hitB xsc vgm wsh mvS AV.rf
attribute [go_sem] vhy yiq opB vofA vofB yy6 y6x xjd cpy v9q zj8 v7m xmq zjj wii wo5 elemAt veh abin binA aun unA xck lenC lenA y3p wlh Cell.isSl natA ytz orrO cutC w6c vzm
attribute [go_sem] wiu vn5 orrs placeOf yzs xdp chunk v8c zi5 xo9 xtc y5i ownC v22 yal wmf wlm argA x1v orrL v9o x93 yro xfw orr AV.vy8 AV.yk7 AV.vfv Sh.agg Sh.plain Cell.bare zcr wx7
attribute [go_sem] xj5 wjv ylc AV.wo7 vpo Cell.wo7 AV.vn9
attribute [go_sem] List.take_succ_cons List.take_zero List.drop_succ_cons List.drop_zero List.drop_nil List.take_nil List.length_cons List.length_nil List.cons_append List.nil_append List.append_nil List.all_cons List.all_nil List.map_cons List.map_nil
theorem bq2:(b==true)=b:=by cases b<;>rfl
theorem bq4:(b==false) = !b:=by cases b<;>rfl
theorem bq6:(b != true) = !b:=by cases b<;>rfl
theorem bq8:(b != false)=b:=by cases b<;>rfl
attribute [go_sem] bq2 bq4 bq6 bq8 List.foldl_cons List.foldl_nil AV.strip Cell.strip vvn
attribute [go_sem] Bool.not_true Bool.not_false Bool.false_eq_true Bool.true_and Bool.and_true Bool.false_and Bool.and_false true_and and_true and_self cond_true cond_false not_true_eq_false not_false_eq_true
attribute [go_sem] Nat.zero_add Nat.add_zero List.drop_length List.take_length List.length_set List.length_replicate
attribute [go_sem] decide_true decide_false beq_self_eq_true bne_self_eq_false Option.toList Int.toNat_natCast List.toList_toArray
theorem rg {p:Prop} (k:q) (h:p=q:=by conv=>lhs;simp (maxSteps:=2000000) (disch:=omega) only [go_sem,Nat.reduceAdd,Nat.reduceSub,Nat.reduceMul,Int.reduceToNat,Nat.reduceEqDiff,Nat.reduceBEq,Nat.reduceBneDiff]):p:=Eq.mpr h k
theorem rgR {p:Prop} (k:q) (h:p=q:=by conv=>lhs;simp (maxSteps:=2000000) (disch:=omega) only [go_sem,Nat.reduceAdd,Nat.reduceSub,Nat.reduceMul,Int.reduceToNat,Nat.reduceEqDiff,Nat.reduceBEq,Nat.reduceBneDiff,List.replicate]):p:=Eq.mpr h k
theorem rg1 {p:Prop} (ra:a) (k:q) (h:a->p=q:=by intro z1;conv=>lhs;simp (maxSteps:=2000000) (disch:=omega) only [go_sem,Nat.reduceAdd,Nat.reduceSub,Nat.reduceMul,Int.reduceToNat,Nat.reduceEqDiff,Nat.reduceBEq,Nat.reduceBneDiff,z1]):p:=Eq.mpr (h ra) k
theorem rg2 {b p:Prop} (ra:a) (rb:b) (k:q) (h:a->b->p=q:=by intro z1 z2;conv=>lhs;simp (maxSteps:=2000000) (disch:=omega) only [go_sem,Nat.reduceAdd,Nat.reduceSub,Nat.reduceMul,Int.reduceToNat,Nat.reduceEqDiff,Nat.reduceBEq,Nat.reduceBneDiff,z1,z2]):p:=Eq.mpr (h ra rb) k
theorem rg3 {b p:Prop} (ra:a) (rb:b) (rc:c) (k:q) (h:a->b->c->p=q:=by intro z1 z2 z3;conv=>lhs;simp (maxSteps:=2000000) (disch:=omega) only [go_sem,Nat.reduceAdd,Nat.reduceSub,Nat.reduceMul,Int.reduceToNat,Nat.reduceEqDiff,Nat.reduceBEq,Nat.reduceBneDiff,z1,z2,z3]):p:=Eq.mpr (h ra rb rc) k
theorem yn2.zrt {res:AV} (h:∀ b,yn2 P f [.one (.nn b)] res):yn2 P f [.one (.ints k [])] res:=by
 refine ⟨(h true).1,fun M w vs hM hr=>?_⟩
 match vs,hr with
 | [v],hr=>
  have hv:RdC M w v (.ints k []):=hr.1
  cases hv with
  | @ints a len cap _ _ b off hl hc ha hh=>
   subst hl;exact (h a.isNone).2 M w _ hM ⟨(RdC.nn:RdC M w (.slice a 0 cap) (.nn a.isNone)),trivial⟩
end Go.Slot
namespace Go.Slot
open Go Go.RowKit Go.ChangeShapes
variable {P:Program} {H:Type} {enc:TypeId×Value->H} {w:World} {spare:Nat->Bool} {held:Bool}
variable {a:Addr}
inductive Sp where
 | int (k:IntKind)
 | bool
 | str
 | ints (k:IntKind)
 | sl (l:List Sp)
inductive Fit (N:Nat):Sp->Cell->Prop
 | int {k:IntKind} {n:Int} (h:k.min<=n/\n<=k.max):Fit N (.int k) (.raw (.int k n))
 | bool {b:Bool}:Fit N .bool (.raw (.bool b))
 | str {s:ByteArray} (h:s.size<=N):Fit N .str (.raw (.string s))
 | ints {k:IntKind} {L:List Int} (hl:L.length<=N) (h:∀ x∈L,k.min<=x/\x<=k.max):Fit N (.ints k) (.ints k L)
 | sl {l:List Sp} {rows:List (List Cell)} (hl:rows.length<=N) (hlen:∀ r∈rows,r.length=l.length) (h:∀(r:List Cell),r∈rows->∀(i:Nat) (s:Sp) (c:Cell),l[i]? = some s->r[i]? = some c->Fit N s c):Fit N (.sl l) (.sl l.length rows)
def FitL (N:Nat) (l:List Sp) (cs:List Cell):Prop:=cs.length=l.length/\∀(i:Nat) (s:Sp) (c:Cell),l[i]? = some s->cs[i]? = some c->Fit N s c
theorem FitL.one {N:Nat} {s:Sp} {c:Cell} (h:Fit N s c):FitL N [s] [c]:=⟨rfl,fun i s' c' hs hc=>by
 cases i with
 | zero=>simp at hs hc;subst hs hc;exact h
 | succ i=>simp at hs⟩
structure Bulk (bk:DataW H->Nat):Prop where
 str:∀ b,b.length<=bk (.lit (.string b))
 elems:∀ l r,l.length<=bk (.slice l r)
 elem:∀ l r d,d∈l->bk d<=bk (.slice l r)
 part:∀ l d,d∈l->bk d<=bk (.agg l)
theorem RdD.app0 {M:Nat->Nat->Prop} {w:World}:∀{vs us:List Value} {cs ds:List Cell},RdD M w vs cs->RdD M w us ds->RdD M w (vs++us) (cs++ds)
 | [],_,[],_,_,h=>h
 | _::_,_,_::_,_,h,h'=>⟨h.1,RdD.app0 h.2 h'⟩
theorem cellAt {v:Value} (h:w.cell? a=some v):a.spot=none:=by
 unfold World.cell? at h;split at h
 . split at h
   . cases h
   . rename_i hs;simpa using hs
 . cases h
theorem addrAt (h:a.spot=none) (n:Nat):a.add n=⟨a.block,a.off+n,none⟩:=by
 unfold Addr.add
 split
 . rename_i e;subst e;cases a;simp at h;subst h;rfl
 . rfl
section
variable {bk:DataW H->Nat} {N:Nat}
end
end Go.Slot
namespace Go.Slot
open Go Go.RowKit Go.ChangeShapes Go.WideShapes
variable {P:Program} {H:Type} {enc:TypeId×Value->H}
variable {W W':World}
def M0:Nat->Nat->Prop:=fun _ _=>False
section
variable {w:World} {spare:Nat->Bool} {held:Bool} {bk:DataW H->Nat} {N:Nat} {r:Reach} {b0:Nat}
end
theorem ylr (hl:laidOutB P=true) {W W':World} (hb:Below W.heap.size W W') {sp:Nat->Bool}:∀{ts:List TypeId} {vs:List Value} {ds:List (DataW H)} {ps:List MemPlace},(∀ t∈ts,P.readableRec t=true/\t<P.types.size)->
 DataW.TrodAll enc P W 0 (fun _=>true) true ts vs ds ps->(∀ p∈ps,p.block<W.heap.size)->(∀ p∈ps,sp p.block=true)->DataW.TrodAll enc P W' 0 sp true ts vs ds ps
 | [],vs,ds,ps,_,h,_,_=>by
  obtain ⟨rfl,rfl,rfl⟩:=trodAll_nil h;exact trodAll_mk0
 | t::ts,vs,ds,ps,hts,h,hlt,hsp=>by
  obtain ⟨v,vs',d,ds',p,q,rfl,rfl,rfl,⟨fuel,h1⟩,h2⟩:=trodAll_cons h;have ht:=hts t (by simp)
  exact ⟨p,q,⟨fuel,DataW.trod_stays (kids_book hl ht.1) (book_sized ht.1) (fun h=>by cases h) ⟨ht.2,book_self t⟩ h1 (fun x hx=>hb.same (hlt x (by simp [hx]))) (fun x hx=>hsp x (by simp [hx]))⟩,
   ylr hl hb (fun u hu=>hts u (by simp [hu])) h2 (fun x hx=>hlt x (by simp [hx])) (fun x hx=>hsp x (by simp [hx])),rfl⟩
theorem zx6 {may:MemPlace->Prop} (hb:Below W.heap.size W W'):W.keptBut W' may:=by
 refine ⟨hb.os,hb.output,fun i hi=>?_⟩;rw [hb.block i hi]
 split
 . rename_i h1 h2;rw [h1] at h2;cases h2;exact ⟨rfl,rfl,rfl,fun _ _=>rfl⟩
 . rename_i h1 h2;rw [h1] at h2;cases h2;exact .inr ⟨rfl,rfl⟩
 . rfl
theorem vnd (hb:Below W.heap.size W W') {a:Addr} (h:a.block<W.heap.size):W'.frozen? a=W.frozen? a:=by
 unfold World.frozen?;rw [hb.block _ h]
theorem vmu (hl:laidOutB P=true) {f:Func} {s:ChangeSpec} {apart fresh handsOn again:Bool} {args:Array Value} {ds gs:List (DataW H)} {before:List MemPlace} {tb:TypeId}
 (hts:∀ t∈f.params.toList,P.readableRec t=true/\t<P.types.size) (hv:s.vars=[]) (hrt:f.resultTypes=#[tb]) (htb:P.underlying tb=some .bool)
 (hfn:∀ ds gs:List (DataW H),DataW.TrodAll enc P W 0 (fun _=>true) true f.params.toList args.toList ds before->gs=[]->(s.fn H (ds++gs)).results=[.lit (.bool true)]/\(s.fn H (ds++gs)).args=ds/\(s.fn H (ds++gs)).vars=[])
 (hW:DataW.Whole enc P f.params.toList s.vars apart W args.toList ds gs before) (hb:Below W.heap.size W W'):s.post enc P f apart fresh handsOn again W args (.bool true) W':=by
 have hlt:∀ p∈before,p.block<W.heap.size:=fun p hp=>hW.lt p hp
 have hW':=hW;obtain ⟨p,q,hA,hV,rfl,hfz,hnd⟩:=hW;rw [hv] at hV;obtain ⟨rfl,rfl⟩:=trodVars_none hV;rw [List.append_nil] at hW' hlt hfz hnd hfn;obtain ⟨e1,e2,e3⟩:=hfn ds [] hA rfl
 have hres:∀(b:Nat) (sp:Nat->Bool) (hd:Bool),DataW.TrodAll enc P W' b sp hd f.resultTypes.toList ((Value.bool true).resultList f.resultTypes.size) (s.fn H (ds++[])).results []:=fun b sp hd=>by
  rw [e1,hrt];exact trodAll_cons_mk (shut_bool htb true) trodAll_mk0
 have hargs:∀ sp:Nat->Bool,(∀ x∈p,sp x.block=true)->DataW.TrodAll enc P W' 0 sp true f.params.toList args.toList (s.fn H (ds++[])).args p:=fun sp hsp=>by
  rw [e2];exact ylr hl hb hts hA hlt hsp
 have hvars:∀ sp:Nat->Bool,DataW.TrodVars enc P W' sp s.vars (s.fn H (ds++[])).vars []:=fun sp=>by
  rw [e3,hv];exact rfl
 refine ⟨ds,[],p,[],p,[],hW',hres _ _ _,hargs _ (fun x hx=>by simpa using hlt x hx),hvars _,zx6 hb,fun _=>⟨?_,_,_,([]++p)++[],⟨[]++p,[],trodAll_append (hargs _ (fun _ _=>rfl)) (hres _ _ _),hvars _,rfl,?_,?_⟩,?_⟩⟩
 . exact ok_one hrt rfl (okWide_bool_mk htb true)
 . intro b off hp
   have hp':MemPlace.cell b off∈p:=by simpa using hp
   rw [vnd hb (hlt _ hp')];exact hfz b off hp'
 . intro ha;simpa using hnd ha
 . intro x hx _;simpa using hx
end Go.Slot
