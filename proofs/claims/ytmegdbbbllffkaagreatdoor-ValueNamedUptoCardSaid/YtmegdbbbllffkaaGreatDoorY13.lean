/- The proof, part Y13: Mq, Mr, Mx, Ja, Jb. -/
import Derived.Test.YtmegdbbbllffkaaGreatDoorY12
import Derived.WalkKit
import Derived.ProofKit
import Derived.OpenShut
import Derived.JoinedCond
import Derived.ChangeBook
import Derived.ChangeStays
namespace Go.Slot
open Go Go.RowKit
variable {P:Program} {G:List (Nat×List Gh)}
theorem RC.sound:∀(c:Code) (b:Bool) (Q:Exit->Bool->List AV->Prop) (σ:List AV),RC P G c b Q σ->vb6 P c (outQ Q) σ:=by
 intro c
 induction c with
 | skip=>intro b Q σ h;exact wnw ⟨b,h⟩
 | region id ops dr=>
  intro b Q σ h
  cases dr with
  | false=>exact vb6.le (StLe.ghL _ _) (ysy (RunF.run _ b _ _ h))
  | true=>exact vb6.le (StLe.ghL _ _) (x90 h.1 (RunG.runD _ b [] _ _ h.2))
 | seq x y ihx ihy=>
  intro b Q σ h;have h:seqF (vj7 G y) (fun _=>zrb P G x y Q σ) (fun _=>RC P G x b (zl2 (fun b σ=>RC P G y b Q σ) Q) σ):=h
  cases hj:vj7 G y with
  | true=>rw [hj] at h;exact h
  | false=>
  rw [hj] at h;have h:RC P G x b (zl2 (fun b σ=>RC P G y b Q σ) Q) σ:=h;refine xyb ((ihx b _ σ h).mono ?_);intro e σ' ⟨b',h'⟩
  cases e with
  | normal=>exact ihy b' Q σ' h'
  | _=>exact ⟨b',h'⟩
 | cond c x y ihx ihy=>
  intro b Q σ h;unfold RC vjz at h;split at h
  . rename_i p hp;exact v6w hp (fun hb=>ihx _ _ _ (h.1 hb)) (fun hb=>ihy _ _ _ (h.2 hb))
  . exact h.elim
 | block id x ih=>
  intro b Q σ h;refine xn3 ((ih b _ σ h).mono ?_);intro e σ' ⟨b',h'⟩
  cases e with
  | exit j=>
   show vhg id (outQ Q) (.exit j) σ';unfold vlz at h';unfold vhg;simp only at h' ⊢;split at h'
   . rename_i hj;simp only [hj];exact ⟨b',h'⟩
   . rename_i hj;simp only [hj];exact ⟨b',h'⟩
  | _=>exact ⟨b',h'⟩
 | loop x ih=>intro b Q σ h;exact h
 | exit id=>intro b Q σ h;exact xq3 ⟨b,h⟩
 | ret=>intro b Q σ h;exact wt4 ⟨b,h⟩
 | _=>intro b Q σ h;exact h.elim
def retC (P:Program) (rs:List ResultVar) (res:AV):Exit->Bool->List AV->Prop
 | .ret,_,σ | .normal,_,σ=>∃ av,xqz P σ rs=some av/\RLe av res
 | _,_,_=>False
theorem zkh.run (G:List (Nat×List Gh)) {f:FuncId} {fn:Func} {c:Code} {args:List AV} {res:AV} (hf:P.funcs[f]? = some fn) (hb:fn.body=some c) (hname:(fn.name == "runtime.NumGoroutine")=false)
 (h:RC P G c true (retC P fn.results.toList res) (yta (args++List.replicate (fn.ntmps-args.length) .undef))):zkh P f args res:=by
 rw [w0x] at h;refine zkh.of hf hb hname ((RC.sound c true _ _ h).mono ?_);intro e σ ⟨b,h⟩
 cases e with
 | normal=>exact h
 | ret=>exact h
 | _=>exact h.elim
def yf9 (P:Program) (rs:List ResultVar) (j:Nat) (out res:AV):Exit->Bool->List AV->Prop
 | .ret,_,σ | .normal,_,σ=>retX P rs j out res .ret σ
 | _,_,_=>False
theorem vj9.run (G:List (Nat×List Gh)) {f:FuncId} {fn:Func} {c:Code} {args:List AV} {j:Nat} {out res:AV} (hf:P.funcs[f]? = some fn) (hb:fn.body=some c) (hname:(fn.name == "runtime.NumGoroutine")=false)
 (hnt:∀ t,¬out.xh7 t) (h:RC P G c true (yf9 P fn.results.toList j out res) (yta (args++List.replicate (fn.ntmps-args.length) .undef))):vj9 P f args j out res:=by
 rw [w0x] at h;refine vj9.of hf hb hname hnt ((RC.sound c true _ _ h).mono ?_);intro e σ ⟨b,h⟩
 cases e with
 | normal=>exact h
 | ret=>exact h
 | _=>exact h.elim
theorem zkh.le {f:FuncId} {args:List AV} {res res':AV} (h:zkh P f args res) (hle:RLe res res'):zkh P f args res':=
 ⟨h.1,fun M w vs hM hr=>(h.2 M w vs hM hr).mono (fun _ _ ⟨v,h1,h2,h3,h4⟩=>⟨v,h1,h2,h3.le hle,fun hh=>h4 (hle.w85 hh)⟩)⟩
abbrev U {α:Type} (_:α):Type:=Unit
def hide {α:Type} (f:α) (_:U f):α:=f
theorem vkm {f:Bool->Prop} {u:U f} {b:Bool}:hide f u b=f b:=_root_.id rfl
theorem vq7 {f:Bool->List AV->Prop} {u:U f} {b:Bool} {σ:List AV}:hide f u b σ=f b σ:=_root_.id rfl
theorem xlb {f:Bool->List Nat->List Nat->List (Nat×AV)->Prop} {u:U f} {b:Bool} {rd tk:List Nat} {e:List (Nat×AV)}:hide f u b rd tk e=f b rd tk e:=_root_.id rfl
theorem yx2 {f:Bool->AV->Prop} {u:U f} {b:Bool} {r:AV}:hide f u b r=f b r:=_root_.id rfl
theorem yp1 {f:Bool->OV->AV->Prop} {u:U f} {b:Bool} {n:OV} {r:AV}:hide f u b n r=f b n r:=_root_.id rfl
def nrm (σ:List AV):List AV:=σ
theorem woa {a:AV} {σ:List AV}:nrm (a::σ)=a::σ:=_root_.id rfl
theorem xu0 {a0 a1 a2 a3 a4 a5 a6 a7 a8 a9 a10 a11 a12 a13 a14 a15:AV} {r:List AV}:nrm (ch a0 a1 a2 a3 a4 a5 a6 a7 a8 a9 a10 a11 a12 a13 a14 a15 r)=ch a0 a1 a2 a3 a4 a5 a6 a7 a8 a9 a10 a11 a12 a13 a14 a15 r:=_root_.id rfl
def nrmR (l:List SR):List SR:=l
theorem xij:nrmR []=[]:=_root_.id rfl
theorem zo5 {a:SR} {l:List SR}:nrmR (a::l)=a::l:=_root_.id rfl
def tick {α:Type} (x:α):α:=x
theorem z47:tick true=true:=_root_.id rfl
theorem yo6:tick false=false:=_root_.id rfl
theorem y0l:tick GR.plain=GR.plain:=_root_.id rfl
theorem y75 {d:Nat} {c b:Bool}:tick (GR.when d c b)=GR.when d c b:=_root_.id rfl
theorem ygt {d:Nat}:tick (GR.skip d)=GR.skip d:=_root_.id rfl
theorem ya0 {rd tk:List Nat} {e:List (Nat×AV)}:tick (OR.eff rd tk e)=OR.eff rd tk e:=_root_.id rfl
theorem wh2 {f:FuncId} {l:List AV} {rd:List Nat}:tick (OR.call f l rd)=OR.call f l rd:=_root_.id rfl
theorem xbo {f:FuncId} {l:List AV} {j s:Nat} {ov:OV} {rd:List Nat}:tick (OR.own f l j s ov rd)=OR.own f l j s ov rd:=_root_.id rfl
theorem vfv {c:Cell}:tick (AV.one c)=AV.one c:=_root_.id rfl
theorem y0w {α:Type} {c:Code} {Q:Exit->Bool->List AV->Prop} {σ:List AV} (ch:α->List (Nat×AV)) (pre:α->Prop) (μ:α->Nat) (x0:α) (h0:pre x0) (hle:StLe σ (app (ch x0) σ))
 (round:∀ x,pre x->RC P G c true (zl2 (hide (fun _ σ'=>∃ y,pre y/\μ y<μ x/\StLe σ' (app (ch y) σ)) ()) Q) (app (ch x) σ)):x2f P G c Q σ:=
 xzc (fun x=>app (ch x) σ) pre μ x0 h0 hle (fun x hx=>(RC.sound c true _ _ (round x hx)).mono (fun e σ' ⟨b,h⟩=>by
  cases e with
  | normal=>exact h
  | _=>exact ⟨b,h⟩))
theorem vu2 {α:Type} {c:Code} {Q:Exit->Bool->List AV->Prop} {σ:List AV} (keep:List Nat) (ch:α->List (Nat×AV)) (pre:α->Prop) (μ:α->Nat) (x0:α) (h0:pre x0) (hle:StLe σ (app (ch x0) (yh1 keep σ)))
 (round:∀ x,pre x->RC P G c true (zl2 (hide (fun _ σ'=>∃ y,pre y/\μ y<μ x/\StLe σ' (app (ch y) (yh1 keep σ))) ()) Q) (yta (app (ch x) (yh1 keep σ)))):x2f P G c Q σ:=
 xzc (fun x=>app (ch x) (yh1 keep σ)) pre μ x0 h0 hle (fun x hx=>(RC.sound c true _ _ (w0x (app (ch x) (yh1 keep σ))▸round x hx)).mono (fun e σ' ⟨b,h⟩=>by
  cases e with
  | normal=>exact h
  | _=>exact ⟨b,h⟩))
theorem xjd {α:Type} {x y:Code} {Q:Exit->Bool->List AV->Prop} {σ:List AV} (keep:List Nat) (ch:α->List (Nat×AV)) (pre:α->Prop)
 (hx:RC P G x true (zl2 (hide (fun _ σ'=>∃ a,pre a/\StLe σ' (app (ch a) (yh1 keep σ))) ()) Q) σ)
 (hy:∀ a,pre a->RC P G y true Q (yta (app (ch a) (yh1 keep σ)))):zrb P G x y Q σ:=
 xyb ((RC.sound x true _ _ hx).mono (fun e σ' ⟨b,h⟩=>by
  cases e with
  | normal=>
   obtain ⟨a,h1,h2⟩:=h;exact vb6.le h2 (RC.sound y true _ _ (w0x (app (ch a) (yh1 keep σ))▸hy a h1))
  | _=>exact ⟨b,h⟩))
def selE (c:Bool) (x y:Bool->List AV->Prop):Bool->List AV->Prop:=match c with
 | true=>x
 | false=>y
theorem v43 {Q:Exit->Bool->List AV->Prop} {σ:List AV}:RC P G .skip true Q σ=Q .normal true σ:=_root_.id rfl
def ltF (c:Bool) (A:Bool->Prop):Prop:=A c
theorem wvg {A:Bool->Prop}:ltF true A=A true:=_root_.id rfl
theorem wpn {A:Bool->Prop}:ltF false A=A false:=_root_.id rfl
theorem v6a {c c':Bool} {A:Bool->Prop} (h:c=c'):ltF c A=ltF c' A:=by rw [h]
theorem vpl {id:Nat} {l:List Oper} {Q:Exit->Bool->List AV->Prop} {σ:List AV}:RC P G (.region id l.toArray false) true Q σ=ltF (tick (z1p (ghOf G id))) (hide (fun lt=>RunF P lt l true l (nrm (ghL (ghOf G id) σ)) (Q .normal)) ()):=_root_.id rfl
theorem yej {id:Nat} {l:List Oper} {Q:Exit->Bool->List AV->Prop} {σ:List AV}:RC P G (.region id l.toArray true) true Q σ=x1b P (hide (fun _=>ltF (tick (z1p (ghOf G id))) (hide (fun lt=>RunG P lt l (ghL (ghOf G id) σ) true l (nrmR []) (nrm (ghL (ghOf G id) σ)) (Q .normal)) ())) ()):=_root_.id rfl
theorem y6h {x y:Code} {Q:Exit->Bool->List AV->Prop} {σ:List AV}:RC P G (.seq x y) true Q σ=seqF (tick (vj7 G y)) (hide (fun _=>zrb P G x y Q σ) ()) (hide (fun _=>RC P G x true (zl2 (hide (fun b σ=>RC P G y b Q σ) ()) Q) σ) ()):=_root_.id rfl
theorem va4 {A B:Bool->Prop}:seqF true A B=A true:=_root_.id rfl
theorem w8k {A B:Bool->Prop}:seqF false A B=B true:=_root_.id rfl
theorem xzg {c c':Bool} {A B:Bool->Prop} (h:c=c'):seqF c A B=seqF c' A B:=by rw [h]
theorem wvm {x y:Code} {Q:Exit->Bool->List AV->Prop} {σ σ':List AV} (h:σ=σ'):zrb P G x y Q σ=zrb P G x y Q σ':=by rw [h]
theorem zl1 {c:Operand} {x y:Code} {Q:Exit->Bool->List AV->Prop} {σ:List AV}:RC P G (.cond c x y) true Q σ=vjz P c σ (hide (fun b=>RC P G x b Q σ) ()) (hide (fun b=>RC P G y b Q σ) ()) (tick (opd σ c)):=_root_.id rfl
theorem xsq {id:Nat} {x:Code} {Q:Exit->Bool->List AV->Prop} {σ:List AV}:RC P G (.block id x) true Q σ=RC P G x true (vlz id Q) σ:=_root_.id rfl
theorem vhp {x:Code} {Q:Exit->Bool->List AV->Prop} {σ:List AV}:RC P G (.loop x) true Q σ=x2f P G x Q σ:=_root_.id rfl
theorem zn2 {id:Nat} {Q:Exit->Bool->List AV->Prop} {σ:List AV}:RC P G (.exit id) true Q σ=Q (.exit id) true σ:=_root_.id rfl
theorem zrl {Q:Exit->Bool->List AV->Prop} {σ:List AV}:RC P G .ret true Q σ=Q .ret true σ:=_root_.id rfl
theorem xl1 {lt:Bool} {ops:List Oper} {σ:List AV} {K:Bool->List AV->Prop}:RunF P lt ops true [] σ K=K true σ:=_root_.id rfl
theorem xub {lt:Bool} {ops:List Oper} {o:Oper} {r:List Oper} {σ:List AV} {K:Bool->List AV->Prop}:RunF P lt ops true (o::r) σ K=gdF P lt (tick (yf4 ops σ o)) o σ true (hide (fun b _ _ e=>RunF P lt ops b r (nrm (app e σ)) K) ()):=_root_.id rfl
theorem wq6 {lt:Bool} {ops:List Oper} {σ0:List AV} {acc:List SR} {σ:List AV} {K:Bool->List AV->Prop}:RunG P lt ops σ0 true [] acc σ K=IndK ops acc σ0 (hide (fun b=>K b σ) ()):=_root_.id rfl
theorem wbt {lt:Bool} {ops:List Oper} {σ0:List AV} {o:Oper} {r:List Oper} {acc:List SR} {σ:List AV} {K:Bool->List AV->Prop}:RunG P lt ops σ0 true (o::r) acc σ K=gdF P lt (tick (yf4 ops σ o)) o σ true (hide (fun b rd tk e=>RunG P lt ops σ0 b r (nrmR (acc++[⟨rd,tk,e⟩])) (nrm (app e σ)) K) ()):=_root_.id rfl
section
variable {next:Bool->List AV->Prop} {Q:Exit->Bool->List AV->Prop}
theorem wln:zl2 next Q .normal=next:=_root_.id rfl
theorem yhc {id:Nat}:zl2 next Q (.exit id)=Q (.exit id):=_root_.id rfl
theorem v3d:zl2 next Q .ret=Q .ret:=_root_.id rfl
theorem wd5 {id:Nat}:vlz id Q .normal=Q .normal:=_root_.id rfl
theorem xye {id j:Nat}:vlz id Q (.exit j)=selE (j==id) (Q .normal) (Q (.exit j)):=by
 have h:vlz id Q (.exit j)=if j=id then Q .normal else Q (.exit j):=rfl
 rw [h];unfold selE;by_cases e:j=id
 . rw [if_pos e,show (j==id)=true from by simp [e]]
 . rw [if_neg e,show (j==id)=false from by simp [e]]
theorem wja {x y:Bool->List AV->Prop}:selE true x y=x:=rfl
theorem ydr {x y:Bool->List AV->Prop}:selE false x y=y:=rfl
theorem z12 {c c':Bool} {x y:Bool->List AV->Prop} (h:c=c'):selE c x y=selE c' x y:=by rw [h]
theorem zn0 {id:Nat}:vlz id Q .ret=Q .ret:=_root_.id rfl
end
section
variable {o:Oper} {σ:List AV} {b:Bool} {k:Bool->List Nat->List Nat->List (Nat×AV)->Prop} {rd tk:List Nat} {e:List (Nat×AV)} {f:FuncId} {args:List AV}
theorem wnk:doF P (.eff rd tk e) o σ b k=k b rd tk e:=_root_.id rfl
theorem vbb:doF P (.call f args rd) o σ b k=yui P f args (hide (fun b res=>k b rd [] (zbh o res)) ()):=_root_.id rfl
theorem yvl {l:List AV} {j s:Nat} {ov:OV}:doF P (.own f l j s ov rd) o σ b k=OwnK P f l j ov (hide (fun b new res=>ownF o σ s rd k b (wxa (gt σ s) ov new) (vhw s ov res)) ()):=_root_.id rfl
theorem zwl {s:Nat} {nw r:AV}:ownF o σ s rd k b (some nw) (some r)=k b rd [] ((s,nw)::zbh o r):=_root_.id rfl
theorem wcz {d:Nat}:onD d o σ k b rd [] e=k b (d::rd) [] e:=_root_.id rfl
theorem wjd {lt:Bool}:gdF P lt .plain o σ b k=doF P (tick (opA P lt σ o)) o σ b k:=_root_.id rfl
theorem v4i {lt:Bool} {d:Nat} {c b':Bool}:gdF P lt (.when d c b') o σ b k=xuy c b' (hide (fun b=>doF P (tick (opA P lt σ o)) o σ b (hide (fun b rd tk e=>onD d o σ k b rd tk e) ())) ()) (hide (fun b=>z0j σ o d b k) ()):=_root_.id rfl
theorem vbm {lt:Bool} {d:Nat}:gdF P lt (.skip d) o σ b k=z0j σ o d b k:=_root_.id rfl
end
theorem yus {X Y:Bool->Prop}:xuy true true X Y=X true:=by simp [xuy]
theorem vad {X Y:Bool->Prop}:xuy false false X Y=X true:=by simp [xuy]
theorem w99 {X Y:Bool->Prop}:xuy true false X Y=Y true:=by simp [xuy]
theorem y5r {X Y:Bool->Prop}:xuy false true X Y=Y true:=by simp [xuy]
theorem wah {X Y:Bool->Prop}:z4j true X Y=X true:=by simp [z4j]
theorem xwv {X Y:Bool->Prop}:z4j false X Y=Y true:=by simp [z4j]
theorem xgw {c:Operand} {σ:List AV} {X Y:Bool->Prop} {p:Bool}:vjz P c σ X Y (.one (.raw (.bool p)))=z4j p X Y:=_root_.id rfl
theorem vbc {rs:List ResultVar} {res:AV} {b:Bool} {σ:List AV}:retC P rs res .ret b σ=∃ av,xqz P σ rs=some av/\RLe av res:=_root_.id rfl
theorem y93 {rs:List ResultVar} {j:Nat} {out res:AV} {b:Bool} {σ:List AV}:yf9 P rs j out res .ret b σ=retX P rs j out res .ret σ:=_root_.id rfl
section
variable {o o':Oper} {σ σ':List AV} {b:Bool} {k:Bool->List Nat->List Nat->List (Nat×AV)->Prop}
theorem zk5 {x x':OR} (h:x=x'):doF P x o σ b k=doF P x' o σ b k:=by rw [h]
theorem w75 {c c' b:Bool} {X Y:Bool->Prop} (h:c=c'):xuy c b X Y=xuy c' b X Y:=by rw [h]
theorem wur {c c':Bool} {X Y:Bool->Prop} (h:c=c'):z4j c X Y=z4j c' X Y:=by rw [h]
theorem z1a {s:Nat} {rd:List Nat} {a a' r r':Option AV} (h:a=a') (h2:r=r'):ownF o σ s rd k b a r=ownF o σ s rd k b a' r':=by rw [h,h2]
theorem yob {lt:Bool} {ops l:List Oper} {K:Bool->List AV->Prop} (h:σ=σ'):RunF P lt ops b l σ K=RunF P lt ops b l σ' K:=by rw [h]
theorem zmc {lt:Bool} {ops l:List Oper} {σ0:List AV} {acc acc':List SR} {K:Bool->List AV->Prop} (ha:acc=acc') (h:σ=σ'):RunG P lt ops σ0 b l acc σ K=RunG P lt ops σ0 b l acc' σ' K:=by rw [h,ha]
end
end Go.Slot
namespace Go.Slot
open Go Go.RowKit
variable {P:Program}
theorem xil {a:AV} {σ:List AV}:gt (a::σ) 0=a:=rfl
theorem wh6 {a:AV} {σ:List AV} {n:Nat}:gt (a::σ) (n+1)=gt σ n:=rfl
theorem x19 {a:AV} {σ:List AV}:nh (a::σ) 0 = !a.w85:=rfl
theorem yrp {a:AV} {σ:List AV} {n:Nat}:nh (a::σ) (n+1)=nh σ n:=rfl
section
variable {a0 a1 a2 a3 a4 a5 a6 a7 a8 a9 a10 a11 a12 a13 a14 a15 x:AV} {r:List AV} {n:Nat}
theorem yal:gt (ch a0 a1 a2 a3 a4 a5 a6 a7 a8 a9 a10 a11 a12 a13 a14 a15 r) 0=a0:=rfl
theorem ztz:nh (ch a0 a1 a2 a3 a4 a5 a6 a7 a8 a9 a10 a11 a12 a13 a14 a15 r) 0 = !a0.w85:=rfl
theorem yk4:(ch a0 a1 a2 a3 a4 a5 a6 a7 a8 a9 a10 a11 a12 a13 a14 a15 r).set 0 x=ch x a1 a2 a3 a4 a5 a6 a7 a8 a9 a10 a11 a12 a13 a14 a15 r:=rfl
theorem xjb:gt (ch a0 a1 a2 a3 a4 a5 a6 a7 a8 a9 a10 a11 a12 a13 a14 a15 r) 1=a1:=rfl
theorem yug:nh (ch a0 a1 a2 a3 a4 a5 a6 a7 a8 a9 a10 a11 a12 a13 a14 a15 r) 1 = !a1.w85:=rfl
theorem ytp:(ch a0 a1 a2 a3 a4 a5 a6 a7 a8 a9 a10 a11 a12 a13 a14 a15 r).set 1 x=ch a0 x a2 a3 a4 a5 a6 a7 a8 a9 a10 a11 a12 a13 a14 a15 r:=rfl
theorem y12:gt (ch a0 a1 a2 a3 a4 a5 a6 a7 a8 a9 a10 a11 a12 a13 a14 a15 r) 2=a2:=rfl
theorem vg5:nh (ch a0 a1 a2 a3 a4 a5 a6 a7 a8 a9 a10 a11 a12 a13 a14 a15 r) 2 = !a2.w85:=rfl
theorem x7x:(ch a0 a1 a2 a3 a4 a5 a6 a7 a8 a9 a10 a11 a12 a13 a14 a15 r).set 2 x=ch a0 a1 x a3 a4 a5 a6 a7 a8 a9 a10 a11 a12 a13 a14 a15 r:=rfl
theorem wh8:gt (ch a0 a1 a2 a3 a4 a5 a6 a7 a8 a9 a10 a11 a12 a13 a14 a15 r) 3=a3:=rfl
theorem x8n:nh (ch a0 a1 a2 a3 a4 a5 a6 a7 a8 a9 a10 a11 a12 a13 a14 a15 r) 3 = !a3.w85:=rfl
theorem yqr:(ch a0 a1 a2 a3 a4 a5 a6 a7 a8 a9 a10 a11 a12 a13 a14 a15 r).set 3 x=ch a0 a1 a2 x a4 a5 a6 a7 a8 a9 a10 a11 a12 a13 a14 a15 r:=rfl
theorem y7u:gt (ch a0 a1 a2 a3 a4 a5 a6 a7 a8 a9 a10 a11 a12 a13 a14 a15 r) 4=a4:=rfl
theorem vam:nh (ch a0 a1 a2 a3 a4 a5 a6 a7 a8 a9 a10 a11 a12 a13 a14 a15 r) 4 = !a4.w85:=rfl
theorem zto:(ch a0 a1 a2 a3 a4 a5 a6 a7 a8 a9 a10 a11 a12 a13 a14 a15 r).set 4 x=ch a0 a1 a2 a3 x a5 a6 a7 a8 a9 a10 a11 a12 a13 a14 a15 r:=rfl
theorem xcp:gt (ch a0 a1 a2 a3 a4 a5 a6 a7 a8 a9 a10 a11 a12 a13 a14 a15 r) 5=a5:=rfl
theorem wmg:nh (ch a0 a1 a2 a3 a4 a5 a6 a7 a8 a9 a10 a11 a12 a13 a14 a15 r) 5 = !a5.w85:=rfl
theorem x0y:(ch a0 a1 a2 a3 a4 a5 a6 a7 a8 a9 a10 a11 a12 a13 a14 a15 r).set 5 x=ch a0 a1 a2 a3 a4 x a6 a7 a8 a9 a10 a11 a12 a13 a14 a15 r:=rfl
theorem xsl:gt (ch a0 a1 a2 a3 a4 a5 a6 a7 a8 a9 a10 a11 a12 a13 a14 a15 r) 6=a6:=rfl
theorem zrs:nh (ch a0 a1 a2 a3 a4 a5 a6 a7 a8 a9 a10 a11 a12 a13 a14 a15 r) 6 = !a6.w85:=rfl
theorem yz2:(ch a0 a1 a2 a3 a4 a5 a6 a7 a8 a9 a10 a11 a12 a13 a14 a15 r).set 6 x=ch a0 a1 a2 a3 a4 a5 x a7 a8 a9 a10 a11 a12 a13 a14 a15 r:=rfl
theorem vnv:gt (ch a0 a1 a2 a3 a4 a5 a6 a7 a8 a9 a10 a11 a12 a13 a14 a15 r) 7=a7:=rfl
theorem vmv:nh (ch a0 a1 a2 a3 a4 a5 a6 a7 a8 a9 a10 a11 a12 a13 a14 a15 r) 7 = !a7.w85:=rfl
theorem yba:(ch a0 a1 a2 a3 a4 a5 a6 a7 a8 a9 a10 a11 a12 a13 a14 a15 r).set 7 x=ch a0 a1 a2 a3 a4 a5 a6 x a8 a9 a10 a11 a12 a13 a14 a15 r:=rfl
theorem wlm:gt (ch a0 a1 a2 a3 a4 a5 a6 a7 a8 a9 a10 a11 a12 a13 a14 a15 r) 8=a8:=rfl
theorem yzt:nh (ch a0 a1 a2 a3 a4 a5 a6 a7 a8 a9 a10 a11 a12 a13 a14 a15 r) 8 = !a8.w85:=rfl
theorem z4h:(ch a0 a1 a2 a3 a4 a5 a6 a7 a8 a9 a10 a11 a12 a13 a14 a15 r).set 8 x=ch a0 a1 a2 a3 a4 a5 a6 a7 x a9 a10 a11 a12 a13 a14 a15 r:=rfl
theorem wj1:gt (ch a0 a1 a2 a3 a4 a5 a6 a7 a8 a9 a10 a11 a12 a13 a14 a15 r) 9=a9:=rfl
theorem z0r:nh (ch a0 a1 a2 a3 a4 a5 a6 a7 a8 a9 a10 a11 a12 a13 a14 a15 r) 9 = !a9.w85:=rfl
theorem v35:(ch a0 a1 a2 a3 a4 a5 a6 a7 a8 a9 a10 a11 a12 a13 a14 a15 r).set 9 x=ch a0 a1 a2 a3 a4 a5 a6 a7 a8 x a10 a11 a12 a13 a14 a15 r:=rfl
theorem ytm:gt (ch a0 a1 a2 a3 a4 a5 a6 a7 a8 a9 a10 a11 a12 a13 a14 a15 r) 10=a10:=rfl
theorem v1g:nh (ch a0 a1 a2 a3 a4 a5 a6 a7 a8 a9 a10 a11 a12 a13 a14 a15 r) 10 = !a10.w85:=rfl
theorem z57:(ch a0 a1 a2 a3 a4 a5 a6 a7 a8 a9 a10 a11 a12 a13 a14 a15 r).set 10 x=ch a0 a1 a2 a3 a4 a5 a6 a7 a8 a9 x a11 a12 a13 a14 a15 r:=rfl
theorem wcv:gt (ch a0 a1 a2 a3 a4 a5 a6 a7 a8 a9 a10 a11 a12 a13 a14 a15 r) 11=a11:=rfl
theorem xtx:nh (ch a0 a1 a2 a3 a4 a5 a6 a7 a8 a9 a10 a11 a12 a13 a14 a15 r) 11 = !a11.w85:=rfl
theorem yoh:(ch a0 a1 a2 a3 a4 a5 a6 a7 a8 a9 a10 a11 a12 a13 a14 a15 r).set 11 x=ch a0 a1 a2 a3 a4 a5 a6 a7 a8 a9 a10 x a12 a13 a14 a15 r:=rfl
theorem xk7:gt (ch a0 a1 a2 a3 a4 a5 a6 a7 a8 a9 a10 a11 a12 a13 a14 a15 r) 12=a12:=rfl
theorem xd2:nh (ch a0 a1 a2 a3 a4 a5 a6 a7 a8 a9 a10 a11 a12 a13 a14 a15 r) 12 = !a12.w85:=rfl
theorem v5y:(ch a0 a1 a2 a3 a4 a5 a6 a7 a8 a9 a10 a11 a12 a13 a14 a15 r).set 12 x=ch a0 a1 a2 a3 a4 a5 a6 a7 a8 a9 a10 a11 x a13 a14 a15 r:=rfl
theorem z8i:gt (ch a0 a1 a2 a3 a4 a5 a6 a7 a8 a9 a10 a11 a12 a13 a14 a15 r) 13=a13:=rfl
theorem wfr:nh (ch a0 a1 a2 a3 a4 a5 a6 a7 a8 a9 a10 a11 a12 a13 a14 a15 r) 13 = !a13.w85:=rfl
theorem ztd:(ch a0 a1 a2 a3 a4 a5 a6 a7 a8 a9 a10 a11 a12 a13 a14 a15 r).set 13 x=ch a0 a1 a2 a3 a4 a5 a6 a7 a8 a9 a10 a11 a12 x a14 a15 r:=rfl
theorem zwf:gt (ch a0 a1 a2 a3 a4 a5 a6 a7 a8 a9 a10 a11 a12 a13 a14 a15 r) 14=a14:=rfl
theorem xxb:nh (ch a0 a1 a2 a3 a4 a5 a6 a7 a8 a9 a10 a11 a12 a13 a14 a15 r) 14 = !a14.w85:=rfl
theorem wda:(ch a0 a1 a2 a3 a4 a5 a6 a7 a8 a9 a10 a11 a12 a13 a14 a15 r).set 14 x=ch a0 a1 a2 a3 a4 a5 a6 a7 a8 a9 a10 a11 a12 a13 x a15 r:=rfl
theorem z9b:gt (ch a0 a1 a2 a3 a4 a5 a6 a7 a8 a9 a10 a11 a12 a13 a14 a15 r) 15=a15:=rfl
theorem zee:nh (ch a0 a1 a2 a3 a4 a5 a6 a7 a8 a9 a10 a11 a12 a13 a14 a15 r) 15 = !a15.w85:=rfl
theorem vw4:(ch a0 a1 a2 a3 a4 a5 a6 a7 a8 a9 a10 a11 a12 a13 a14 a15 r).set 15 x=ch a0 a1 a2 a3 a4 a5 a6 a7 a8 a9 a10 a11 a12 a13 a14 x r:=rfl
theorem vhm:gt (ch a0 a1 a2 a3 a4 a5 a6 a7 a8 a9 a10 a11 a12 a13 a14 a15 r) (n+16)=gt r n:=rfl
theorem w5x:nh (ch a0 a1 a2 a3 a4 a5 a6 a7 a8 a9 a10 a11 a12 a13 a14 a15 r) (n+16)=nh r n:=rfl
theorem zew:(ch a0 a1 a2 a3 a4 a5 a6 a7 a8 a9 a10 a11 a12 a13 a14 a15 r).set (n+16) x=ch a0 a1 a2 a3 a4 a5 a6 a7 a8 a9 a10 a11 a12 a13 a14 a15 (r.set n x):=rfl
theorem yfp:yta (a0::a1::a2::a3::a4::a5::a6::a7::a8::a9::a10::a11::a12::a13::a14::a15::r)=ch a0 a1 a2 a3 a4 a5 a6 a7 a8 a9 a10 a11 a12 a13 a14 a15 (yta r):=rfl
theorem wj3:yta (ch a0 a1 a2 a3 a4 a5 a6 a7 a8 a9 a10 a11 a12 a13 a14 a15 r)=ch a0 a1 a2 a3 a4 a5 a6 a7 a8 a9 a10 a11 a12 a13 a14 a15 (yta r):=rfl
theorem x0r:yta []=[]:=rfl
theorem v76:yta [a0]=[a0]:=rfl
theorem w0m:yta [a0,a1]=[a0,a1]:=rfl
theorem wsk:yta [a0,a1,a2]=[a0,a1,a2]:=rfl
theorem yo3:yta [a0,a1,a2,a3]=[a0,a1,a2,a3]:=rfl
theorem vi1:yta [a0,a1,a2,a3,a4]=[a0,a1,a2,a3,a4]:=rfl
theorem wi0:yta [a0,a1,a2,a3,a4,a5]=[a0,a1,a2,a3,a4,a5]:=rfl
theorem w8x:yta [a0,a1,a2,a3,a4,a5,a6]=[a0,a1,a2,a3,a4,a5,a6]:=rfl
theorem v4b:yta [a0,a1,a2,a3,a4,a5,a6,a7]=[a0,a1,a2,a3,a4,a5,a6,a7]:=rfl
theorem yzk:yta [a0,a1,a2,a3,a4,a5,a6,a7,a8]=[a0,a1,a2,a3,a4,a5,a6,a7,a8]:=rfl
theorem xv0:yta [a0,a1,a2,a3,a4,a5,a6,a7,a8,a9]=[a0,a1,a2,a3,a4,a5,a6,a7,a8,a9]:=rfl
theorem xax:yta [a0,a1,a2,a3,a4,a5,a6,a7,a8,a9,a10]=[a0,a1,a2,a3,a4,a5,a6,a7,a8,a9,a10]:=rfl
theorem zre:yta [a0,a1,a2,a3,a4,a5,a6,a7,a8,a9,a10,a11]=[a0,a1,a2,a3,a4,a5,a6,a7,a8,a9,a10,a11]:=rfl
theorem xvg:yta [a0,a1,a2,a3,a4,a5,a6,a7,a8,a9,a10,a11,a12]=[a0,a1,a2,a3,a4,a5,a6,a7,a8,a9,a10,a11,a12]:=rfl
theorem voe:yta [a0,a1,a2,a3,a4,a5,a6,a7,a8,a9,a10,a11,a12,a13]=[a0,a1,a2,a3,a4,a5,a6,a7,a8,a9,a10,a11,a12,a13]:=rfl
theorem vqw:yta [a0,a1,a2,a3,a4,a5,a6,a7,a8,a9,a10,a11,a12,a13,a14]=[a0,a1,a2,a3,a4,a5,a6,a7,a8,a9,a10,a11,a12,a13,a14]:=rfl
theorem z3u {tk:List Nat} {i:Nat}:wc9 tk i (ch a0 a1 a2 a3 a4 a5 a6 a7 a8 a9 a10 a11 a12 a13 a14 a15 r)=wc9 tk i (a0::a1::a2::a3::a4::a5::a6::a7::a8::a9::a10::a11::a12::a13::a14::a15::r):=rfl
theorem x8v {s i:Nat}:yk3 s i (ch a0 a1 a2 a3 a4 a5 a6 a7 a8 a9 a10 a11 a12 a13 a14 a15 r)=yk3 s i (a0::a1::a2::a3::a4::a5::a6::a7::a8::a9::a10::a11::a12::a13::a14::a15::r):=rfl
theorem xbz {s:Nat} {hv:AV} {i:Nat}:yvh s hv i (ch a0 a1 a2 a3 a4 a5 a6 a7 a8 a9 a10 a11 a12 a13 a14 a15 r)=yvh s hv i (a0::a1::a2::a3::a4::a5::a6::a7::a8::a9::a10::a11::a12::a13::a14::a15::r):=rfl
theorem v2p {s i:Nat}:wy4 s i (ch a0 a1 a2 a3 a4 a5 a6 a7 a8 a9 a10 a11 a12 a13 a14 a15 r)=wy4 s i (a0::a1::a2::a3::a4::a5::a6::a7::a8::a9::a10::a11::a12::a13::a14::a15::r):=rfl
theorem v16 {ks:List Nat} {i:Nat}:yft ks i (ch a0 a1 a2 a3 a4 a5 a6 a7 a8 a9 a10 a11 a12 a13 a14 a15 r)=yft ks i (a0::a1::a2::a3::a4::a5::a6::a7::a8::a9::a10::a11::a12::a13::a14::a15::r):=rfl
end
attribute [go_sem] yal ztz yk4 xjb yug ytp y12 vg5 x7x wh8 x8n yqr y7u vam zto xcp wmg x0y xsl zrs yz2 vnv vmv yba wlm yzt z4h wj1 z0r v35 ytm v1g z57 wcv xtx yoh xk7 xd2 v5y z8i wfr ztd zwf xxb wda z9b zee vw4 vhm w5x zew yfp wj3 x0r v76 w0m wsk yo3 vi1 wi0 w8x v4b yzk xv0 xax zre xvg voe vqw z3u x8v xbz v2p v16
theorem xeo {σ:List AV}:app [] σ=σ:=rfl
theorem vpy {σ:List AV} {p:Nat×AV} {r:List (Nat×AV)}:app (p::r) σ=app r (σ.set p.1 p.2):=rfl
theorem zjc {σ:List AV} {t:Nat}:opd σ (.tmp t)=gt σ t:=rfl
theorem zyo {σ:List AV} {k:IntKind} {n:Int}:opd σ (.const (.int k n))=.one (.raw (.int k n)):=rfl
theorem xhi {σ:List AV} {b:Bool}:opd σ (.const (.bool b))=.one (.raw (.bool b)):=rfl
theorem wjv {σ:List AV} {s:ByteArray}:opd σ (.const (.string s))=.one (.raw (.string s)):=rfl
theorem xt2 {σ:List AV} {a:Option Addr} {l c:Nat}:opd σ (.const (.slice a l c))=.one (.raw (.slice a l c)):=rfl
theorem w9i {σ:List AV} {vs:Array Value}:opd σ (.const (.agg vs))=xup (.agg vs):=rfl
theorem wtj {σ:List AV} {f:FuncId}:opd σ (.func f)=.one (.raw (.func (.func f) #[] #[])):=rfl
theorem z9k {σ:List AV} {o:Oper} {rd:List Nat} {av:AV}:val σ o rd av=match o.dst with
 | some d=>if nh σ d then some (d::rd,[(d,av)]) else none
 | none=>none:=rfl
theorem w8f {x:List Nat×List (Nat×AV)}:OR.of (some x)=.eff x.1 [] x.2:=rfl
theorem vz9:OR.of none=.bad:=rfl
theorem v1k {s b:Nat} {z:List Cell} {sh:Sh}:TI.many ⟨s,b,z,sh⟩=if sh.agg then some true else if sh.plain then some false else none:=rfl
theorem vq3 {t:TypeId} {ti:TI} (h:mkTI P t=some ti) {k:TI->OR}:zcp P t k=k ti:=by unfold zcp;rw [h]
theorem zby {α:Type} {c:Prop} [Decidable c] {a b:α} (h:c):(if c then a else b)=a:=if_pos h
theorem w1t {α:Type} {c:Prop} [Decidable c] {a b:α} (h:¬c):(if c then a else b)=b:=if_neg h
theorem w64 {n:Int} (h:-9223372036854775808<=n/\n<=9223372036854775807):IntKind.i64.wrap n=n:=by rw [IntKind.wrap_i64];omega
theorem vdy {α β:Type} (f:α->β) (a:α):(some a).map f=some (f a):=rfl
theorem wfe {α β:Type} (f:α->β):(none:Option α).map f=none:=rfl
theorem yxa {α β:Type} (f:α->Option β) (a:α):(some a).bind f=f a:=rfl
theorem beqI {a b:Int}:(a==b)=decide (a=b):=rfl
theorem bneI {a b:Int}:(a != b)=decide (a≠b):=by simp [bne,beqI]
theorem v9r {p:Prop} [Decidable p] {X Y:Bool->Prop} (hx:p->X true) (hy:¬p->Y true):xuy (decide p) true X Y:=⟨fun h=>hx (of_decide_eq_true h),fun h=>hy (of_decide_eq_false h)⟩
theorem v0c {p:Prop} [Decidable p] {X Y:Bool->Prop} (hx:¬p->X true) (hy:p->Y true):xuy (decide p) false X Y:=⟨fun h=>hx (of_decide_eq_false h),fun h=>hy (of_decide_eq_true h)⟩
theorem xja {α:Type} {a b:α}:(bif true then a else b)=a:=rfl
theorem x8r {α:Type} {a b:α}:(bif false then a else b)=b:=rfl
attribute [go_sem 100] zby w1t
attribute [go_sem 10000] if_true if_false
attribute [go_sem] w64
attribute [go_sem] beqI bneI xja x8r
attribute [go_sem ↓] v43 vpl yej y6h zl1 xsq vhp zn2 zrl
attribute [go_sem] xl1 xub wq6 wbt woa xu0 xij zo5
attribute [go_sem ↓] vkm vq7 xlb yx2 yp1
attribute [go_sem] z47 yo6 y0l y75 ygt ya0 wh2 xbo vfv
attribute [go_sem ↓] wln yhc v3d wd5 xye zn0
attribute [go_sem] wja ydr
attribute [go_sem] wnk vbb yvl zwl y93 wcz wjd v4i vbm
attribute [go_sem] yus vad w99 y5r wah xwv xgw vbc
attribute [congr] v6a z12 xzg wvm z1a zk5 w75 wur yob zmc
attribute [go_sem] xil wh6 x19 yrp xeo vpy zjc zyo xhi wjv xt2 w9i wtj z9k w8f vz9 v1k
attribute [go_sem] vdy wfe yxa List.set_cons_zero List.set_cons_succ Option.getD_some Option.getD_none List.getElem?_cons_zero List.getElem?_cons_succ List.getElem?_nil
attribute [go_sem] ygq whr Cell.xjq wxa vhw ghOf ghL ghA zhu frz yvh wrb AV.frzd Cell.sub Cell.at Cell.upd Cell.cnt Cell.esz AV.yaq AV.wsn AV.fresh yxr AV.v7s z56
attribute [go_sem] wvg wpn va4 w8k vj7 y0m vwn yh1 yft anyH wxs v03 isK
attribute [go_sem] opA opA0 opL selO litA litB litE isNone z1p za1 isZc zcAt ownN yfa isX opX nilO nilV tiX valX maxV eqOp v3u bbA vqh xv7 zl0 nilA nilC v9c way w4z hitB vt7 wy4 wnd mvS AV.rf
attribute [go_sem] yf4 z0j opB vofA vofB yif ynz x8d cpy wlx y8k wru z0a v9t vab zfw elemAt yru abin binA aun unA yd2 lenC lenA y92 ztq Cell.isSl natA zg1 orrO cutC zhx x7j
attribute [go_sem] w36 yxf orrs placeOf z1t zbz chunk vvz wxy zfh z2u vdq ownC v4d xat w7m zii argA wg7 orrL z0b zbh zn1 v58 orr AV.w85 AV.ym1 AV.wkf Sh.agg Sh.plain Cell.bare v7m xup
attribute [go_sem] vaj ygs xqz AV.vyu v5l Cell.vyu AV.yux
attribute [go_sem] List.take_succ_cons List.take_zero List.drop_succ_cons List.drop_zero List.drop_nil List.take_nil List.length_cons List.length_nil List.cons_append List.nil_append List.append_nil List.all_cons List.all_nil List.map_cons List.map_nil
theorem bq2 {b:Bool}:(b==true)=b:=by cases b<;>rfl
theorem bq4 {b:Bool}:(b==false) = !b:=by cases b<;>rfl
theorem bq6 {b:Bool}:(b != true) = !b:=by cases b<;>rfl
theorem bq8 {b:Bool}:(b != false)=b:=by cases b<;>rfl
attribute [go_sem] bq2 bq4 bq6 bq8 List.foldl_cons List.foldl_nil AV.strip Cell.strip y6z
attribute [go_sem] Bool.not_true Bool.not_false Bool.false_eq_true Bool.true_and Bool.and_true Bool.false_and Bool.and_false true_and and_true and_self cond_true cond_false not_true_eq_false not_false_eq_true
attribute [go_sem] Nat.zero_add Nat.add_zero List.drop_length List.take_length List.length_set List.length_replicate
attribute [go_sem] decide_true decide_false beq_self_eq_true bne_self_eq_false Option.toList Int.toNat_natCast List.toList_toArray
theorem rg {p q:Prop} (k:q) (h:p=q:=by conv=>lhs;simp (maxSteps:=2000000) (disch:=omega) only [go_sem,Nat.reduceAdd,Nat.reduceSub,Nat.reduceMul,Int.reduceToNat,Nat.reduceEqDiff,Nat.reduceBEq,Nat.reduceBneDiff]):p:=Eq.mpr h k
theorem zkh.z1e {f:FuncId} {k:IntKind} {res:AV} (h:∀ b,zkh P f [.one (.nn b)] res):zkh P f [.one (.ints k [])] res:=by
 refine ⟨(h true).1,fun M w vs hM hr=>?_⟩
 match vs,hr with
 | [v],hr=>
  have hv:RdC M w v (.ints k []):=hr.1
  cases hv with
  | @ints a len cap _ _ b off hl hc ha hh=>
   subst hl;exact (h a.isNone).2 M w _ hM ⟨(RdC.nn:RdC M w (.slice a 0 cap) (.nn a.isNone)),trivial⟩
end Go.Slot
namespace Go.Slot
open Go Go.RowKit Go.ChangeShapes
variable {P:Program} {H:Type} {enc:TypeId×Value->H} {w:World} {spare:Nat->Bool} {held:Bool}
inductive Sp where
 | int (k:IntKind)
 | bool
 | str
 | ints (k:IntKind)
 | sl (l:List Sp)
inductive Fit (N:Nat):Sp->Cell->Prop
 | int {k:IntKind} {n:Int} (h:k.min<=n/\n<=k.max):Fit N (.int k) (.raw (.int k n))
 | bool {b:Bool}:Fit N .bool (.raw (.bool b))
 | str {s:ByteArray} (h:s.size<=N):Fit N .str (.raw (.string s))
 | ints {k:IntKind} {L:List Int} (hl:L.length<=N) (h:∀ x∈L,k.min<=x/\x<=k.max):Fit N (.ints k) (.ints k L)
 | sl {l:List Sp} {rows:List (List Cell)} (hl:rows.length<=N) (hlen:∀ r∈rows,r.length=l.length) (h:∀(r:List Cell),r∈rows->∀(i:Nat) (s:Sp) (c:Cell),l[i]? = some s->r[i]? = some c->Fit N s c):Fit N (.sl l) (.sl l.length rows)
def FitL (N:Nat) (l:List Sp) (cs:List Cell):Prop:=cs.length=l.length/\∀(i:Nat) (s:Sp) (c:Cell),l[i]? = some s->cs[i]? = some c->Fit N s c
theorem FitL.one {N:Nat} {s:Sp} {c:Cell} (h:Fit N s c):FitL N [s] [c]:=⟨rfl,fun i s' c' hs hc=>by
 cases i with
 | zero=>simp at hs hc;subst hs hc;exact h
 | succ i=>simp at hs⟩
structure Bulk (bk:DataW H->Nat):Prop where
 str:∀ b,b.length<=bk (.lit (.string b))
 elems:∀ l r,l.length<=bk (.slice l r)
 elem:∀ l r d,d∈l->bk d<=bk (.slice l r)
 part:∀ l d,d∈l->bk d<=bk (.agg l)
theorem RdD.app0 {M:Nat->Nat->Prop} {w:World}:∀{vs us:List Value} {cs ds:List Cell},RdD M w vs cs->RdD M w us ds->RdD M w (vs++us) (cs++ds)
 | [],_,[],_,_,h=>h
 | _::_,_,_::_,_,h,h'=>⟨h.1,RdD.app0 h.2 h'⟩
theorem cellAt {a:Addr} {v:Value} (h:w.cell? a=some v):a.spot=none:=by
 unfold World.cell? at h;split at h
 . split at h
   . cases h
   . rename_i hs;simpa using hs
 . cases h
theorem addrAt {a:Addr} (h:a.spot=none) (n:Nat):a.add n=⟨a.block,a.off+n,none⟩:=by
 unfold Addr.add
 split
 . rename_i e;subst e;cases a;simp at h;subst h;rfl
 . rfl
section
variable {bk:DataW H->Nat} {N:Nat}
end
end Go.Slot
namespace Go.Slot
open Go Go.RowKit Go.ChangeShapes Go.WideShapes
variable {P:Program} {H:Type} {enc:TypeId×Value->H}
def M0:Nat->Nat->Prop:=fun _ _=>False
section
variable {w:World} {spare:Nat->Bool} {held:Bool} {bk:DataW H->Nat} {N:Nat} {r:Reach} {b0:Nat}
end
theorem zx6 (hl:laidOutB P=true) {W W':World} (hb:Below W.heap.size W W') {sp:Nat->Bool}:∀{ts:List TypeId} {vs:List Value} {ds:List (DataW H)} {ps:List MemPlace},(∀ t∈ts,P.readableRec t=true/\t<P.types.size)->
 DataW.TrodAll enc P W 0 (fun _=>true) true ts vs ds ps->(∀ p∈ps,p.block<W.heap.size)->(∀ p∈ps,sp p.block=true)->DataW.TrodAll enc P W' 0 sp true ts vs ds ps
 | [],vs,ds,ps,_,h,_,_=>by
  obtain ⟨rfl,rfl,rfl⟩:=trodAll_nil h;exact trodAll_mk0
 | t::ts,vs,ds,ps,hts,h,hlt,hsp=>by
  obtain ⟨v,vs',d,ds',p,q,rfl,rfl,rfl,⟨fuel,h1⟩,h2⟩:=trodAll_cons h;have ht:=hts t (by simp)
  exact ⟨p,q,⟨fuel,DataW.trod_stays (kids_book hl ht.1) (book_sized ht.1) (fun h=>by cases h) ⟨ht.2,book_self t⟩ h1 (fun x hx=>hb.same (hlt x (by simp [hx]))) (fun x hx=>hsp x (by simp [hx]))⟩,
   zx6 hl hb (fun u hu=>hts u (by simp [hu])) h2 (fun x hx=>hlt x (by simp [hx])) (fun x hx=>hsp x (by simp [hx])),rfl⟩
theorem xir {W W':World} {may:MemPlace->Prop} (hb:Below W.heap.size W W'):W.keptBut W' may:=by
 refine ⟨hb.os,hb.output,fun i hi=>?_⟩;rw [hb.block i hi]
 split
 . rename_i h1 h2;rw [h1] at h2;cases h2;exact ⟨rfl,rfl,rfl,fun _ _=>rfl⟩
 . rename_i h1 h2;rw [h1] at h2;cases h2;exact .inr ⟨rfl,rfl⟩
 . rfl
theorem z5r {W W':World} (hb:Below W.heap.size W W') {a:Addr} (h:a.block<W.heap.size):W'.frozen? a=W.frozen? a:=by
 unfold World.frozen?;rw [hb.block _ h]
theorem xw8 (hl:laidOutB P=true) {f:Func} {s:ChangeSpec} {apart fresh handsOn again:Bool} {W W':World} {args:Array Value} {ds gs:List (DataW H)} {before:List MemPlace} {tb:TypeId}
 (hts:∀ t∈f.params.toList,P.readableRec t=true/\t<P.types.size) (hv:s.vars=[]) (hrt:f.resultTypes=#[tb]) (htb:P.underlying tb=some .bool)
 (hfn:∀ ds gs:List (DataW H),DataW.TrodAll enc P W 0 (fun _=>true) true f.params.toList args.toList ds before->gs=[]->(s.fn H (ds++gs)).results=[.lit (.bool true)]/\(s.fn H (ds++gs)).args=ds/\(s.fn H (ds++gs)).vars=[])
 (hW:DataW.Whole enc P f.params.toList s.vars apart W args.toList ds gs before) (hb:Below W.heap.size W W'):s.post enc P f apart fresh handsOn again W args (.bool true) W':=by
 have hlt:∀ p∈before,p.block<W.heap.size:=fun p hp=>hW.lt p hp
 have hW':=hW;obtain ⟨p,q,hA,hV,rfl,hfz,hnd⟩:=hW;rw [hv] at hV;obtain ⟨rfl,rfl⟩:=trodVars_none hV;rw [List.append_nil] at hW' hlt hfz hnd hfn;obtain ⟨e1,e2,e3⟩:=hfn ds [] hA rfl
 have hres:∀(b:Nat) (sp:Nat->Bool) (hd:Bool),DataW.TrodAll enc P W' b sp hd f.resultTypes.toList ((Value.bool true).resultList f.resultTypes.size) (s.fn H (ds++[])).results []:=fun b sp hd=>by
  rw [e1,hrt];exact trodAll_cons_mk (shut_bool htb true) trodAll_mk0
 have hargs:∀ sp:Nat->Bool,(∀ x∈p,sp x.block=true)->DataW.TrodAll enc P W' 0 sp true f.params.toList args.toList (s.fn H (ds++[])).args p:=fun sp hsp=>by
  rw [e2];exact zx6 hl hb hts hA hlt hsp
 have hvars:∀ sp:Nat->Bool,DataW.TrodVars enc P W' sp s.vars (s.fn H (ds++[])).vars []:=fun sp=>by
  rw [e3,hv];exact rfl
 refine ⟨ds,[],p,[],p,[],hW',hres _ _ _,hargs _ (fun x hx=>by simpa using hlt x hx),hvars _,xir hb,fun _=>⟨?_,_,_,([]++p)++[],⟨[]++p,[],trodAll_append (hargs _ (fun _ _=>rfl)) (hres _ _ _),hvars _,rfl,?_,?_⟩,?_⟩⟩
 . exact ok_one hrt rfl (okWide_bool_mk htb true)
 . intro b off hp
   have hp':MemPlace.cell b off∈p:=by simpa using hp
   rw [z5r hb (hlt _ hp')];exact hfz b off hp'
 . intro ha;simpa using hnd ha
 . intro x hx _;simpa using hx
end Go.Slot
