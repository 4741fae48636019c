/- The proof, part Y13: Mq, Mr, Mx, Ja, Jb. -/
import Derived.Test.YtjhbbadljohadaaGreatDoorY12
import Derived.WalkKit
import Derived.ProofKit
import Derived.OpenShut
import Derived.JoinedCond
import Derived.ChangeBook
import Derived.ChangeStays
namespace Go.Slot
open Go Go.RowKit
variable {P:Program} {G:List (Nat×List Gh)}
theorem RC.sound:∀(c:Code) (b:Bool) (Q:Exit->Bool->List AV->Prop) (σ:List AV),RC P G c b Q σ->zdf P c (outQ Q) σ:=by
 intro c
 induction c with
 | skip=>intro b Q σ h;exact z1r ⟨b,h⟩
 | region id ops dr=>
  intro b Q σ h
  cases dr with
  | false=>exact zdf.le (StLe.ghL _ _) (ztw (RunF.run _ b _ _ h))
  | true=>exact zdf.le (StLe.ghL _ _) (zsn h.1 (RunG.runD _ b [] _ _ h.2))
 | seq x y ihx ihy=>
  intro b Q σ h
  have h:seqF (ztm G y) (fun _=>z19 P G x y Q σ) (fun _=>RC P G x b (zqc (fun b σ=>RC P G y b Q σ) Q) σ):=h
  cases hj:ztm G y with
  | true=>rw [hj] at h;exact h
  | false=>
  rw [hj] at h
  have h:RC P G x b (zqc (fun b σ=>RC P G y b Q σ) Q) σ:=h
  refine zul ((ihx b _ σ h).mono ?_)
  intro e σ' ⟨b',h'⟩
  cases e with
  | normal=>exact ihy b' Q σ' h'
  | _=>exact ⟨b',h'⟩
 | cond c x y ihx ihy=>
  intro b Q σ h
  unfold RC ybj at h
  split at h
  · rename_i p hp
    exact z1y hp (fun hb=>ihx _ _ _ (h.1 hb)) (fun hb=>ihy _ _ _ (h.2 hb))
  · exact h.elim
 | block id x ih=>
  intro b Q σ h
  refine zx4 ((ih b _ σ h).mono ?_)
  intro e σ' ⟨b',h'⟩
  cases e with
  | exit j=>
   show znn id (outQ Q) (.exit j) σ'
   unfold zhl at h'
   unfold znn
   simp only at h' ⊢
   split at h'
   · rename_i hj;simp only [hj];exact ⟨b',h'⟩
   · rename_i hj;simp only [hj];exact ⟨b',h'⟩
  | _=>exact ⟨b',h'⟩
 | loop x ih=>intro b Q σ h;exact h
 | exit id=>intro b Q σ h;exact z1s ⟨b,h⟩
 | ret=>intro b Q σ h;exact z5j ⟨b,h⟩
 | _=>intro b Q σ h;exact h.elim
def retC (P:Program) (rs:List ResultVar) (res:AV):Exit->Bool->List AV->Prop
 | .ret,_,σ | .normal,_,σ=>∃ av,zsg P σ rs=some av/\RLe av res
 | _,_,_=>False
theorem za1.run (G:List (Nat×List Gh)) {f:FuncId} {fn:Func} {c:Code} {args:List AV} {res:AV} (hf:P.funcs[f]? = some fn) (hb:fn.body=some c) (hname:(fn.name == "runtime.NumGoroutine")=false)
 (h:RC P G c true (retC P fn.results.toList res) (zdr (args++List.replicate (fn.ntmps-args.length) .undef))):za1 P f args res:=by
 rw [zj1] at h
 refine za1.of hf hb hname ((RC.sound c true _ _ h).mono ?_)
 intro e σ ⟨b,h⟩
 cases e with
 | normal=>exact h
 | ret=>exact h
 | _=>exact h.elim
def ymg (P:Program) (rs:List ResultVar) (j:Nat) (out res:AV):Exit->Bool->List AV->Prop
 | .ret,_,σ | .normal,_,σ=>retX P rs j out res .ret σ
 | _,_,_=>False
theorem zgh.run (G:List (Nat×List Gh)) {f:FuncId} {fn:Func} {c:Code} {args:List AV} {j:Nat} {out res:AV} (hf:P.funcs[f]? = some fn) (hb:fn.body=some c) (hname:(fn.name == "runtime.NumGoroutine")=false)
 (hnt:∀ t,¬out.za9 t) (h:RC P G c true (ymg P fn.results.toList j out res) (zdr (args++List.replicate (fn.ntmps-args.length) .undef))):zgh P f args j out res:=by
 rw [zj1] at h
 refine zgh.of hf hb hname hnt ((RC.sound c true _ _ h).mono ?_)
 intro e σ ⟨b,h⟩
 cases e with
 | normal=>exact h
 | ret=>exact h
 | _=>exact h.elim
theorem za1.le {f:FuncId} {args:List AV} {res res':AV} (h:za1 P f args res) (hle:RLe res res'):za1 P f args res':=
 ⟨h.1,fun M w vs hM hr=>(h.2 M w vs hM hr).mono (fun _ _ ⟨v,h1,h2,h3,h4⟩=>⟨v,h1,h2,h3.le hle,fun hh=>h4 (hle.za6 hh)⟩)⟩
abbrev U {α:Type} (_:α):Type:=Unit
def hide {α:Type} (f:α) (_:U f):α:=f
theorem yk6 {f:Bool->Prop} {u:U f} {b:Bool}:hide f u b=f b:=_root_.id rfl
theorem ymu {f:Bool->List AV->Prop} {u:U f} {b:Bool} {σ:List AV}:hide f u b σ=f b σ:=_root_.id rfl
theorem yma {f:Bool->List Nat->List Nat->List (Nat×AV)->Prop} {u:U f} {b:Bool} {rd tk:List Nat} {e:List (Nat×AV)}:hide f u b rd tk e=f b rd tk e:=_root_.id rfl
theorem ykx {f:Bool->AV->Prop} {u:U f} {b:Bool} {r:AV}:hide f u b r=f b r:=_root_.id rfl
theorem ykn {f:Bool->OV->AV->Prop} {u:U f} {b:Bool} {n:OV} {r:AV}:hide f u b n r=f b n r:=_root_.id rfl
def nrm (σ:List AV):List AV:=σ
theorem ybp {a:AV} {σ:List AV}:nrm (a::σ)=a::σ:=_root_.id rfl
theorem yl4 {a0 a1 a2 a3 a4 a5 a6 a7 a8 a9 a10 a11 a12 a13 a14 a15:AV} {r:List AV}:nrm (ch a0 a1 a2 a3 a4 a5 a6 a7 a8 a9 a10 a11 a12 a13 a14 a15 r)=ch a0 a1 a2 a3 a4 a5 a6 a7 a8 a9 a10 a11 a12 a13 a14 a15 r:=_root_.id rfl
def nrmR (l:List SR):List SR:=l
theorem yct:nrmR []=[]:=_root_.id rfl
theorem z57 {a:SR} {l:List SR}:nrmR (a::l)=a::l:=_root_.id rfl
def tick {α:Type} (x:α):α:=x
theorem z8f:tick true=true:=_root_.id rfl
theorem z0o:tick false=false:=_root_.id rfl
theorem z2m:tick GR.plain=GR.plain:=_root_.id rfl
theorem z4a {d:Nat} {c b:Bool}:tick (GR.when d c b)=GR.when d c b:=_root_.id rfl
theorem z4d {d:Nat}:tick (GR.skip d)=GR.skip d:=_root_.id rfl
theorem z9o {rd tk:List Nat} {e:List (Nat×AV)}:tick (OR.eff rd tk e)=OR.eff rd tk e:=_root_.id rfl
theorem z7b {f:FuncId} {l:List AV} {rd:List Nat}:tick (OR.call f l rd)=OR.call f l rd:=_root_.id rfl
theorem ybl {f:FuncId} {l:List AV} {j s:Nat} {ov:OV} {rd:List Nat}:tick (OR.own f l j s ov rd)=OR.own f l j s ov rd:=_root_.id rfl
theorem z9t {c:Cell}:tick (AV.one c)=AV.one c:=_root_.id rfl
theorem yae {α:Type} {c:Code} {Q:Exit->Bool->List AV->Prop} {σ:List AV} (ch:α->List (Nat×AV)) (pre:α->Prop) (μ:α->Nat) (x0:α) (h0:pre x0) (hle:StLe σ (app (ch x0) σ))
 (round:∀ x,pre x->RC P G c true (zqc (hide (fun _ σ'=>∃ y,pre y/\μ y<μ x/\StLe σ' (app (ch y) σ)) ()) Q) (app (ch x) σ)):ydd P G c Q σ:=
 zr9 (fun x=>app (ch x) σ) pre μ x0 h0 hle (fun x hx=>(RC.sound c true _ _ (round x hx)).mono (fun e σ' ⟨b,h⟩=>by
  cases e with
  | normal=>exact h
  | _=>exact ⟨b,h⟩))
theorem zee {α:Type} {c:Code} {Q:Exit->Bool->List AV->Prop} {σ:List AV} (keep:List Nat) (ch:α->List (Nat×AV)) (pre:α->Prop) (μ:α->Nat) (x0:α) (h0:pre x0) (hle:StLe σ (app (ch x0) (zjd keep σ)))
 (round:∀ x,pre x->RC P G c true (zqc (hide (fun _ σ'=>∃ y,pre y/\μ y<μ x/\StLe σ' (app (ch y) (zjd keep σ))) ()) Q) (zdr (app (ch x) (zjd keep σ)))):ydd P G c Q σ:=
 zr9 (fun x=>app (ch x) (zjd keep σ)) pre μ x0 h0 hle (fun x hx=>(RC.sound c true _ _ (zj1 (app (ch x) (zjd keep σ))▸round x hx)).mono (fun e σ' ⟨b,h⟩=>by
  cases e with
  | normal=>exact h
  | _=>exact ⟨b,h⟩))
theorem zty {α:Type} {x y:Code} {Q:Exit->Bool->List AV->Prop} {σ:List AV} (keep:List Nat) (ch:α->List (Nat×AV)) (pre:α->Prop)
 (hx:RC P G x true (zqc (hide (fun _ σ'=>∃ a,pre a/\StLe σ' (app (ch a) (zjd keep σ))) ()) Q) σ)
 (hy:∀ a,pre a->RC P G y true Q (zdr (app (ch a) (zjd keep σ)))):z19 P G x y Q σ:=
 zul ((RC.sound x true _ _ hx).mono (fun e σ' ⟨b,h⟩=>by
  cases e with
  | normal=>
   obtain ⟨a,h1,h2⟩:=h
   exact zdf.le h2 (RC.sound y true _ _ (zj1 (app (ch a) (zjd keep σ))▸hy a h1))
  | _=>exact ⟨b,h⟩))
def selE (c:Bool) (x y:Bool->List AV->Prop):Bool->List AV->Prop:=match c with
 | true=>x
 | false=>y
theorem yez {Q:Exit->Bool->List AV->Prop} {σ:List AV}:RC P G .skip true Q σ=Q .normal true σ:=_root_.id rfl
def ltF (c:Bool) (A:Bool->Prop):Prop:=A c
theorem ynq {A:Bool->Prop}:ltF true A=A true:=_root_.id rfl
theorem yo8 {A:Bool->Prop}:ltF false A=A false:=_root_.id rfl
theorem z2s {c c':Bool} {A:Bool->Prop} (h:c=c'):ltF c A=ltF c' A:=by rw [h]
theorem z8p {id:Nat} {l:List Oper} {Q:Exit->Bool->List AV->Prop} {σ:List AV}:RC P G (.region id l.toArray false) true Q σ=ltF (tick (zkq (ghOf G id))) (hide (fun lt=>RunF P lt l true l (nrm (ghL (ghOf G id) σ)) (Q .normal)) ()):=_root_.id rfl
theorem z1l {id:Nat} {l:List Oper} {Q:Exit->Bool->List AV->Prop} {σ:List AV}:RC P G (.region id l.toArray true) true Q σ=yi2 P (hide (fun _=>ltF (tick (zkq (ghOf G id))) (hide (fun lt=>RunG P lt l (ghL (ghOf G id) σ) true l (nrmR []) (nrm (ghL (ghOf G id) σ)) (Q .normal)) ())) ()):=_root_.id rfl
theorem yjz {x y:Code} {Q:Exit->Bool->List AV->Prop} {σ:List AV}:RC P G (.seq x y) true Q σ=seqF (tick (ztm G y)) (hide (fun _=>z19 P G x y Q σ) ()) (hide (fun _=>RC P G x true (zqc (hide (fun b σ=>RC P G y b Q σ) ()) Q) σ) ()):=_root_.id rfl
theorem ymi {A B:Bool->Prop}:seqF true A B=A true:=_root_.id rfl
theorem ymh {A B:Bool->Prop}:seqF false A B=B true:=_root_.id rfl
theorem z1v {c c':Bool} {A B:Bool->Prop} (h:c=c'):seqF c A B=seqF c' A B:=by rw [h]
theorem zx9 {x y:Code} {Q:Exit->Bool->List AV->Prop} {σ σ':List AV} (h:σ=σ'):z19 P G x y Q σ=z19 P G x y Q σ':=by rw [h]
theorem yhp {c:Operand} {x y:Code} {Q:Exit->Bool->List AV->Prop} {σ:List AV}:RC P G (.cond c x y) true Q σ=ybj P c σ (hide (fun b=>RC P G x b Q σ) ()) (hide (fun b=>RC P G y b Q σ) ()) (tick (opd σ c)):=_root_.id rfl
theorem ybm {id:Nat} {x:Code} {Q:Exit->Bool->List AV->Prop} {σ:List AV}:RC P G (.block id x) true Q σ=RC P G x true (zhl id Q) σ:=_root_.id rfl
theorem yev {x:Code} {Q:Exit->Bool->List AV->Prop} {σ:List AV}:RC P G (.loop x) true Q σ=ydd P G x Q σ:=_root_.id rfl
theorem yiy {id:Nat} {Q:Exit->Bool->List AV->Prop} {σ:List AV}:RC P G (.exit id) true Q σ=Q (.exit id) true σ:=_root_.id rfl
theorem yn9 {Q:Exit->Bool->List AV->Prop} {σ:List AV}:RC P G .ret true Q σ=Q .ret true σ:=_root_.id rfl
theorem yay {lt:Bool} {ops:List Oper} {σ:List AV} {K:Bool->List AV->Prop}:RunF P lt ops true [] σ K=K true σ:=_root_.id rfl
theorem z2w {lt:Bool} {ops:List Oper} {o:Oper} {r:List Oper} {σ:List AV} {K:Bool->List AV->Prop}:RunF P lt ops true (o::r) σ K=gdF P lt (tick (zjf ops σ o)) o σ true (hide (fun b _ _ e=>RunF P lt ops b r (nrm (app e σ)) K) ()):=_root_.id rfl
theorem yd5 {lt:Bool} {ops:List Oper} {σ0:List AV} {acc:List SR} {σ:List AV} {K:Bool->List AV->Prop}:RunG P lt ops σ0 true [] acc σ K=IndK ops acc σ0 (hide (fun b=>K b σ) ()):=_root_.id rfl
theorem z6d {lt:Bool} {ops:List Oper} {σ0:List AV} {o:Oper} {r:List Oper} {acc:List SR} {σ:List AV} {K:Bool->List AV->Prop}:RunG P lt ops σ0 true (o::r) acc σ K=gdF P lt (tick (zjf ops σ o)) o σ true (hide (fun b rd tk e=>RunG P lt ops σ0 b r (nrmR (acc++[⟨rd,tk,e⟩])) (nrm (app e σ)) K) ()):=_root_.id rfl
section
variable {next:Bool->List AV->Prop} {Q:Exit->Bool->List AV->Prop}
theorem ztr:zqc next Q .normal=next:=_root_.id rfl
theorem z2g {id:Nat}:zqc next Q (.exit id)=Q (.exit id):=_root_.id rfl
theorem z31:zqc next Q .ret=Q .ret:=_root_.id rfl
theorem zon {id:Nat}:zhl id Q .normal=Q .normal:=_root_.id rfl
theorem zro {id j:Nat}:zhl id Q (.exit j)=selE (j==id) (Q .normal) (Q (.exit j)):=by
 have h:zhl id Q (.exit j)=if j=id then Q .normal else Q (.exit j):=rfl
 rw [h]
 unfold selE
 by_cases e:j=id
 · rw [if_pos e,show (j==id)=true from by simp [e]]
 · rw [if_neg e,show (j==id)=false from by simp [e]]
theorem yn3 {x y:Bool->List AV->Prop}:selE true x y=x:=rfl
theorem yn2 {x y:Bool->List AV->Prop}:selE false x y=y:=rfl
theorem z1f {c c':Bool} {x y:Bool->List AV->Prop} (h:c=c'):selE c x y=selE c' x y:=by rw [h]
theorem zuo {id:Nat}:zhl id Q .ret=Q .ret:=_root_.id rfl
end
section
variable {o:Oper} {σ:List AV} {b:Bool} {k:Bool->List Nat->List Nat->List (Nat×AV)->Prop} {rd tk:List Nat} {e:List (Nat×AV)} {f:FuncId} {args:List AV}
theorem yh0:doF P (.eff rd tk e) o σ b k=k b rd tk e:=_root_.id rfl
theorem z9w:doF P (.call f args rd) o σ b k=yig P f args (hide (fun b res=>k b rd [] (zbn o res)) ()):=_root_.id rfl
theorem ygp {l:List AV} {j s:Nat} {ov:OV}:doF P (.own f l j s ov rd) o σ b k=OwnK P f l j ov (hide (fun b new res=>ownF o σ s rd k b (zif (gt σ s) ov new) (zp7 s ov res)) ()):=_root_.id rfl
theorem z33 {s:Nat} {nw r:AV}:ownF o σ s rd k b (some nw) (some r)=k b rd [] ((s,nw)::zbn o r):=_root_.id rfl
theorem yg4 {d:Nat}:onD d o σ k b rd [] e=k b (d::rd) [] e:=_root_.id rfl
theorem z8d {lt:Bool}:gdF P lt .plain o σ b k=doF P (tick (opA P lt σ o)) o σ b k:=_root_.id rfl
theorem ybr {lt:Bool} {d:Nat} {c b':Bool}:gdF P lt (.when d c b') o σ b k=zcq c b' (hide (fun b=>doF P (tick (opA P lt σ o)) o σ b (hide (fun b rd tk e=>onD d o σ k b rd tk e) ())) ()) (hide (fun b=>zw5 σ o d b k) ()):=_root_.id rfl
theorem yb0 {lt:Bool} {d:Nat}:gdF P lt (.skip d) o σ b k=zw5 σ o d b k:=_root_.id rfl
end
theorem z4q {X Y:Bool->Prop}:zcq true true X Y=X true:=by simp [zcq]
theorem z5n {X Y:Bool->Prop}:zcq false false X Y=X true:=by simp [zcq]
theorem z51 {X Y:Bool->Prop}:zcq true false X Y=Y true:=by simp [zcq]
theorem z3c {X Y:Bool->Prop}:zcq false true X Y=Y true:=by simp [zcq]
theorem yfa {X Y:Bool->Prop}:zk6 true X Y=X true:=by simp [zk6]
theorem yfe {X Y:Bool->Prop}:zk6 false X Y=Y true:=by simp [zk6]
theorem z1d {c:Operand} {σ:List AV} {X Y:Bool->Prop} {p:Bool}:ybj P c σ X Y (.one (.raw (.bool p)))=zk6 p X Y:=_root_.id rfl
theorem yaj {rs:List ResultVar} {res:AV} {b:Bool} {σ:List AV}:retC P rs res .ret b σ=∃ av,zsg P σ rs=some av/\RLe av res:=_root_.id rfl
theorem z3s {rs:List ResultVar} {j:Nat} {out res:AV} {b:Bool} {σ:List AV}:ymg P rs j out res .ret b σ=retX P rs j out res .ret σ:=_root_.id rfl
section
variable {o o':Oper} {σ σ':List AV} {b:Bool} {k:Bool->List Nat->List Nat->List (Nat×AV)->Prop}
theorem z7l {x x':OR} (h:x=x'):doF P x o σ b k=doF P x' o σ b k:=by rw [h]
theorem zwb {c c':Bool} {X Y:Bool->Prop} (h:c=c'):zk6 c X Y=zk6 c' X Y:=by rw [h]
theorem z07 {s:Nat} {rd:List Nat} {a a' r r':Option AV} (h:a=a') (h2:r=r'):ownF o σ s rd k b a r=ownF o σ s rd k b a' r':=by rw [h,h2]
theorem z2i {lt:Bool} {ops l:List Oper} {K:Bool->List AV->Prop} (h:σ=σ'):RunF P lt ops b l σ K=RunF P lt ops b l σ' K:=by rw [h]
theorem z0l {lt:Bool} {ops l:List Oper} {σ0:List AV} {acc acc':List SR} {K:Bool->List AV->Prop} (ha:acc=acc') (h:σ=σ'):RunG P lt ops σ0 b l acc σ K=RunG P lt ops σ0 b l acc' σ' K:=by rw [h,ha]
end
end Go.Slot

namespace Go.Slot
open Go Go.RowKit
variable {P:Program}
theorem yjb {a:AV} {σ:List AV}:gt (a::σ) 0=a:=rfl
theorem yfh {a:AV} {σ:List AV} {n:Nat}:gt (a::σ) (n+1)=gt σ n:=rfl
theorem ygo {a:AV} {σ:List AV}:nh (a::σ) 0 = !a.za6:=rfl
theorem yf4 {a:AV} {σ:List AV} {n:Nat}:nh (a::σ) (n+1)=nh σ n:=rfl
section
variable {a0 a1 a2 a3 a4 a5 a6 a7 a8 a9 a10 a11 a12 a13 a14 a15 x:AV} {r:List AV} {n:Nat}
theorem yno:gt (ch a0 a1 a2 a3 a4 a5 a6 a7 a8 a9 a10 a11 a12 a13 a14 a15 r) 0=a0:=rfl
theorem ylc:nh (ch a0 a1 a2 a3 a4 a5 a6 a7 a8 a9 a10 a11 a12 a13 a14 a15 r) 0 = !a0.za6:=rfl
theorem yji:(ch a0 a1 a2 a3 a4 a5 a6 a7 a8 a9 a10 a11 a12 a13 a14 a15 r).set 0 x=ch x a1 a2 a3 a4 a5 a6 a7 a8 a9 a10 a11 a12 a13 a14 a15 r:=rfl
theorem ylx:gt (ch a0 a1 a2 a3 a4 a5 a6 a7 a8 a9 a10 a11 a12 a13 a14 a15 r) 1=a1:=rfl
theorem yn4:nh (ch a0 a1 a2 a3 a4 a5 a6 a7 a8 a9 a10 a11 a12 a13 a14 a15 r) 1 = !a1.za6:=rfl
theorem yf6:(ch a0 a1 a2 a3 a4 a5 a6 a7 a8 a9 a10 a11 a12 a13 a14 a15 r).set 1 x=ch a0 x a2 a3 a4 a5 a6 a7 a8 a9 a10 a11 a12 a13 a14 a15 r:=rfl
theorem ykc:gt (ch a0 a1 a2 a3 a4 a5 a6 a7 a8 a9 a10 a11 a12 a13 a14 a15 r) 2=a2:=rfl
theorem ykb:nh (ch a0 a1 a2 a3 a4 a5 a6 a7 a8 a9 a10 a11 a12 a13 a14 a15 r) 2 = !a2.za6:=rfl
theorem yj3:(ch a0 a1 a2 a3 a4 a5 a6 a7 a8 a9 a10 a11 a12 a13 a14 a15 r).set 2 x=ch a0 a1 x a3 a4 a5 a6 a7 a8 a9 a10 a11 a12 a13 a14 a15 r:=rfl
theorem yk4:gt (ch a0 a1 a2 a3 a4 a5 a6 a7 a8 a9 a10 a11 a12 a13 a14 a15 r) 3=a3:=rfl
theorem ymp:nh (ch a0 a1 a2 a3 a4 a5 a6 a7 a8 a9 a10 a11 a12 a13 a14 a15 r) 3 = !a3.za6:=rfl
theorem ygq:(ch a0 a1 a2 a3 a4 a5 a6 a7 a8 a9 a10 a11 a12 a13 a14 a15 r).set 3 x=ch a0 a1 a2 x a4 a5 a6 a7 a8 a9 a10 a11 a12 a13 a14 a15 r:=rfl
theorem yks:gt (ch a0 a1 a2 a3 a4 a5 a6 a7 a8 a9 a10 a11 a12 a13 a14 a15 r) 4=a4:=rfl
theorem ylr:nh (ch a0 a1 a2 a3 a4 a5 a6 a7 a8 a9 a10 a11 a12 a13 a14 a15 r) 4 = !a4.za6:=rfl
theorem yj2:(ch a0 a1 a2 a3 a4 a5 a6 a7 a8 a9 a10 a11 a12 a13 a14 a15 r).set 4 x=ch a0 a1 a2 a3 x a5 a6 a7 a8 a9 a10 a11 a12 a13 a14 a15 r:=rfl
theorem ymm:gt (ch a0 a1 a2 a3 a4 a5 a6 a7 a8 a9 a10 a11 a12 a13 a14 a15 r) 5=a5:=rfl
theorem yni:nh (ch a0 a1 a2 a3 a4 a5 a6 a7 a8 a9 a10 a11 a12 a13 a14 a15 r) 5 = !a5.za6:=rfl
theorem yih:(ch a0 a1 a2 a3 a4 a5 a6 a7 a8 a9 a10 a11 a12 a13 a14 a15 r).set 5 x=ch a0 a1 a2 a3 a4 x a6 a7 a8 a9 a10 a11 a12 a13 a14 a15 r:=rfl
theorem yko:gt (ch a0 a1 a2 a3 a4 a5 a6 a7 a8 a9 a10 a11 a12 a13 a14 a15 r) 6=a6:=rfl
theorem ylk:nh (ch a0 a1 a2 a3 a4 a5 a6 a7 a8 a9 a10 a11 a12 a13 a14 a15 r) 6 = !a6.za6:=rfl
theorem yf1:(ch a0 a1 a2 a3 a4 a5 a6 a7 a8 a9 a10 a11 a12 a13 a14 a15 r).set 6 x=ch a0 a1 a2 a3 a4 a5 x a7 a8 a9 a10 a11 a12 a13 a14 a15 r:=rfl
theorem yke:gt (ch a0 a1 a2 a3 a4 a5 a6 a7 a8 a9 a10 a11 a12 a13 a14 a15 r) 7=a7:=rfl
theorem ykp:nh (ch a0 a1 a2 a3 a4 a5 a6 a7 a8 a9 a10 a11 a12 a13 a14 a15 r) 7 = !a7.za6:=rfl
theorem yhb:(ch a0 a1 a2 a3 a4 a5 a6 a7 a8 a9 a10 a11 a12 a13 a14 a15 r).set 7 x=ch a0 a1 a2 a3 a4 a5 a6 x a8 a9 a10 a11 a12 a13 a14 a15 r:=rfl
theorem yl0:gt (ch a0 a1 a2 a3 a4 a5 a6 a7 a8 a9 a10 a11 a12 a13 a14 a15 r) 8=a8:=rfl
theorem yn7:nh (ch a0 a1 a2 a3 a4 a5 a6 a7 a8 a9 a10 a11 a12 a13 a14 a15 r) 8 = !a8.za6:=rfl
theorem yj5:(ch a0 a1 a2 a3 a4 a5 a6 a7 a8 a9 a10 a11 a12 a13 a14 a15 r).set 8 x=ch a0 a1 a2 a3 a4 a5 a6 a7 x a9 a10 a11 a12 a13 a14 a15 r:=rfl
theorem yk5:gt (ch a0 a1 a2 a3 a4 a5 a6 a7 a8 a9 a10 a11 a12 a13 a14 a15 r) 9=a9:=rfl
theorem ynk:nh (ch a0 a1 a2 a3 a4 a5 a6 a7 a8 a9 a10 a11 a12 a13 a14 a15 r) 9 = !a9.za6:=rfl
theorem yjn:(ch a0 a1 a2 a3 a4 a5 a6 a7 a8 a9 a10 a11 a12 a13 a14 a15 r).set 9 x=ch a0 a1 a2 a3 a4 a5 a6 a7 a8 x a10 a11 a12 a13 a14 a15 r:=rfl
theorem yhy:gt (ch a0 a1 a2 a3 a4 a5 a6 a7 a8 a9 a10 a11 a12 a13 a14 a15 r) 10=a10:=rfl
theorem yik:nh (ch a0 a1 a2 a3 a4 a5 a6 a7 a8 a9 a10 a11 a12 a13 a14 a15 r) 10 = !a10.za6:=rfl
theorem z98:(ch a0 a1 a2 a3 a4 a5 a6 a7 a8 a9 a10 a11 a12 a13 a14 a15 r).set 10 x=ch a0 a1 a2 a3 a4 a5 a6 a7 a8 a9 x a11 a12 a13 a14 a15 r:=rfl
theorem ygc:gt (ch a0 a1 a2 a3 a4 a5 a6 a7 a8 a9 a10 a11 a12 a13 a14 a15 r) 11=a11:=rfl
theorem yjw:nh (ch a0 a1 a2 a3 a4 a5 a6 a7 a8 a9 a10 a11 a12 a13 a14 a15 r) 11 = !a11.za6:=rfl
theorem yce:(ch a0 a1 a2 a3 a4 a5 a6 a7 a8 a9 a10 a11 a12 a13 a14 a15 r).set 11 x=ch a0 a1 a2 a3 a4 a5 a6 a7 a8 a9 a10 x a12 a13 a14 a15 r:=rfl
theorem yhn:gt (ch a0 a1 a2 a3 a4 a5 a6 a7 a8 a9 a10 a11 a12 a13 a14 a15 r) 12=a12:=rfl
theorem ygk:nh (ch a0 a1 a2 a3 a4 a5 a6 a7 a8 a9 a10 a11 a12 a13 a14 a15 r) 12 = !a12.za6:=rfl
theorem ych:(ch a0 a1 a2 a3 a4 a5 a6 a7 a8 a9 a10 a11 a12 a13 a14 a15 r).set 12 x=ch a0 a1 a2 a3 a4 a5 a6 a7 a8 a9 a10 a11 x a13 a14 a15 r:=rfl
theorem yje:gt (ch a0 a1 a2 a3 a4 a5 a6 a7 a8 a9 a10 a11 a12 a13 a14 a15 r) 13=a13:=rfl
theorem yjc:nh (ch a0 a1 a2 a3 a4 a5 a6 a7 a8 a9 a10 a11 a12 a13 a14 a15 r) 13 = !a13.za6:=rfl
theorem yaq:(ch a0 a1 a2 a3 a4 a5 a6 a7 a8 a9 a10 a11 a12 a13 a14 a15 r).set 13 x=ch a0 a1 a2 a3 a4 a5 a6 a7 a8 a9 a10 a11 a12 x a14 a15 r:=rfl
theorem yhr:gt (ch a0 a1 a2 a3 a4 a5 a6 a7 a8 a9 a10 a11 a12 a13 a14 a15 r) 14=a14:=rfl
theorem yft:nh (ch a0 a1 a2 a3 a4 a5 a6 a7 a8 a9 a10 a11 a12 a13 a14 a15 r) 14 = !a14.za6:=rfl
theorem ycu:(ch a0 a1 a2 a3 a4 a5 a6 a7 a8 a9 a10 a11 a12 a13 a14 a15 r).set 14 x=ch a0 a1 a2 a3 a4 a5 a6 a7 a8 a9 a10 a11 a12 a13 x a15 r:=rfl
theorem yfj:gt (ch a0 a1 a2 a3 a4 a5 a6 a7 a8 a9 a10 a11 a12 a13 a14 a15 r) 15=a15:=rfl
theorem yhd:nh (ch a0 a1 a2 a3 a4 a5 a6 a7 a8 a9 a10 a11 a12 a13 a14 a15 r) 15 = !a15.za6:=rfl
theorem z9y:(ch a0 a1 a2 a3 a4 a5 a6 a7 a8 a9 a10 a11 a12 a13 a14 a15 r).set 15 x=ch a0 a1 a2 a3 a4 a5 a6 a7 a8 a9 a10 a11 a12 a13 a14 x r:=rfl
theorem ykm:gt (ch a0 a1 a2 a3 a4 a5 a6 a7 a8 a9 a10 a11 a12 a13 a14 a15 r) (n+16)=gt r n:=rfl
theorem ykd:nh (ch a0 a1 a2 a3 a4 a5 a6 a7 a8 a9 a10 a11 a12 a13 a14 a15 r) (n+16)=nh r n:=rfl
theorem yf9:(ch a0 a1 a2 a3 a4 a5 a6 a7 a8 a9 a10 a11 a12 a13 a14 a15 r).set (n+16) x=ch a0 a1 a2 a3 a4 a5 a6 a7 a8 a9 a10 a11 a12 a13 a14 a15 (r.set n x):=rfl
theorem z0q:zdr (a0::a1::a2::a3::a4::a5::a6::a7::a8::a9::a10::a11::a12::a13::a14::a15::r)=ch a0 a1 a2 a3 a4 a5 a6 a7 a8 a9 a10 a11 a12 a13 a14 a15 (zdr r):=rfl
theorem ybc:zdr (ch a0 a1 a2 a3 a4 a5 a6 a7 a8 a9 a10 a11 a12 a13 a14 a15 r)=ch a0 a1 a2 a3 a4 a5 a6 a7 a8 a9 a10 a11 a12 a13 a14 a15 (zdr r):=rfl
theorem yh9:zdr []=[]:=rfl
theorem yhu:zdr [a0]=[a0]:=rfl
theorem yix:zdr [a0,a1]=[a0,a1]:=rfl
theorem yh4:zdr [a0,a1,a2]=[a0,a1,a2]:=rfl
theorem yfw:zdr [a0,a1,a2,a3]=[a0,a1,a2,a3]:=rfl
theorem yfo:zdr [a0,a1,a2,a3,a4]=[a0,a1,a2,a3,a4]:=rfl
theorem yf5:zdr [a0,a1,a2,a3,a4,a5]=[a0,a1,a2,a3,a4,a5]:=rfl
theorem yjf:zdr [a0,a1,a2,a3,a4,a5,a6]=[a0,a1,a2,a3,a4,a5,a6]:=rfl
theorem yh8:zdr [a0,a1,a2,a3,a4,a5,a6,a7]=[a0,a1,a2,a3,a4,a5,a6,a7]:=rfl
theorem ygy:zdr [a0,a1,a2,a3,a4,a5,a6,a7,a8]=[a0,a1,a2,a3,a4,a5,a6,a7,a8]:=rfl
theorem yc9:zdr [a0,a1,a2,a3,a4,a5,a6,a7,a8,a9]=[a0,a1,a2,a3,a4,a5,a6,a7,a8,a9]:=rfl
theorem ybn:zdr [a0,a1,a2,a3,a4,a5,a6,a7,a8,a9,a10]=[a0,a1,a2,a3,a4,a5,a6,a7,a8,a9,a10]:=rfl
theorem yan:zdr [a0,a1,a2,a3,a4,a5,a6,a7,a8,a9,a10,a11]=[a0,a1,a2,a3,a4,a5,a6,a7,a8,a9,a10,a11]:=rfl
theorem ybs:zdr [a0,a1,a2,a3,a4,a5,a6,a7,a8,a9,a10,a11,a12]=[a0,a1,a2,a3,a4,a5,a6,a7,a8,a9,a10,a11,a12]:=rfl
theorem yck:zdr [a0,a1,a2,a3,a4,a5,a6,a7,a8,a9,a10,a11,a12,a13]=[a0,a1,a2,a3,a4,a5,a6,a7,a8,a9,a10,a11,a12,a13]:=rfl
theorem z8t:zdr [a0,a1,a2,a3,a4,a5,a6,a7,a8,a9,a10,a11,a12,a13,a14]=[a0,a1,a2,a3,a4,a5,a6,a7,a8,a9,a10,a11,a12,a13,a14]:=rfl
theorem zvy {tk:List Nat} {i:Nat}:zb0 tk i (ch a0 a1 a2 a3 a4 a5 a6 a7 a8 a9 a10 a11 a12 a13 a14 a15 r)=zb0 tk i (a0::a1::a2::a3::a4::a5::a6::a7::a8::a9::a10::a11::a12::a13::a14::a15::r):=rfl
theorem z0g {s i:Nat}:zbo s i (ch a0 a1 a2 a3 a4 a5 a6 a7 a8 a9 a10 a11 a12 a13 a14 a15 r)=zbo s i (a0::a1::a2::a3::a4::a5::a6::a7::a8::a9::a10::a11::a12::a13::a14::a15::r):=rfl
theorem z02 {s:Nat} {hv:AV} {i:Nat}:zd2 s hv i (ch a0 a1 a2 a3 a4 a5 a6 a7 a8 a9 a10 a11 a12 a13 a14 a15 r)=zd2 s hv i (a0::a1::a2::a3::a4::a5::a6::a7::a8::a9::a10::a11::a12::a13::a14::a15::r):=rfl
theorem zwy {s i:Nat}:zdl s i (ch a0 a1 a2 a3 a4 a5 a6 a7 a8 a9 a10 a11 a12 a13 a14 a15 r)=zdl s i (a0::a1::a2::a3::a4::a5::a6::a7::a8::a9::a10::a11::a12::a13::a14::a15::r):=rfl
theorem zwr {ks:List Nat} {i:Nat}:zd0 ks i (ch a0 a1 a2 a3 a4 a5 a6 a7 a8 a9 a10 a11 a12 a13 a14 a15 r)=zd0 ks i (a0::a1::a2::a3::a4::a5::a6::a7::a8::a9::a10::a11::a12::a13::a14::a15::r):=rfl
end
attribute [go_sem] yno ylc yji ylx yn4 yf6 ykc ykb yj3 yk4 ymp ygq yks ylr yj2 ymm yni yih yko ylk yf1 yke ykp yhb yl0 yn7 yj5 yk5 ynk yjn yhy yik z98 ygc yjw yce yhn ygk ych yje yjc yaq yhr yft ycu yfj yhd z9y ykm ykd yf9 z0q ybc yh9 yhu yix yh4 yfw yfo yf5 yjf yh8 ygy yc9 ybn yan ybs yck z8t zvy z0g z02 zwy zwr
theorem yif {σ:List AV}:app [] σ=σ:=rfl
theorem z8u {σ:List AV} {p:Nat×AV} {r:List (Nat×AV)}:app (p::r) σ=app r (σ.set p.1 p.2):=rfl
theorem yfk {σ:List AV} {t:Nat}:opd σ (.tmp t)=gt σ t:=rfl
theorem ygx {σ:List AV} {k:IntKind} {n:Int}:opd σ (.const (.int k n))=.one (.raw (.int k n)):=rfl
theorem z9i {σ:List AV} {b:Bool}:opd σ (.const (.bool b))=.one (.raw (.bool b)):=rfl
theorem z0z {σ:List AV} {s:ByteArray}:opd σ (.const (.string s))=.one (.raw (.string s)):=rfl
theorem z53 {σ:List AV} {a:Option Addr} {l c:Nat}:opd σ (.const (.slice a l c))=.one (.raw (.slice a l c)):=rfl
theorem yjq {σ:List AV} {vs:Array Value}:opd σ (.const (.agg vs))=zcv (.agg vs):=rfl
theorem z8z {σ:List AV} {f:FuncId}:opd σ (.func f)=.one (.raw (.func (.func f) #[] #[])):=rfl
theorem ybt {σ:List AV} {o:Oper} {rd:List Nat} {av:AV}:val σ o rd av=match o.dst with
 | some d=>if nh σ d then some (d::rd,[(d,av)]) else none
 | none=>none:=rfl
theorem ygn {x:List Nat×List (Nat×AV)}:OR.of (some x)=.eff x.1 [] x.2:=rfl
theorem yie:OR.of none=.bad:=rfl
theorem z9h {s b:Nat} {z:List Cell} {sh:Sh}:TI.many ⟨s,b,z,sh⟩=if sh.agg then some true else if sh.plain then some false else none:=rfl
theorem zb5 {t:TypeId} {ti:TI} (h:mkTI P t=some ti) {k:TI->OR}:zb2 P t k=k ti:=by unfold zb2;rw [h]
theorem zdq {α:Type} {c:Prop} [Decidable c] {a b:α} (h:c):(if c then a else b)=a:=if_pos h
theorem yoq {α:Type} {c:Prop} [Decidable c] {a b:α} (h:¬c):(if c then a else b)=b:=if_neg h
theorem w64 {n:Int} (h:-9223372036854775808<=n/\n<=9223372036854775807):IntKind.i64.wrap n=n:=by rw [IntKind.wrap_i64];omega
theorem zv1 {α β:Type} (f:α->β) (a:α):(some a).map f=some (f a):=rfl
theorem zux {α β:Type} (f:α->β):(none:Option α).map f=none:=rfl
theorem zrq {α β:Type} (f:α->Option β) (a:α):(some a).bind f=f a:=rfl
theorem beqI {a b:Int}:(a==b)=decide (a=b):=rfl
theorem bneI {a b:Int}:(a != b)=decide (a≠b):=by simp [bne,beqI]
theorem zji {p:Prop} [Decidable p] {X Y:Bool->Prop} (hx:p->X true) (hy:¬p->Y true):zcq (decide p) true X Y:=⟨fun h=>hx (of_decide_eq_true h),fun h=>hy (of_decide_eq_false h)⟩
theorem zi2 {p:Prop} [Decidable p] {X Y:Bool->Prop} (hx:¬p->X true) (hy:p->Y true):zcq (decide p) false X Y:=⟨fun h=>hx (of_decide_eq_false h),fun h=>hy (of_decide_eq_true h)⟩
theorem yo1 {α:Type} {a b:α}:(bif true then a else b)=a:=rfl
theorem ynt {α:Type} {a b:α}:(bif false then a else b)=b:=rfl
attribute [go_sem 100] zdq yoq
attribute [go_sem 10000] if_true if_false
attribute [go_sem] w64
attribute [go_sem] beqI bneI yo1 ynt
attribute [go_sem ↓] yez z8p z1l yjz yhp ybm yev yiy yn9
attribute [go_sem] yay z2w yd5 z6d ybp yl4 yct z57
attribute [go_sem ↓] yk6 ymu yma ykx ykn
attribute [go_sem] z8f z0o z2m z4a z4d z9o z7b ybl z9t
attribute [go_sem ↓] ztr z2g z31 zon zro zuo
attribute [go_sem] yn3 yn2
attribute [go_sem] yh0 z9w ygp z33 z3s yg4 z8d ybr yb0
attribute [go_sem] z4q z5n z51 z3c yfa yfe z1d yaj
attribute [congr] z2s z1f z1v zx9 z07 z7l zwb z2i z0l
attribute [go_sem] yjb yfh ygo yf4 yif z8u yfk ygx z9i z0z z53 yjq z8z ybt ygn yie z9h
attribute [go_sem] zv1 zux zrq List.set_cons_zero List.set_cons_succ Option.getD_some Option.getD_none List.getElem?_cons_zero List.getElem?_cons_succ List.getElem?_nil
attribute [go_sem] zer zkw Cell.zuk zif zp7 ghOf ghL ghA zoc frz zd2 zhv AV.frzd Cell.sub Cell.at Cell.upd Cell.cnt Cell.esz AV.zly AV.zwl AV.fresh zt8 AV.yl9 zxz
attribute [go_sem] ynq yo8 ymi ymh ztm zqm zm7 zjd zd0 anyH yc8 yim isK
attribute [go_sem] opA opA0 opL selO litA litB litE isNone zkq zhc isZc zcAt ownN zns isX opX nilO nilV tiX valX maxV eqOp ymb bbA ydl yb9 znm nilA nilC zzq zxj zuw hitB zew zdl zff mvS AV.rf
attribute [go_sem] zjf zw5 opB vofA vofB zp4 zmn zxs cpy z35 zfr zl3 z4x zyu zge zkn elemAt zgi abin binA aun unA ybi lenC lenA zsr zzt Cell.isSl natA zoo orrO cutC zrk yag
attribute [go_sem] zll zc6 orrs placeOf zy9 zhs chunk zbb zdv zmo zn3 zoi ownC ztf zsh yfg zmd argA zfo orrL zdn zbn zls zoq orr AV.za6 AV.ybo AV.zdp Sh.agg Sh.plain Cell.bare zbs zcv
attribute [go_sem] zv5 zo0 zsg AV.zb8 zdu Cell.zb8 AV.zaj
attribute [go_sem] List.take_succ_cons List.take_zero List.drop_succ_cons List.drop_zero List.drop_nil List.take_nil List.length_cons List.length_nil List.cons_append List.nil_append List.append_nil List.all_cons List.all_nil List.map_cons List.map_nil
theorem bq2 {b:Bool}:(b==true)=b:=by cases b<;>rfl
theorem bq4 {b:Bool}:(b==false) = !b:=by cases b<;>rfl
theorem bq6 {b:Bool}:(b != true) = !b:=by cases b<;>rfl
theorem bq8 {b:Bool}:(b != false)=b:=by cases b<;>rfl
attribute [go_sem] bq2 bq4 bq6 bq8 List.foldl_cons List.foldl_nil AV.strip Cell.strip zhq
attribute [go_sem] Bool.not_true Bool.not_false Bool.false_eq_true Bool.true_and Bool.and_true Bool.false_and Bool.and_false true_and and_true and_self cond_true cond_false not_true_eq_false not_false_eq_true
attribute [go_sem] Nat.zero_add Nat.add_zero List.drop_length List.take_length List.length_set List.length_replicate
attribute [go_sem] decide_true decide_false beq_self_eq_true bne_self_eq_false Option.toList Int.toNat_natCast List.toList_toArray
theorem rg {p q:Prop} (k:q) (h:p=q:=by conv=>lhs;simp (maxSteps:=2000000) (disch:=omega) only [go_sem,Nat.reduceAdd,Nat.reduceSub,Nat.reduceMul,Int.reduceToNat,Nat.reduceEqDiff,Nat.reduceBEq,Nat.reduceBneDiff]):p:=Eq.mpr h k
end Go.Slot

namespace Go.Slot
open Go Go.RowKit
variable {P:Program}
theorem za1.zit {f:FuncId} {k:IntKind} {res:AV} (h:∀ b,za1 P f [.one (.nn b)] res):za1 P f [.one (.ints k [])] res:=by
 refine ⟨(h true).1,fun M w vs hM hr=>?_⟩
 match vs,hr with
 | [v],hr=>
  have hv:RdC M w v (.ints k []):=hr.1
  cases hv with
  | @ints a len cap _ _ b off hl hc ha hh=>
   subst hl
   exact (h a.isNone).2 M w _ hM ⟨(RdC.nn:RdC M w (.slice a 0 cap) (.nn a.isNone)),trivial⟩
end Go.Slot

namespace Go.Slot
open Go Go.RowKit Go.ChangeShapes
variable {P:Program} {H:Type} {enc:TypeId×Value->H} {w:World} {spare:Nat->Bool} {held:Bool}
inductive Sp where
 | int (k:IntKind)
 | bool
 | str
 | ints (k:IntKind)
 | sl (l:List Sp)
inductive Fit (N:Nat):Sp->Cell->Prop
 | int {k:IntKind} {n:Int} (h:k.min<=n/\n<=k.max):Fit N (.int k) (.raw (.int k n))
 | bool {b:Bool}:Fit N .bool (.raw (.bool b))
 | str {s:ByteArray} (h:s.size<=N):Fit N .str (.raw (.string s))
 | ints {k:IntKind} {L:List Int} (hl:L.length<=N) (h:∀ x∈L,k.min<=x/\x<=k.max):Fit N (.ints k) (.ints k L)
 | sl {l:List Sp} {rows:List (List Cell)} (hl:rows.length<=N) (hlen:∀ r∈rows,r.length=l.length) (h:∀(r:List Cell),r∈rows->∀(i:Nat) (s:Sp) (c:Cell),l[i]? = some s->r[i]? = some c->Fit N s c):Fit N (.sl l) (.sl l.length rows)
def FitL (N:Nat) (l:List Sp) (cs:List Cell):Prop:=cs.length=l.length/\∀(i:Nat) (s:Sp) (c:Cell),l[i]? = some s->cs[i]? = some c->Fit N s c
theorem FitL.cons {N:Nat} {s:Sp} {l:List Sp} {cs:List Cell} (h:FitL N (s::l) cs):∃ c r,cs=c::r/\Fit N s c/\FitL N l r:=by
 obtain ⟨h1,h2⟩:=h
 cases cs with
 | nil=>simp at h1
 | cons c r=>exact ⟨c,r,rfl,h2 0 s c rfl rfl,by simpa using h1,fun i s' c' hs hc=>h2 (i+1) s' c' (by simpa using hs) (by simpa using hc)⟩
theorem FitL.nil {N:Nat} {cs:List Cell} (h:FitL N [] cs):cs=[]:=List.eq_nil_of_length_eq_zero h.1
theorem FitL.one {N:Nat} {s:Sp} {c:Cell} (h:Fit N s c):FitL N [s] [c]:=⟨rfl,fun i s' c' hs hc=>by
 cases i with
 | zero=>simp at hs hc;subst hs hc;exact h
 | succ i=>simp at hs⟩
theorem FitL.append {N:Nat} {l l':List Sp} {cs cs':List Cell} (h:FitL N l cs) (h':FitL N l' cs'):FitL N (l++l') (cs++cs'):=by
 refine ⟨by simp [h.1,h'.1],fun i s c hs hc=>?_⟩
 rcases Nat.lt_or_ge i l.length with hi | hi
 · rw [List.getElem?_append_left hi] at hs
   rw [List.getElem?_append_left (by rw [h.1];exact hi)] at hc
   exact h.2 i s c hs hc
 · rw [List.getElem?_append_right hi] at hs
   rw [List.getElem?_append_right (by rw [h.1];exact hi),h.1] at hc
   exact h'.2 _ s c hs hc
structure Bulk (bk:DataW H->Nat):Prop where
 str:∀ b,b.length<=bk (.lit (.string b))
 elems:∀ l r,l.length<=bk (.slice l r)
 elem:∀ l r d,d∈l->bk d<=bk (.slice l r)
 part:∀ l d,d∈l->bk d<=bk (.agg l)
theorem RdD.app0 {M:Nat->Nat->Prop} {w:World}:∀{vs us:List Value} {cs ds:List Cell},RdD M w vs cs->RdD M w us ds->RdD M w (vs++us) (cs++ds)
 | [],_,[],_,_,h=>h
 | _::_,_,_::_,_,h,h'=>⟨h.1,RdD.app0 h.2 h'⟩
theorem cellAt {a:Addr} {v:Value} (h:w.cell? a=some v):a.spot=none:=by
 unfold World.cell? at h
 split at h
 · split at h
   · cases h
   · rename_i hs;simpa using hs
 · cases h
theorem addrAt {a:Addr} (h:a.spot=none) (n:Nat):a.add n=⟨a.block,a.off+n,none⟩:=by
 unfold Addr.add
 split
 · rename_i e;subst e;cases a;simp at h;subst h;rfl
 · rfl
section
variable {bk:DataW H->Nat} {N:Nat}
end
end Go.Slot

namespace Go.Slot
open Go Go.RowKit Go.ChangeShapes Go.WideShapes
variable {P:Program} {H:Type} {enc:TypeId×Value->H}
def M0:Nat->Nat->Prop:=fun _ _=>False
section
variable {w:World} {spare:Nat->Bool} {held:Bool} {bk:DataW H->Nat} {N:Nat} {r:Reach} {b0:Nat}
end
theorem zqp (hl:laidOutB P=true) {W W':World} (hb:Below W.heap.size W W') {sp:Nat->Bool}:∀{ts:List TypeId} {vs:List Value} {ds:List (DataW H)} {ps:List MemPlace},(∀ t∈ts,P.readableRec t=true/\t<P.types.size)->
 DataW.TrodAll enc P W 0 (fun _=>true) true ts vs ds ps->(∀ p∈ps,p.block<W.heap.size)->(∀ p∈ps,sp p.block=true)->DataW.TrodAll enc P W' 0 sp true ts vs ds ps
 | [],vs,ds,ps,_,h,_,_=>by
  obtain ⟨rfl,rfl,rfl⟩:=trodAll_nil h
  exact trodAll_mk0
 | t::ts,vs,ds,ps,hts,h,hlt,hsp=>by
  obtain ⟨v,vs',d,ds',p,q,rfl,rfl,rfl,⟨fuel,h1⟩,h2⟩:=trodAll_cons h
  have ht:=hts t (by simp)
  exact ⟨p,q,⟨fuel,DataW.trod_stays (kids_book hl ht.1) (book_sized ht.1) (fun h=>by cases h) ⟨ht.2,book_self t⟩ h1 (fun x hx=>hb.same (hlt x (by simp [hx]))) (fun x hx=>hsp x (by simp [hx]))⟩,
   zqp hl hb (fun u hu=>hts u (by simp [hu])) h2 (fun x hx=>hlt x (by simp [hx])) (fun x hx=>hsp x (by simp [hx])),rfl⟩
theorem zt4 {W W':World} {may:MemPlace->Prop} (hb:Below W.heap.size W W'):W.keptBut W' may:=by
 refine ⟨hb.os,hb.output,fun i hi=>?_⟩
 rw [hb.block i hi]
 split
 · rename_i h1 h2
   rw [h1] at h2;cases h2
   exact ⟨rfl,rfl,rfl,fun _ _=>rfl⟩
 · rename_i h1 h2
   rw [h1] at h2;cases h2
   exact .inr ⟨rfl,rfl⟩
 · rfl
theorem zvb {W W':World} (hb:Below W.heap.size W W') {a:Addr} (h:a.block<W.heap.size):W'.frozen? a=W.frozen? a:=by
 unfold World.frozen?
 rw [hb.block _ h]
theorem yaa (hl:laidOutB P=true) {f:Func} {s:ChangeSpec} {apart fresh handsOn again:Bool} {W W':World} {args:Array Value} {ds gs:List (DataW H)} {before:List MemPlace} {tb:TypeId}
 (hts:∀ t∈f.params.toList,P.readableRec t=true/\t<P.types.size) (hv:s.vars=[]) (hrt:f.resultTypes=#[tb]) (htb:P.underlying tb=some .bool)
 (hfn:∀ ds gs:List (DataW H),DataW.TrodAll enc P W 0 (fun _=>true) true f.params.toList args.toList ds before->gs=[]->(s.fn H (ds++gs)).results=[.lit (.bool true)]/\(s.fn H (ds++gs)).args=ds/\(s.fn H (ds++gs)).vars=[])
 (hW:DataW.Whole enc P f.params.toList s.vars apart W args.toList ds gs before) (hb:Below W.heap.size W W'):s.post enc P f apart fresh handsOn again W args (.bool true) W':=by
 have hlt:∀ p∈before,p.block<W.heap.size:=fun p hp=>hW.lt p hp
 have hW':=hW
 obtain ⟨p,q,hA,hV,rfl,hfz,hnd⟩:=hW
 rw [hv] at hV
 obtain ⟨rfl,rfl⟩:=trodVars_none hV
 rw [List.append_nil] at hW' hlt hfz hnd hfn
 obtain ⟨e1,e2,e3⟩:=hfn ds [] hA rfl
 have hres:∀(b:Nat) (sp:Nat->Bool) (hd:Bool),DataW.TrodAll enc P W' b sp hd f.resultTypes.toList ((Value.bool true).resultList f.resultTypes.size) (s.fn H (ds++[])).results []:=fun b sp hd=>by
  rw [e1,hrt]
  exact trodAll_cons_mk (shut_bool htb true) trodAll_mk0
 have hargs:∀ sp:Nat->Bool,(∀ x∈p,sp x.block=true)->DataW.TrodAll enc P W' 0 sp true f.params.toList args.toList (s.fn H (ds++[])).args p:=fun sp hsp=>by
  rw [e2]
  exact zqp hl hb hts hA hlt hsp
 have hvars:∀ sp:Nat->Bool,DataW.TrodVars enc P W' sp s.vars (s.fn H (ds++[])).vars []:=fun sp=>by
  rw [e3,hv];exact rfl
 refine ⟨ds,[],p,[],p,[],hW',hres _ _ _,hargs _ (fun x hx=>by simpa using hlt x hx),hvars _,zt4 hb,fun _=>⟨?_,_,_,([]++p)++[],⟨[]++p,[],trodAll_append (hargs _ (fun _ _=>rfl)) (hres _ _ _),hvars _,rfl,?_,?_⟩,?_⟩⟩
 · exact ok_one hrt rfl (okWide_bool_mk htb true)
 · intro b off hp
   have hp':MemPlace.cell b off∈p:=by simpa using hp
   rw [zvb hb (hlt _ hp')]
   exact hfz b off hp'
 · intro ha
   simpa using hnd ha
 · intro x hx _
   simpa using hx
end Go.Slot
