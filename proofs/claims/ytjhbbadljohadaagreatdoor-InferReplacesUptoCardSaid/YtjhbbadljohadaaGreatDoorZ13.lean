/- The proof, part Z13: Mq, Mr, Mx, Ja, Jb. -/
import Derived.Test.YtjhbbadljohadaaGreatDoorZ12
import Derived.WalkKit
import Derived.ProofKit
import Derived.OpenShut
import Derived.JoinedCond
import Derived.ChangeBook
import Derived.ChangeStays
namespace Go.Slot
open Go Go.RowKit
variable {P:Program} {G:List (Nat×List Gh)}
theorem RC.sound:∀(c:Code) (b:Bool) (Q:Exit→Bool→List AV→Prop) (σ:List AV),RC P G c b Q σ→ACode P c (outQ Q) σ:=by
 intro c
 induction c with
 | skip=>intro b Q σ h;exact acode_skip ⟨b,h⟩
 | region id ops dr=>
  intro b Q σ h
  cases dr with
  | false=>exact ACode.le (StLe.ghL _ _) (acode_region (RunF.run _ b _ _ h))
  | true=>exact ACode.le (StLe.ghL _ _) (acode_regionD h.1 (RunG.runD _ b [] _ _ h.2))
 | seq x y ihx ihy=>
  intro b Q σ h
  have h:seqF (joinAt G y) (fun _=>JoinK P G x y Q σ) (fun _=>RC P G x b (thenC (fun b σ=>RC P G y b Q σ) Q) σ):=h
  cases hj:joinAt G y with
  | true=>rw [hj] at h;exact h
  | false=>
  rw [hj] at h
  have h:RC P G x b (thenC (fun b σ=>RC P G y b Q σ) Q) σ:=h
  refine acode_seq ((ihx b _ σ h).mono ?_)
  intro e σ' ⟨b',h'⟩
  cases e with
  | normal=>exact ihy b' Q σ' h'
  | _=>exact ⟨b',h'⟩
 | cond c x y ihx ihy=>
  intro b Q σ h
  unfold RC condF at h
  split at h
  · rename_i p hp
    exact acode_cond hp (fun hb=>ihx _ _ _ (h.1 hb)) (fun hb=>ihy _ _ _ (h.2 hb))
  · exact h.elim
 | block id x ih=>
  intro b Q σ h
  refine acode_block ((ih b _ σ h).mono ?_)
  intro e σ' ⟨b',h'⟩
  cases e with
  | exit j=>
   show inBlockA id (outQ Q) (.exit j) σ'
   unfold inBlockC at h'
   unfold inBlockA
   simp only at h' ⊢
   split at h'
   · rename_i hj;simp only [hj];exact ⟨b',h'⟩
   · rename_i hj;simp only [hj];exact ⟨b',h'⟩
  | _=>exact ⟨b',h'⟩
 | loop x ih=>intro b Q σ h;exact h
 | exit id=>intro b Q σ h;exact acode_exit ⟨b,h⟩
 | ret=>intro b Q σ h;exact acode_ret ⟨b,h⟩
 | _=>intro b Q σ h;exact h.elim
def retC (P:Program) (rs:List ResultVar) (res:AV):Exit→Bool→List AV→Prop
 | .ret,_,σ | .normal,_,σ=>∃ av,resAV P σ rs=some av∧RLe av res
 | _,_,_=>False
theorem CallsTo.run (G:List (Nat×List Gh)) {f:FuncId} {fn:Func} {c:Code} {args:List AV} {res:AV} (hf:P.funcs[f]? = some fn) (hb:fn.body=some c) (hname:(fn.name == "runtime.NumGoroutine")=false)
 (h:RC P G c true (retC P fn.results.toList res) (packS (args++List.replicate (fn.ntmps-args.length) .undef))):CallsTo P f args res:=by
 rw [packS_eq] at h
 refine CallsTo.of hf hb hname ((RC.sound c true _ _ h).mono ?_)
 intro e σ ⟨b,h⟩
 cases e with
 | normal=>exact h
 | ret=>exact h
 | _=>exact h.elim
def retCX (P:Program) (rs:List ResultVar) (j:Nat) (out res:AV):Exit→Bool→List AV→Prop
 | .ret,_,σ | .normal,_,σ=>retX P rs j out res .ret σ
 | _,_,_=>False
theorem CallsX.run (G:List (Nat×List Gh)) {f:FuncId} {fn:Func} {c:Code} {args:List AV} {j:Nat} {out res:AV} (hf:P.funcs[f]? = some fn) (hb:fn.body=some c) (hname:(fn.name == "runtime.NumGoroutine")=false)
 (hnt:∀ t,¬out.hasTok t) (h:RC P G c true (retCX P fn.results.toList j out res) (packS (args++List.replicate (fn.ntmps-args.length) .undef))):CallsX P f args j out res:=by
 rw [packS_eq] at h
 refine CallsX.of hf hb hname hnt ((RC.sound c true _ _ h).mono ?_)
 intro e σ ⟨b,h⟩
 cases e with
 | normal=>exact h
 | ret=>exact h
 | _=>exact h.elim
theorem CallsTo.le {f:FuncId} {args:List AV} {res res':AV} (h:CallsTo P f args res) (hle:RLe res res'):CallsTo P f args res':=
 ⟨h.1,fun M w vs hM hr=>(h.2 M w vs hM hr).mono (fun _ _ ⟨v,h1,h2,h3,h4⟩=>⟨v,h1,h2,h3.le hle,fun hh=>h4 (hle.holder hh)⟩)⟩
abbrev U {α:Type} (_:α):Type:=Unit
def hide {α:Type} (f:α) (_:U f):α:=f
theorem hide_1 {f:Bool→Prop} {u:U f} {b:Bool}:hide f u b=f b:=_root_.id rfl
theorem hide_2 {f:Bool→List AV→Prop} {u:U f} {b:Bool} {σ:List AV}:hide f u b σ=f b σ:=_root_.id rfl
theorem hide_4 {f:Bool→List Nat→List Nat→List (Nat×AV)→Prop} {u:U f} {b:Bool} {rd tk:List Nat} {e:List (Nat×AV)}:hide f u b rd tk e=f b rd tk e:=_root_.id rfl
theorem hide_r {f:Bool→AV→Prop} {u:U f} {b:Bool} {r:AV}:hide f u b r=f b r:=_root_.id rfl
theorem hide_o {f:Bool→OV→AV→Prop} {u:U f} {b:Bool} {n:OV} {r:AV}:hide f u b n r=f b n r:=_root_.id rfl
def nrm (σ:List AV):List AV:=σ
theorem nrm_cons {a:AV} {σ:List AV}:nrm (a::σ)=a::σ:=_root_.id rfl
theorem nrm_ch {a0 a1 a2 a3 a4 a5 a6 a7 a8 a9 a10 a11 a12 a13 a14 a15:AV} {r:List AV}:nrm (ch a0 a1 a2 a3 a4 a5 a6 a7 a8 a9 a10 a11 a12 a13 a14 a15 r)=ch a0 a1 a2 a3 a4 a5 a6 a7 a8 a9 a10 a11 a12 a13 a14 a15 r:=_root_.id rfl
def nrmR (l:List SR):List SR:=l
theorem nrmR_nil:nrmR []=[]:=_root_.id rfl
theorem nrmR_cons {a:SR} {l:List SR}:nrmR (a::l)=a::l:=_root_.id rfl
def tick {α:Type} (x:α):α:=x
theorem tick_true:tick true=true:=_root_.id rfl
theorem tick_false:tick false=false:=_root_.id rfl
theorem tick_plain:tick GR.plain=GR.plain:=_root_.id rfl
theorem tick_when {d:Nat} {c b:Bool}:tick (GR.when d c b)=GR.when d c b:=_root_.id rfl
theorem tick_skip {d:Nat}:tick (GR.skip d)=GR.skip d:=_root_.id rfl
theorem tick_eff {rd tk:List Nat} {e:List (Nat×AV)}:tick (OR.eff rd tk e)=OR.eff rd tk e:=_root_.id rfl
theorem tick_call {f:FuncId} {l:List AV} {rd:List Nat}:tick (OR.call f l rd)=OR.call f l rd:=_root_.id rfl
theorem tick_own {f:FuncId} {l:List AV} {j s:Nat} {ov:OV} {rd:List Nat}:tick (OR.own f l j s ov rd)=OR.own f l j s ov rd:=_root_.id rfl
theorem tick_one {c:Cell}:tick (AV.one c)=AV.one c:=_root_.id rfl
theorem loopk {α:Type} {c:Code} {Q:Exit→Bool→List AV→Prop} {σ:List AV} (ch:α→List (Nat×AV)) (pre:α→Prop) (μ:α→Nat) (x0:α) (h0:pre x0) (hle:StLe σ (app (ch x0) σ))
 (round:∀ x,pre x→RC P G c true (thenC (hide (fun _ σ'=>∃ y,pre y∧μ y<μ x∧StLe σ' (app (ch y) σ)) ()) Q) (app (ch x) σ)):LoopK P G c Q σ:=
 acode_loop (fun x=>app (ch x) σ) pre μ x0 h0 hle (fun x hx=>(RC.sound c true _ _ (round x hx)).mono (fun e σ' ⟨b,h⟩=>by
  cases e with
  | normal=>exact h
  | _=>exact ⟨b,h⟩))
theorem loopo {α:Type} {c:Code} {Q:Exit→Bool→List AV→Prop} {σ:List AV} (keep:List Nat) (ch:α→List (Nat×AV)) (pre:α→Prop) (μ:α→Nat) (x0:α) (h0:pre x0) (hle:StLe σ (app (ch x0) (onlyS keep σ)))
 (round:∀ x,pre x→RC P G c true (thenC (hide (fun _ σ'=>∃ y,pre y∧μ y<μ x∧StLe σ' (app (ch y) (onlyS keep σ))) ()) Q) (packS (app (ch x) (onlyS keep σ)))):LoopK P G c Q σ:=
 acode_loop (fun x=>app (ch x) (onlyS keep σ)) pre μ x0 h0 hle (fun x hx=>(RC.sound c true _ _ (packS_eq (app (ch x) (onlyS keep σ))▸round x hx)).mono (fun e σ' ⟨b,h⟩=>by
  cases e with
  | normal=>exact h
  | _=>exact ⟨b,h⟩))
theorem joino {α:Type} {x y:Code} {Q:Exit→Bool→List AV→Prop} {σ:List AV} (keep:List Nat) (ch:α→List (Nat×AV)) (pre:α→Prop)
 (hx:RC P G x true (thenC (hide (fun _ σ'=>∃ a,pre a∧StLe σ' (app (ch a) (onlyS keep σ))) ()) Q) σ)
 (hy:∀ a,pre a→RC P G y true Q (packS (app (ch a) (onlyS keep σ)))):JoinK P G x y Q σ:=
 acode_seq ((RC.sound x true _ _ hx).mono (fun e σ' ⟨b,h⟩=>by
  cases e with
  | normal=>
   obtain ⟨a,h1,h2⟩:=h
   exact ACode.le h2 (RC.sound y true _ _ (packS_eq (app (ch a) (onlyS keep σ))▸hy a h1))
  | _=>exact ⟨b,h⟩))
def selE (c:Bool) (x y:Bool→List AV→Prop):Bool→List AV→Prop:=match c with
 | true=>x
 | false=>y
theorem rc_skip {Q:Exit→Bool→List AV→Prop} {σ:List AV}:RC P G .skip true Q σ=Q .normal true σ:=_root_.id rfl
def ltF (c:Bool) (A:Bool→Prop):Prop:=A c
theorem ltF_f {A:Bool→Prop}:ltF false A=A false:=_root_.id rfl
theorem ltF_congr {c c':Bool} {A:Bool→Prop} (h:c=c'):ltF c A=ltF c' A:=by rw [h]
theorem rc_region {id:Nat} {l:List Oper} {Q:Exit→Bool→List AV→Prop} {σ:List AV}:RC P G (.region id l.toArray false) true Q σ=ltF (tick (hasLit (ghOf G id))) (hide (fun lt=>RunF P lt l true l (nrm (ghL (ghOf G id) σ)) (Q .normal)) ()):=_root_.id rfl
theorem rc_regionD {id:Nat} {l:List Oper} {Q:Exit→Bool→List AV→Prop} {σ:List AV}:RC P G (.region id l.toArray true) true Q σ=DrawK P (hide (fun _=>ltF (tick (hasLit (ghOf G id))) (hide (fun lt=>RunG P lt l (ghL (ghOf G id) σ) true l (nrmR []) (nrm (ghL (ghOf G id) σ)) (Q .normal)) ())) ()):=_root_.id rfl
theorem rc_seq {x y:Code} {Q:Exit→Bool→List AV→Prop} {σ:List AV}:RC P G (.seq x y) true Q σ=seqF (tick (joinAt G y)) (hide (fun _=>JoinK P G x y Q σ) ()) (hide (fun _=>RC P G x true (thenC (hide (fun b σ=>RC P G y b Q σ) ()) Q) σ) ()):=_root_.id rfl
theorem seqF_t {A B:Bool→Prop}:seqF true A B=A true:=_root_.id rfl
theorem seqF_f {A B:Bool→Prop}:seqF false A B=B true:=_root_.id rfl
theorem seqF_congr {c c':Bool} {A B:Bool→Prop} (h:c=c'):seqF c A B=seqF c' A B:=by rw [h]
theorem joinK_congr {x y:Code} {Q:Exit→Bool→List AV→Prop} {σ σ':List AV} (h:σ=σ'):JoinK P G x y Q σ=JoinK P G x y Q σ':=by rw [h]
theorem rc_cond {c:Operand} {x y:Code} {Q:Exit→Bool→List AV→Prop} {σ:List AV}:RC P G (.cond c x y) true Q σ=condF P c σ (hide (fun b=>RC P G x b Q σ) ()) (hide (fun b=>RC P G y b Q σ) ()) (tick (opd σ c)):=_root_.id rfl
theorem rc_block {id:Nat} {x:Code} {Q:Exit→Bool→List AV→Prop} {σ:List AV}:RC P G (.block id x) true Q σ=RC P G x true (inBlockC id Q) σ:=_root_.id rfl
theorem rc_loop {x:Code} {Q:Exit→Bool→List AV→Prop} {σ:List AV}:RC P G (.loop x) true Q σ=LoopK P G x Q σ:=_root_.id rfl
theorem rc_exit {id:Nat} {Q:Exit→Bool→List AV→Prop} {σ:List AV}:RC P G (.exit id) true Q σ=Q (.exit id) true σ:=_root_.id rfl
theorem rc_ret {Q:Exit→Bool→List AV→Prop} {σ:List AV}:RC P G .ret true Q σ=Q .ret true σ:=_root_.id rfl
theorem runF_nil {lt:Bool} {ops:List Oper} {σ:List AV} {K:Bool→List AV→Prop}:RunF P lt ops true [] σ K=K true σ:=_root_.id rfl
theorem runF_cons {lt:Bool} {ops:List Oper} {o:Oper} {r:List Oper} {σ:List AV} {K:Bool→List AV→Prop}:RunF P lt ops true (o::r) σ K=gdF P lt (tick (guardA ops σ o)) o σ true (hide (fun b _ _ e=>RunF P lt ops b r (nrm (app e σ)) K) ()):=_root_.id rfl
theorem runG_nil {lt:Bool} {ops:List Oper} {σ0:List AV} {acc:List SR} {σ:List AV} {K:Bool→List AV→Prop}:RunG P lt ops σ0 true [] acc σ K=IndK ops acc σ0 (hide (fun b=>K b σ) ()):=_root_.id rfl
theorem runG_cons {lt:Bool} {ops:List Oper} {σ0:List AV} {o:Oper} {r:List Oper} {acc:List SR} {σ:List AV} {K:Bool→List AV→Prop}:RunG P lt ops σ0 true (o::r) acc σ K=gdF P lt (tick (guardA ops σ o)) o σ true (hide (fun b rd tk e=>RunG P lt ops σ0 b r (nrmR (acc++[⟨rd,tk,e⟩])) (nrm (app e σ)) K) ()):=_root_.id rfl
section
variable {next:Bool→List AV→Prop} {Q:Exit→Bool→List AV→Prop}
theorem thenC_normal:thenC next Q .normal=next:=_root_.id rfl
theorem thenC_exit {id:Nat}:thenC next Q (.exit id)=Q (.exit id):=_root_.id rfl
theorem thenC_ret:thenC next Q .ret=Q .ret:=_root_.id rfl
theorem inBlockC_normal {id:Nat}:inBlockC id Q .normal=Q .normal:=_root_.id rfl
theorem inBlockC_exit {id j:Nat}:inBlockC id Q (.exit j)=selE (j==id) (Q .normal) (Q (.exit j)):=by
 have h:inBlockC id Q (.exit j)=if j=id then Q .normal else Q (.exit j):=rfl
 rw [h]
 unfold selE
 by_cases e:j=id
 · rw [if_pos e,show (j==id)=true from by simp [e]]
 · rw [if_neg e,show (j==id)=false from by simp [e]]
theorem selE_t {x y:Bool→List AV→Prop}:selE true x y=x:=rfl
theorem selE_f {x y:Bool→List AV→Prop}:selE false x y=y:=rfl
theorem selE_congr {c c':Bool} {x y:Bool→List AV→Prop} (h:c=c'):selE c x y=selE c' x y:=by rw [h]
theorem inBlockC_ret {id:Nat}:inBlockC id Q .ret=Q .ret:=_root_.id rfl
end
section
variable {o:Oper} {σ:List AV} {b:Bool} {k:Bool→List Nat→List Nat→List (Nat×AV)→Prop} {rd tk:List Nat} {e:List (Nat×AV)} {f:FuncId} {args:List AV}
theorem doF_eff:doF P (.eff rd tk e) o σ b k=k b rd tk e:=_root_.id rfl
theorem doF_call:doF P (.call f args rd) o σ b k=CallK P f args (hide (fun b res=>k b rd [] (callEff o res)) ()):=_root_.id rfl
theorem doF_own {l:List AV} {j s:Nat} {ov:OV}:doF P (.own f l j s ov rd) o σ b k=OwnK P f l j ov (hide (fun b new res=>ownF o σ s rd k b (newSlot (gt σ s) ov new) (newRes s ov res)) ()):=_root_.id rfl
theorem ownF_some {s:Nat} {nw r:AV}:ownF o σ s rd k b (some nw) (some r)=k b rd [] ((s,nw)::callEff o r):=_root_.id rfl
theorem onD_nil {d:Nat}:onD d o σ k b rd [] e=k b (d::rd) [] e:=_root_.id rfl
theorem gdF_plain {lt:Bool}:gdF P lt .plain o σ b k=doF P (tick (opA P lt σ o)) o σ b k:=_root_.id rfl
theorem gdF_when {lt:Bool} {d:Nat} {c b':Bool}:gdF P lt (.when d c b') o σ b k=GuardK c b' (hide (fun b=>doF P (tick (opA P lt σ o)) o σ b (hide (fun b rd tk e=>onD d o σ k b rd tk e) ())) ()) (hide (fun b=>skipF σ o d b k) ()):=_root_.id rfl
theorem gdF_skip {lt:Bool} {d:Nat}:gdF P lt (.skip d) o σ b k=skipF σ o d b k:=_root_.id rfl
end
theorem guardK_tt {X Y:Bool→Prop}:GuardK true true X Y=X true:=by simp [GuardK]
theorem guardK_ff {X Y:Bool→Prop}:GuardK false false X Y=X true:=by simp [GuardK]
theorem guardK_tf {X Y:Bool→Prop}:GuardK true false X Y=Y true:=by simp [GuardK]
theorem guardK_ft {X Y:Bool→Prop}:GuardK false true X Y=Y true:=by simp [GuardK]
theorem condK_t {X Y:Bool→Prop}:CondK true X Y=X true:=by simp [CondK]
theorem condK_f {X Y:Bool→Prop}:CondK false X Y=Y true:=by simp [CondK]
theorem condF_bool {c:Operand} {σ:List AV} {X Y:Bool→Prop} {p:Bool}:condF P c σ X Y (.one (.raw (.bool p)))=CondK p X Y:=_root_.id rfl
theorem retC_ret {rs:List ResultVar} {res:AV} {b:Bool} {σ:List AV}:retC P rs res .ret b σ=∃ av,resAV P σ rs=some av∧RLe av res:=_root_.id rfl
theorem retCX_ret {rs:List ResultVar} {j:Nat} {out res:AV} {b:Bool} {σ:List AV}:retCX P rs j out res .ret b σ=retX P rs j out res .ret σ:=_root_.id rfl
section
variable {o o':Oper} {σ σ':List AV} {b:Bool} {k:Bool→List Nat→List Nat→List (Nat×AV)→Prop}
theorem doF_congr {x x':OR} (h:x=x'):doF P x o σ b k=doF P x' o σ b k:=by rw [h]
theorem guardK_congr {c c' b:Bool} {X Y:Bool→Prop} (h:c=c'):GuardK c b X Y=GuardK c' b X Y:=by rw [h]
theorem condK_congr {c c':Bool} {X Y:Bool→Prop} (h:c=c'):CondK c X Y=CondK c' X Y:=by rw [h]
theorem ownF_congr {s:Nat} {rd:List Nat} {a a' r r':Option AV} (h:a=a') (h2:r=r'):ownF o σ s rd k b a r=ownF o σ s rd k b a' r':=by rw [h,h2]
theorem runF_congr {lt:Bool} {ops l:List Oper} {K:Bool→List AV→Prop} (h:σ=σ'):RunF P lt ops b l σ K=RunF P lt ops b l σ' K:=by rw [h]
theorem runG_congr {lt:Bool} {ops l:List Oper} {σ0:List AV} {acc acc':List SR} {K:Bool→List AV→Prop} (ha:acc=acc') (h:σ=σ'):RunG P lt ops σ0 b l acc σ K=RunG P lt ops σ0 b l acc' σ' K:=by rw [h,ha]
end
end Go.Slot

namespace Go.Slot
open Go Go.RowKit
variable {P:Program}
theorem gt_zero {a:AV} {σ:List AV}:gt (a::σ) 0=a:=rfl
theorem gt_succ {a:AV} {σ:List AV} {n:Nat}:gt (a::σ) (n+1)=gt σ n:=rfl
theorem nh_zero {a:AV} {σ:List AV}:nh (a::σ) 0 = !a.holder:=rfl
theorem nh_succ {a:AV} {σ:List AV} {n:Nat}:nh (a::σ) (n+1)=nh σ n:=rfl
section
variable {a0 a1 a2 a3 a4 a5 a6 a7 a8 a9 a10 a11 a12 a13 a14 a15 x:AV} {r:List AV} {n:Nat}
theorem gt_ch0:gt (ch a0 a1 a2 a3 a4 a5 a6 a7 a8 a9 a10 a11 a12 a13 a14 a15 r) 0=a0:=rfl
theorem nh_ch0:nh (ch a0 a1 a2 a3 a4 a5 a6 a7 a8 a9 a10 a11 a12 a13 a14 a15 r) 0 = !a0.holder:=rfl
theorem set_ch0:(ch a0 a1 a2 a3 a4 a5 a6 a7 a8 a9 a10 a11 a12 a13 a14 a15 r).set 0 x=ch x a1 a2 a3 a4 a5 a6 a7 a8 a9 a10 a11 a12 a13 a14 a15 r:=rfl
theorem gt_ch1:gt (ch a0 a1 a2 a3 a4 a5 a6 a7 a8 a9 a10 a11 a12 a13 a14 a15 r) 1=a1:=rfl
theorem nh_ch1:nh (ch a0 a1 a2 a3 a4 a5 a6 a7 a8 a9 a10 a11 a12 a13 a14 a15 r) 1 = !a1.holder:=rfl
theorem set_ch1:(ch a0 a1 a2 a3 a4 a5 a6 a7 a8 a9 a10 a11 a12 a13 a14 a15 r).set 1 x=ch a0 x a2 a3 a4 a5 a6 a7 a8 a9 a10 a11 a12 a13 a14 a15 r:=rfl
theorem gt_ch2:gt (ch a0 a1 a2 a3 a4 a5 a6 a7 a8 a9 a10 a11 a12 a13 a14 a15 r) 2=a2:=rfl
theorem nh_ch2:nh (ch a0 a1 a2 a3 a4 a5 a6 a7 a8 a9 a10 a11 a12 a13 a14 a15 r) 2 = !a2.holder:=rfl
theorem set_ch2:(ch a0 a1 a2 a3 a4 a5 a6 a7 a8 a9 a10 a11 a12 a13 a14 a15 r).set 2 x=ch a0 a1 x a3 a4 a5 a6 a7 a8 a9 a10 a11 a12 a13 a14 a15 r:=rfl
theorem gt_ch3:gt (ch a0 a1 a2 a3 a4 a5 a6 a7 a8 a9 a10 a11 a12 a13 a14 a15 r) 3=a3:=rfl
theorem nh_ch3:nh (ch a0 a1 a2 a3 a4 a5 a6 a7 a8 a9 a10 a11 a12 a13 a14 a15 r) 3 = !a3.holder:=rfl
theorem set_ch3:(ch a0 a1 a2 a3 a4 a5 a6 a7 a8 a9 a10 a11 a12 a13 a14 a15 r).set 3 x=ch a0 a1 a2 x a4 a5 a6 a7 a8 a9 a10 a11 a12 a13 a14 a15 r:=rfl
theorem gt_ch4:gt (ch a0 a1 a2 a3 a4 a5 a6 a7 a8 a9 a10 a11 a12 a13 a14 a15 r) 4=a4:=rfl
theorem nh_ch4:nh (ch a0 a1 a2 a3 a4 a5 a6 a7 a8 a9 a10 a11 a12 a13 a14 a15 r) 4 = !a4.holder:=rfl
theorem set_ch4:(ch a0 a1 a2 a3 a4 a5 a6 a7 a8 a9 a10 a11 a12 a13 a14 a15 r).set 4 x=ch a0 a1 a2 a3 x a5 a6 a7 a8 a9 a10 a11 a12 a13 a14 a15 r:=rfl
theorem gt_ch5:gt (ch a0 a1 a2 a3 a4 a5 a6 a7 a8 a9 a10 a11 a12 a13 a14 a15 r) 5=a5:=rfl
theorem nh_ch5:nh (ch a0 a1 a2 a3 a4 a5 a6 a7 a8 a9 a10 a11 a12 a13 a14 a15 r) 5 = !a5.holder:=rfl
theorem set_ch5:(ch a0 a1 a2 a3 a4 a5 a6 a7 a8 a9 a10 a11 a12 a13 a14 a15 r).set 5 x=ch a0 a1 a2 a3 a4 x a6 a7 a8 a9 a10 a11 a12 a13 a14 a15 r:=rfl
theorem gt_ch6:gt (ch a0 a1 a2 a3 a4 a5 a6 a7 a8 a9 a10 a11 a12 a13 a14 a15 r) 6=a6:=rfl
theorem nh_ch6:nh (ch a0 a1 a2 a3 a4 a5 a6 a7 a8 a9 a10 a11 a12 a13 a14 a15 r) 6 = !a6.holder:=rfl
theorem set_ch6:(ch a0 a1 a2 a3 a4 a5 a6 a7 a8 a9 a10 a11 a12 a13 a14 a15 r).set 6 x=ch a0 a1 a2 a3 a4 a5 x a7 a8 a9 a10 a11 a12 a13 a14 a15 r:=rfl
theorem gt_ch7:gt (ch a0 a1 a2 a3 a4 a5 a6 a7 a8 a9 a10 a11 a12 a13 a14 a15 r) 7=a7:=rfl
theorem nh_ch7:nh (ch a0 a1 a2 a3 a4 a5 a6 a7 a8 a9 a10 a11 a12 a13 a14 a15 r) 7 = !a7.holder:=rfl
theorem set_ch7:(ch a0 a1 a2 a3 a4 a5 a6 a7 a8 a9 a10 a11 a12 a13 a14 a15 r).set 7 x=ch a0 a1 a2 a3 a4 a5 a6 x a8 a9 a10 a11 a12 a13 a14 a15 r:=rfl
theorem gt_ch8:gt (ch a0 a1 a2 a3 a4 a5 a6 a7 a8 a9 a10 a11 a12 a13 a14 a15 r) 8=a8:=rfl
theorem nh_ch8:nh (ch a0 a1 a2 a3 a4 a5 a6 a7 a8 a9 a10 a11 a12 a13 a14 a15 r) 8 = !a8.holder:=rfl
theorem set_ch8:(ch a0 a1 a2 a3 a4 a5 a6 a7 a8 a9 a10 a11 a12 a13 a14 a15 r).set 8 x=ch a0 a1 a2 a3 a4 a5 a6 a7 x a9 a10 a11 a12 a13 a14 a15 r:=rfl
theorem gt_ch9:gt (ch a0 a1 a2 a3 a4 a5 a6 a7 a8 a9 a10 a11 a12 a13 a14 a15 r) 9=a9:=rfl
theorem nh_ch9:nh (ch a0 a1 a2 a3 a4 a5 a6 a7 a8 a9 a10 a11 a12 a13 a14 a15 r) 9 = !a9.holder:=rfl
theorem set_ch9:(ch a0 a1 a2 a3 a4 a5 a6 a7 a8 a9 a10 a11 a12 a13 a14 a15 r).set 9 x=ch a0 a1 a2 a3 a4 a5 a6 a7 a8 x a10 a11 a12 a13 a14 a15 r:=rfl
theorem gt_ch10:gt (ch a0 a1 a2 a3 a4 a5 a6 a7 a8 a9 a10 a11 a12 a13 a14 a15 r) 10=a10:=rfl
theorem nh_ch10:nh (ch a0 a1 a2 a3 a4 a5 a6 a7 a8 a9 a10 a11 a12 a13 a14 a15 r) 10 = !a10.holder:=rfl
theorem set_ch10:(ch a0 a1 a2 a3 a4 a5 a6 a7 a8 a9 a10 a11 a12 a13 a14 a15 r).set 10 x=ch a0 a1 a2 a3 a4 a5 a6 a7 a8 a9 x a11 a12 a13 a14 a15 r:=rfl
theorem gt_ch11:gt (ch a0 a1 a2 a3 a4 a5 a6 a7 a8 a9 a10 a11 a12 a13 a14 a15 r) 11=a11:=rfl
theorem nh_ch11:nh (ch a0 a1 a2 a3 a4 a5 a6 a7 a8 a9 a10 a11 a12 a13 a14 a15 r) 11 = !a11.holder:=rfl
theorem set_ch11:(ch a0 a1 a2 a3 a4 a5 a6 a7 a8 a9 a10 a11 a12 a13 a14 a15 r).set 11 x=ch a0 a1 a2 a3 a4 a5 a6 a7 a8 a9 a10 x a12 a13 a14 a15 r:=rfl
theorem gt_ch12:gt (ch a0 a1 a2 a3 a4 a5 a6 a7 a8 a9 a10 a11 a12 a13 a14 a15 r) 12=a12:=rfl
theorem nh_ch12:nh (ch a0 a1 a2 a3 a4 a5 a6 a7 a8 a9 a10 a11 a12 a13 a14 a15 r) 12 = !a12.holder:=rfl
theorem set_ch12:(ch a0 a1 a2 a3 a4 a5 a6 a7 a8 a9 a10 a11 a12 a13 a14 a15 r).set 12 x=ch a0 a1 a2 a3 a4 a5 a6 a7 a8 a9 a10 a11 x a13 a14 a15 r:=rfl
theorem gt_ch13:gt (ch a0 a1 a2 a3 a4 a5 a6 a7 a8 a9 a10 a11 a12 a13 a14 a15 r) 13=a13:=rfl
theorem nh_ch13:nh (ch a0 a1 a2 a3 a4 a5 a6 a7 a8 a9 a10 a11 a12 a13 a14 a15 r) 13 = !a13.holder:=rfl
theorem set_ch13:(ch a0 a1 a2 a3 a4 a5 a6 a7 a8 a9 a10 a11 a12 a13 a14 a15 r).set 13 x=ch a0 a1 a2 a3 a4 a5 a6 a7 a8 a9 a10 a11 a12 x a14 a15 r:=rfl
theorem gt_ch14:gt (ch a0 a1 a2 a3 a4 a5 a6 a7 a8 a9 a10 a11 a12 a13 a14 a15 r) 14=a14:=rfl
theorem nh_ch14:nh (ch a0 a1 a2 a3 a4 a5 a6 a7 a8 a9 a10 a11 a12 a13 a14 a15 r) 14 = !a14.holder:=rfl
theorem set_ch14:(ch a0 a1 a2 a3 a4 a5 a6 a7 a8 a9 a10 a11 a12 a13 a14 a15 r).set 14 x=ch a0 a1 a2 a3 a4 a5 a6 a7 a8 a9 a10 a11 a12 a13 x a15 r:=rfl
theorem gt_ch15:gt (ch a0 a1 a2 a3 a4 a5 a6 a7 a8 a9 a10 a11 a12 a13 a14 a15 r) 15=a15:=rfl
theorem nh_ch15:nh (ch a0 a1 a2 a3 a4 a5 a6 a7 a8 a9 a10 a11 a12 a13 a14 a15 r) 15 = !a15.holder:=rfl
theorem set_ch15:(ch a0 a1 a2 a3 a4 a5 a6 a7 a8 a9 a10 a11 a12 a13 a14 a15 r).set 15 x=ch a0 a1 a2 a3 a4 a5 a6 a7 a8 a9 a10 a11 a12 a13 a14 x r:=rfl
theorem gt_chS:gt (ch a0 a1 a2 a3 a4 a5 a6 a7 a8 a9 a10 a11 a12 a13 a14 a15 r) (n+16)=gt r n:=rfl
theorem nh_chS:nh (ch a0 a1 a2 a3 a4 a5 a6 a7 a8 a9 a10 a11 a12 a13 a14 a15 r) (n+16)=nh r n:=rfl
theorem set_chS:(ch a0 a1 a2 a3 a4 a5 a6 a7 a8 a9 a10 a11 a12 a13 a14 a15 r).set (n+16) x=ch a0 a1 a2 a3 a4 a5 a6 a7 a8 a9 a10 a11 a12 a13 a14 a15 (r.set n x):=rfl
theorem packS_cons:packS (a0::a1::a2::a3::a4::a5::a6::a7::a8::a9::a10::a11::a12::a13::a14::a15::r)=ch a0 a1 a2 a3 a4 a5 a6 a7 a8 a9 a10 a11 a12 a13 a14 a15 (packS r):=rfl
theorem packS_ch:packS (ch a0 a1 a2 a3 a4 a5 a6 a7 a8 a9 a10 a11 a12 a13 a14 a15 r)=ch a0 a1 a2 a3 a4 a5 a6 a7 a8 a9 a10 a11 a12 a13 a14 a15 (packS r):=rfl
theorem packS_0:packS []=[]:=rfl
theorem packS_1:packS [a0]=[a0]:=rfl
theorem packS_2:packS [a0,a1]=[a0,a1]:=rfl
theorem packS_3:packS [a0,a1,a2]=[a0,a1,a2]:=rfl
theorem packS_4:packS [a0,a1,a2,a3]=[a0,a1,a2,a3]:=rfl
theorem packS_5:packS [a0,a1,a2,a3,a4]=[a0,a1,a2,a3,a4]:=rfl
theorem packS_6:packS [a0,a1,a2,a3,a4,a5]=[a0,a1,a2,a3,a4,a5]:=rfl
theorem packS_7:packS [a0,a1,a2,a3,a4,a5,a6]=[a0,a1,a2,a3,a4,a5,a6]:=rfl
theorem packS_8:packS [a0,a1,a2,a3,a4,a5,a6,a7]=[a0,a1,a2,a3,a4,a5,a6,a7]:=rfl
theorem packS_9:packS [a0,a1,a2,a3,a4,a5,a6,a7,a8]=[a0,a1,a2,a3,a4,a5,a6,a7,a8]:=rfl
theorem packS_10:packS [a0,a1,a2,a3,a4,a5,a6,a7,a8,a9]=[a0,a1,a2,a3,a4,a5,a6,a7,a8,a9]:=rfl
theorem packS_11:packS [a0,a1,a2,a3,a4,a5,a6,a7,a8,a9,a10]=[a0,a1,a2,a3,a4,a5,a6,a7,a8,a9,a10]:=rfl
theorem packS_12:packS [a0,a1,a2,a3,a4,a5,a6,a7,a8,a9,a10,a11]=[a0,a1,a2,a3,a4,a5,a6,a7,a8,a9,a10,a11]:=rfl
theorem packS_13:packS [a0,a1,a2,a3,a4,a5,a6,a7,a8,a9,a10,a11,a12]=[a0,a1,a2,a3,a4,a5,a6,a7,a8,a9,a10,a11,a12]:=rfl
theorem packS_14:packS [a0,a1,a2,a3,a4,a5,a6,a7,a8,a9,a10,a11,a12,a13]=[a0,a1,a2,a3,a4,a5,a6,a7,a8,a9,a10,a11,a12,a13]:=rfl
theorem packS_15:packS [a0,a1,a2,a3,a4,a5,a6,a7,a8,a9,a10,a11,a12,a13,a14]=[a0,a1,a2,a3,a4,a5,a6,a7,a8,a9,a10,a11,a12,a13,a14]:=rfl
theorem stripEff_ch {tk:List Nat} {i:Nat}:stripEff tk i (ch a0 a1 a2 a3 a4 a5 a6 a7 a8 a9 a10 a11 a12 a13 a14 a15 r)=stripEff tk i (a0::a1::a2::a3::a4::a5::a6::a7::a8::a9::a10::a11::a12::a13::a14::a15::r):=rfl
theorem dropEff_ch {s i:Nat}:dropEff s i (ch a0 a1 a2 a3 a4 a5 a6 a7 a8 a9 a10 a11 a12 a13 a14 a15 r)=dropEff s i (a0::a1::a2::a3::a4::a5::a6::a7::a8::a9::a10::a11::a12::a13::a14::a15::r):=rfl
theorem frzFrom_ch {s:Nat} {hv:AV} {i:Nat}:frzFrom s hv i (ch a0 a1 a2 a3 a4 a5 a6 a7 a8 a9 a10 a11 a12 a13 a14 a15 r)=frzFrom s hv i (a0::a1::a2::a3::a4::a5::a6::a7::a8::a9::a10::a11::a12::a13::a14::a15::r):=rfl
theorem dropFrom_ch {s i:Nat}:dropFrom s i (ch a0 a1 a2 a3 a4 a5 a6 a7 a8 a9 a10 a11 a12 a13 a14 a15 r)=dropFrom s i (a0::a1::a2::a3::a4::a5::a6::a7::a8::a9::a10::a11::a12::a13::a14::a15::r):=rfl
theorem onlyFrom_ch {ks:List Nat} {i:Nat}:onlyFrom ks i (ch a0 a1 a2 a3 a4 a5 a6 a7 a8 a9 a10 a11 a12 a13 a14 a15 r)=onlyFrom ks i (a0::a1::a2::a3::a4::a5::a6::a7::a8::a9::a10::a11::a12::a13::a14::a15::r):=rfl
end
attribute [go_sem] gt_ch0 nh_ch0 set_ch0 gt_ch1 nh_ch1 set_ch1 gt_ch2 nh_ch2 set_ch2 gt_ch3 nh_ch3 set_ch3 gt_ch4 nh_ch4 set_ch4 gt_ch5 nh_ch5 set_ch5 gt_ch6 nh_ch6 set_ch6 gt_ch7 nh_ch7 set_ch7 gt_ch8 nh_ch8 set_ch8 gt_ch9 nh_ch9 set_ch9 gt_ch10 nh_ch10 set_ch10 gt_ch11 nh_ch11 set_ch11 gt_ch12 nh_ch12 set_ch12 gt_ch13 nh_ch13 set_ch13 gt_ch14 nh_ch14 set_ch14 gt_ch15 nh_ch15 set_ch15 gt_chS nh_chS set_chS packS_cons packS_ch packS_0 packS_1 packS_2 packS_3 packS_4 packS_5 packS_6 packS_7 packS_8 packS_9 packS_10 packS_11 packS_12 packS_13 packS_14 packS_15 stripEff_ch dropEff_ch frzFrom_ch dropFrom_ch onlyFrom_ch
theorem app_nil {σ:List AV}:app [] σ=σ:=rfl
theorem app_cons {σ:List AV} {p:Nat×AV} {r:List (Nat×AV)}:app (p::r) σ=app r (σ.set p.1 p.2):=rfl
theorem opd_tmp {σ:List AV} {t:Nat}:opd σ (.tmp t)=gt σ t:=rfl
theorem opd_int {σ:List AV} {k:IntKind} {n:Int}:opd σ (.const (.int k n))=.one (.raw (.int k n)):=rfl
theorem opd_bool {σ:List AV} {b:Bool}:opd σ (.const (.bool b))=.one (.raw (.bool b)):=rfl
theorem opd_string {σ:List AV} {s:ByteArray}:opd σ (.const (.string s))=.one (.raw (.string s)):=rfl
theorem opd_slice {σ:List AV} {a:Option Addr} {l c:Nat}:opd σ (.const (.slice a l c))=.one (.raw (.slice a l c)):=rfl
theorem opd_agg {σ:List AV} {vs:Array Value}:opd σ (.const (.agg vs))=constAV (.agg vs):=rfl
theorem opd_func {σ:List AV} {f:FuncId}:opd σ (.func f)=.one (.raw (.func (.func f) #[] #[])):=rfl
theorem val_some {σ:List AV} {o:Oper} {rd:List Nat} {av:AV}:val σ o rd av=match o.dst with
 | some d=>if nh σ d then some (d::rd,[(d,av)]) else none
 | none=>none:=rfl
theorem of_some {x:List Nat×List (Nat×AV)}:OR.of (some x)=.eff x.1 [] x.2:=rfl
theorem of_none:OR.of none=.bad:=rfl
theorem many_agg {s b:Nat} {z:List Cell} {sh:Sh}:TI.many ⟨s,b,z,sh⟩=if sh.agg then some true else if sh.plain then some false else none:=rfl
theorem withTI_of {t:TypeId} {ti:TI} (h:mkTI P t=some ti) {k:TI→OR}:withTI P t k=k ti:=by unfold withTI;rw [h]
theorem ite_t {α:Type} {c:Prop} [Decidable c] {a b:α} (h:c):(if c then a else b)=a:=if_pos h
theorem ite_f {α:Type} {c:Prop} [Decidable c] {a b:α} (h:¬c):(if c then a else b)=b:=if_neg h
theorem w64 {n:Int} (h:-9223372036854775808≤n∧n≤9223372036854775807):IntKind.i64.wrap n=n:=by rw [IntKind.wrap_i64];omega
theorem opt_map_some {α β:Type} (f:α→β) (a:α):(some a).map f=some (f a):=rfl
theorem opt_map_none {α β:Type} (f:α→β):(none:Option α).map f=none:=rfl
theorem opt_bind_some {α β:Type} (f:α→Option β) (a:α):(some a).bind f=f a:=rfl
theorem beqI {a b:Int}:(a==b)=decide (a=b):=rfl
theorem bneI {a b:Int}:(a != b)=decide (a≠b):=by simp [bne,beqI]
theorem guardd {p:Prop} [Decidable p] {X Y:Bool→Prop} (hx:p→X true) (hy:¬p→Y true):GuardK (decide p) true X Y:=⟨fun h=>hx (of_decide_eq_true h),fun h=>hy (of_decide_eq_false h)⟩
theorem guardn {p:Prop} [Decidable p] {X Y:Bool→Prop} (hx:¬p→X true) (hy:p→Y true):GuardK (decide p) false X Y:=⟨fun h=>hx (of_decide_eq_false h),fun h=>hy (of_decide_eq_true h)⟩
theorem bif_t {α:Type} {a b:α}:(bif true then a else b)=a:=rfl
theorem bif_f {α:Type} {a b:α}:(bif false then a else b)=b:=rfl
attribute [go_sem 100] ite_t ite_f
attribute [go_sem 10000] if_true if_false
attribute [go_sem] w64
attribute [go_sem] beqI bneI bif_t bif_f
attribute [go_sem ↓] rc_skip rc_region rc_regionD rc_seq rc_cond rc_block rc_loop rc_exit rc_ret
attribute [go_sem] runF_nil runF_cons runG_nil runG_cons nrm_cons nrm_ch nrmR_nil nrmR_cons
attribute [go_sem ↓] hide_1 hide_2 hide_4 hide_r hide_o
attribute [go_sem] tick_true tick_false tick_plain tick_when tick_skip tick_eff tick_call tick_own tick_one
attribute [go_sem ↓] thenC_normal thenC_exit thenC_ret inBlockC_normal inBlockC_exit inBlockC_ret
attribute [go_sem] selE_t selE_f
attribute [go_sem] doF_eff doF_call doF_own ownF_some retCX_ret onD_nil gdF_plain gdF_when gdF_skip
attribute [go_sem] guardK_tt guardK_ff guardK_tf guardK_ft condK_t condK_f condF_bool retC_ret
attribute [congr] ltF_congr selE_congr seqF_congr joinK_congr ownF_congr doF_congr guardK_congr condK_congr runF_congr runG_congr
attribute [go_sem] gt_zero gt_succ nh_zero nh_succ app_nil app_cons opd_tmp opd_int opd_bool opd_string opd_slice opd_agg opd_func val_some of_some of_none many_agg
attribute [go_sem] opt_map_some opt_map_none opt_bind_some List.set_cons_zero List.set_cons_succ Option.getD_some Option.getD_none List.getElem?_cons_zero List.getElem?_cons_succ List.getElem?_nil
attribute [go_sem] ownView argsXA Cell.splice newSlot newRes ghOf ghL ghA setAny frz frzFrom frzOne AV.frzd Cell.sub Cell.at Cell.upd Cell.cnt Cell.esz AV.boxOf AV.reBox AV.fresh osliceA AV.isOwn ownRes
attribute [go_sem] ltF_f seqF_t seqF_f joinAt firstR hasJoin onlyS onlyFrom anyH nextK pickK isK
attribute [go_sem] opA opA0 opL selO litA litB litE isNone hasLit emptyOf isZc zcAt ownN appendNA isX opX nilO nilV tiX valX maxV eqOp bothB bbA ownAtB ownAt appendOA nilA nilC emptyA dropEff_nil dropEff_cons hitB dropS dropFrom dropOne mvS AV.rf
attribute [go_sem] guardA skipF opB vofA vofB sliceOk elemTI arrOk cpy pickA cellsOfAV loadC loadA storeA fieldAddrA extractA elemAt indexAddrA abin binA aun unA convA lenC lenA lenOk lenFit Cell.isSl natA boundA orrO cutC sliceA makeA
attribute [go_sem] fillC avParts orrs placeOf buildA intsOf chunk repeatL buildSliceA toInts toRows joinC ownC stripEff_nil stripEff_cons consB appendA argA argsA orrL dstRd callEff nhDst plainFn orr AV.holder AV.isBox AV.isArr Sh.agg Sh.plain Cell.bare bareL constAV
attribute [go_sem] resOne resAll resAV AV.noTok noTokL Cell.noTok AV.stripAll
attribute [go_sem] List.take_succ_cons List.take_zero List.drop_succ_cons List.drop_zero List.drop_nil List.take_nil List.length_cons List.length_nil List.cons_append List.nil_append List.append_nil List.all_cons List.all_nil List.map_cons List.map_nil
theorem bq4 {b:Bool}:(b==false) = !b:=by cases b<;>rfl
attribute [go_sem] bq4 List.foldl_cons List.foldl_nil AV.strip Cell.strip stripL
attribute [go_sem] Bool.not_true Bool.not_false Bool.false_eq_true Bool.true_and Bool.and_true Bool.false_and Bool.and_false true_and and_true and_self cond_true cond_false not_true_eq_false not_false_eq_true
attribute [go_sem] Nat.zero_add Nat.add_zero List.drop_length List.take_length List.length_set List.length_replicate
attribute [go_sem] decide_true decide_false beq_self_eq_true bne_self_eq_false Option.toList Int.toNat_natCast List.toList_toArray
theorem rg {p q:Prop} (k:q) (h:p=q:=by conv=>lhs;simp (maxSteps:=2000000) (disch:=omega) only [go_sem,Nat.reduceAdd,Nat.reduceSub,Nat.reduceMul,Int.reduceToNat,Nat.reduceEqDiff,Nat.reduceBEq,Nat.reduceBneDiff]):p:=Eq.mpr h k
end Go.Slot

namespace Go.Slot
open Go Go.RowKit
variable {P:Program}
theorem CallsTo.nilInts {f:FuncId} {k:IntKind} {res:AV} (h:∀ b,CallsTo P f [.one (.nn b)] res):CallsTo P f [.one (.ints k [])] res:=by
 refine ⟨(h true).1,fun M w vs hM hr=>?_⟩
 match vs,hr with
 | [v],hr=>
  have hv:RdC M w v (.ints k []):=hr.1
  cases hv with
  | @ints a len cap _ _ b off hl hc ha hh=>
   subst hl
   exact (h a.isNone).2 M w _ hM ⟨(RdC.nn:RdC M w (.slice a 0 cap) (.nn a.isNone)),trivial⟩
end Go.Slot

namespace Go.Slot
open Go Go.RowKit Go.ChangeShapes
variable {P:Program} {H:Type} {enc:TypeId×Value→H} {w:World} {spare:Nat→Bool} {held:Bool}
inductive Sp where
 | int (k:IntKind)
 | bool
 | str
 | ints (k:IntKind)
 | sl (l:List Sp)
inductive Fit (N:Nat):Sp→Cell→Prop
 | int {k:IntKind} {n:Int} (h:k.min≤n∧n≤k.max):Fit N (.int k) (.raw (.int k n))
 | bool {b:Bool}:Fit N .bool (.raw (.bool b))
 | str {s:ByteArray} (h:s.size≤N):Fit N .str (.raw (.string s))
 | ints {k:IntKind} {L:List Int} (hl:L.length≤N) (h:∀ x∈L,k.min≤x∧x≤k.max):Fit N (.ints k) (.ints k L)
 | sl {l:List Sp} {rows:List (List Cell)} (hl:rows.length≤N) (hlen:∀ r∈rows,r.length=l.length) (h:∀(r:List Cell),r∈rows→∀(i:Nat) (s:Sp) (c:Cell),l[i]? = some s→r[i]? = some c→Fit N s c):Fit N (.sl l) (.sl l.length rows)
def FitL (N:Nat) (l:List Sp) (cs:List Cell):Prop:=cs.length=l.length∧∀(i:Nat) (s:Sp) (c:Cell),l[i]? = some s→cs[i]? = some c→Fit N s c
theorem FitL.cons {N:Nat} {s:Sp} {l:List Sp} {cs:List Cell} (h:FitL N (s::l) cs):∃ c r,cs=c::r∧Fit N s c∧FitL N l r:=by
 obtain ⟨h1,h2⟩:=h
 cases cs with
 | nil=>simp at h1
 | cons c r=>exact ⟨c,r,rfl,h2 0 s c rfl rfl,by simpa using h1,fun i s' c' hs hc=>h2 (i+1) s' c' (by simpa using hs) (by simpa using hc)⟩
theorem FitL.nil {N:Nat} {cs:List Cell} (h:FitL N [] cs):cs=[]:=List.eq_nil_of_length_eq_zero h.1
theorem FitL.one {N:Nat} {s:Sp} {c:Cell} (h:Fit N s c):FitL N [s] [c]:=⟨rfl,fun i s' c' hs hc=>by
 cases i with
 | zero=>simp at hs hc;subst hs hc;exact h
 | succ i=>simp at hs⟩
theorem FitL.append {N:Nat} {l l':List Sp} {cs cs':List Cell} (h:FitL N l cs) (h':FitL N l' cs'):FitL N (l++l') (cs++cs'):=by
 refine ⟨by simp [h.1,h'.1],fun i s c hs hc=>?_⟩
 rcases Nat.lt_or_ge i l.length with hi | hi
 · rw [List.getElem?_append_left hi] at hs
   rw [List.getElem?_append_left (by rw [h.1];exact hi)] at hc
   exact h.2 i s c hs hc
 · rw [List.getElem?_append_right hi] at hs
   rw [List.getElem?_append_right (by rw [h.1];exact hi),h.1] at hc
   exact h'.2 _ s c hs hc
structure Bulk (bk:DataW H→Nat):Prop where
 str:∀ b,b.length≤bk (.lit (.string b))
 elems:∀ l r,l.length≤bk (.slice l r)
 elem:∀ l r d,d∈l→bk d≤bk (.slice l r)
 part:∀ l d,d∈l→bk d≤bk (.agg l)
theorem RdD.app0 {M:Nat→Nat→Prop} {w:World}:∀{vs us:List Value} {cs ds:List Cell},RdD M w vs cs→RdD M w us ds→RdD M w (vs++us) (cs++ds)
 | [],_,[],_,_,h=>h
 | _::_,_,_::_,_,h,h'=>⟨h.1,RdD.app0 h.2 h'⟩
theorem cellAt {a:Addr} {v:Value} (h:w.cell? a=some v):a.spot=none:=by
 unfold World.cell? at h
 split at h
 · split at h
   · cases h
   · rename_i hs;simpa using hs
 · cases h
theorem addrAt {a:Addr} (h:a.spot=none) (n:Nat):a.add n=⟨a.block,a.off+n,none⟩:=by
 unfold Addr.add
 split
 · rename_i e;subst e;cases a;simp at h;subst h;rfl
 · rfl
section
variable {bk:DataW H→Nat} {N:Nat}
end
end Go.Slot

namespace Go.Slot
open Go Go.RowKit Go.ChangeShapes Go.WideShapes
variable {P:Program} {H:Type} {enc:TypeId×Value→H}
def M0:Nat→Nat→Prop:=fun _ _=>False
section
variable {w:World} {spare:Nat→Bool} {held:Bool} {bk:DataW H→Nat} {N:Nat} {r:Reach} {b0:Nat}
end
theorem trods_stay (hl:laidOutB P=true) {W W':World} (hb:Below W.heap.size W W') {sp:Nat→Bool}:∀{ts:List TypeId} {vs:List Value} {ds:List (DataW H)} {ps:List MemPlace},(∀ t∈ts,P.readableRec t=true∧t<P.types.size)→
 DataW.TrodAll enc P W 0 (fun _=>true) true ts vs ds ps→(∀ p∈ps,p.block<W.heap.size)→(∀ p∈ps,sp p.block=true)→DataW.TrodAll enc P W' 0 sp true ts vs ds ps
 | [],vs,ds,ps,_,h,_,_=>by
  obtain ⟨rfl,rfl,rfl⟩:=trodAll_nil h
  exact trodAll_mk0
 | t::ts,vs,ds,ps,hts,h,hlt,hsp=>by
  obtain ⟨v,vs',d,ds',p,q,rfl,rfl,rfl,⟨fuel,h1⟩,h2⟩:=trodAll_cons h
  have ht:=hts t (by simp)
  exact ⟨p,q,⟨fuel,DataW.trod_stays (kids_book hl ht.1) (book_sized ht.1) (fun h=>by cases h) ⟨ht.2,book_self t⟩ h1 (fun x hx=>hb.same (hlt x (by simp [hx]))) (fun x hx=>hsp x (by simp [hx]))⟩,
   trods_stay hl hb (fun u hu=>hts u (by simp [hu])) h2 (fun x hx=>hlt x (by simp [hx])) (fun x hx=>hsp x (by simp [hx])),rfl⟩
theorem keptBut_below {W W':World} {may:MemPlace→Prop} (hb:Below W.heap.size W W'):W.keptBut W' may:=by
 refine ⟨hb.os,hb.output,fun i hi=>?_⟩
 rw [hb.block i hi]
 split
 · rename_i h1 h2
   rw [h1] at h2;cases h2
   exact ⟨rfl,rfl,rfl,fun _ _=>rfl⟩
 · rename_i h1 h2
   rw [h1] at h2;cases h2
   exact .inr ⟨rfl,rfl⟩
 · rfl
theorem frozen_below {W W':World} (hb:Below W.heap.size W W') {a:Addr} (h:a.block<W.heap.size):W'.frozen? a=W.frozen? a:=by
 unfold World.frozen?
 rw [hb.block _ h]
theorem law_post (hl:laidOutB P=true) {f:Func} {s:ChangeSpec} {apart fresh handsOn again:Bool} {W W':World} {args:Array Value} {ds gs:List (DataW H)} {before:List MemPlace} {tb:TypeId}
 (hts:∀ t∈f.params.toList,P.readableRec t=true∧t<P.types.size) (hv:s.vars=[]) (hrt:f.resultTypes=#[tb]) (htb:P.underlying tb=some .bool)
 (hfn:∀ ds gs:List (DataW H),DataW.TrodAll enc P W 0 (fun _=>true) true f.params.toList args.toList ds before→gs=[]→(s.fn H (ds++gs)).results=[.lit (.bool true)]∧(s.fn H (ds++gs)).args=ds∧(s.fn H (ds++gs)).vars=[])
 (hW:DataW.Whole enc P f.params.toList s.vars apart W args.toList ds gs before) (hb:Below W.heap.size W W'):s.post enc P f apart fresh handsOn again W args (.bool true) W':=by
 have hlt:∀ p∈before,p.block<W.heap.size:=fun p hp=>hW.lt p hp
 have hW':=hW
 obtain ⟨p,q,hA,hV,rfl,hfz,hnd⟩:=hW
 rw [hv] at hV
 obtain ⟨rfl,rfl⟩:=trodVars_none hV
 rw [List.append_nil] at hW' hlt hfz hnd hfn
 obtain ⟨e1,e2,e3⟩:=hfn ds [] hA rfl
 have hres:∀(b:Nat) (sp:Nat→Bool) (hd:Bool),DataW.TrodAll enc P W' b sp hd f.resultTypes.toList ((Value.bool true).resultList f.resultTypes.size) (s.fn H (ds++[])).results []:=fun b sp hd=>by
  rw [e1,hrt]
  exact trodAll_cons_mk (shut_bool htb true) trodAll_mk0
 have hargs:∀ sp:Nat→Bool,(∀ x∈p,sp x.block=true)→DataW.TrodAll enc P W' 0 sp true f.params.toList args.toList (s.fn H (ds++[])).args p:=fun sp hsp=>by
  rw [e2]
  exact trods_stay hl hb hts hA hlt hsp
 have hvars:∀ sp:Nat→Bool,DataW.TrodVars enc P W' sp s.vars (s.fn H (ds++[])).vars []:=fun sp=>by
  rw [e3,hv];exact rfl
 refine ⟨ds,[],p,[],p,[],hW',hres _ _ _,hargs _ (fun x hx=>by simpa using hlt x hx),hvars _,keptBut_below hb,fun _=>⟨?_,_,_,([]++p)++[],⟨[]++p,[],trodAll_append (hargs _ (fun _ _=>rfl)) (hres _ _ _),hvars _,rfl,?_,?_⟩,?_⟩⟩
 · exact ok_one hrt rfl (okWide_bool_mk htb true)
 · intro b off hp
   have hp':MemPlace.cell b off∈p:=by simpa using hp
   rw [frozen_below hb (hlt _ hp')]
   exact hfz b off hp'
 · intro ha
   simpa using hnd ha
 · intro x hx _
   simpa using hx
end Go.Slot
