/- The proof, part Y1: Mc, Md. -/
import Derived.Test.YtocdljjhobaabaaGreatDoorY0
namespace Go.Slot
open Go Go.RowKit
inductive Sh where
 | int (k:IntKind)
 | bool
 | string
 | struct (fs:List (Nat×Nat×TypeId))
 | array (n e es:Nat)
 | slice (e es eb:Nat) (ik:Option IntKind)
 | map (k e:TypeId)
 | cell
 | other
structure TI where
 size:Nat
 bytes:Nat
 zc:List Cell
 sh:Sh
def zk0:Value->Cell
 | .slice none 0 0=>.zc
 | v=>.raw v
def shOf (P:Program):TypeDesc->Sh
 | .int k=>.int k
 | .bool=>.bool
 | .string=>.string
 | .struct fs=>if (fs.toList.all fun f=>P.cellsOf f.type != 0) then .struct (fs.toList.map fun f=>(f.offset,P.cellsOf f.type,f.type)) else .other
 | .array n e=>.array n e (P.cellsOf e)
 | .slice e=>match P.info? e with
  | some i=>match i.zero with
   | some z=>if i.size != 0&&z.cells.size==i.size then .slice e i.size i.bytes (match P.underlying e with | some (.int k)=>some k | _=>none) else .other
   | none=>.other
  | none=>.other
 | .map k e=>.map k e
 | .pointer _=>.cell
 | .func _ _ _=>.cell
 | .interface _=>.cell
 | .unsafePointer=>.cell
 | _=>.other
def mkTI (P:Program) (t:TypeId):Option TI:=
 match P.underlying t,P.info? t with
 | some d,some i=>match i.zero with
  | some z=>if z.cells.toList.all (·.oneCell')&&z.cells.size==i.size then some ⟨i.size,i.bytes,z.cells.toList.map zk0,shOf P d⟩ else none
  | none=>none
 | _,_=>none
structure TIok (P:Program) (t:TypeId) (ti:TI):Prop where
 ex:∃(d:TypeDesc) (i:TypeInfo) (z:Value),P.underlying t=some d/\P.info? t=some i/\i.zero=some z/\i.size=ti.size/\i.bytes=ti.bytes/\
  z.cells.size=ti.size/\(∀ v∈z.cells.toList,v.oneCell'=true)/\ti.zc=z.cells.toList.map zk0/\ti.sh=shOf P d
theorem xky {P : Program} {t : TypeId} {ti : TI} (h : mkTI P t = some ti) : TIok P t ti := by
 unfold mkTI at h;split at h
 . rename_i d i hd hi;split at h
   . rename_i z hz;split at h
     . rename_i hc;simp only [Bool.and_eq_true,List.all_eq_true,beq_iff_eq] at hc
       cases h;exact ⟨d,i,z,hd,hi,hz,rfl,rfl,hc.2,hc.1,rfl,rfl⟩
     . cases h
   . cases h
 . cases h
def Sh.agg:Sh->Bool
 | .struct _ | .array _ _ _=>true
 | _=>false
def Sh.plain:Sh->Bool
 | .int _ | .bool | .string | .slice _ _ _ _ | .map _ _ | .cell=>true
 | _=>false
def TI.many (ti:TI):Option Bool:=if ti.sh.agg then some true else if ti.sh.plain then some false else none
section
variable {P:Program} {w:World}
theorem z6x {t:TypeId} {d:TypeDesc} (h:P.underlying t=some d):(underlying t).run P w=.ok d w:=run_underlying h w
theorem yg7 {t:TypeId} {i:TypeInfo} (h:P.info? t=some i):(sizeOf t).run P w=.ok i.size w:=by simp [sizeOf,typeInfo,h]
theorem v0q {t:TypeId} {i:TypeInfo} {z:Value} (h:P.info? t=some i) (hz:i.zero=some z):(zeroValue t).run P w=.ok z w:=by simp [zeroValue,typeInfo,h,hz]
theorem xpk {d:TypeDesc} (h:(shOf P d).agg=true):(∃ fs,d=.struct fs)\/∃ n e,d=.array n e:=by
 cases d with
 | struct fs=>exact .inl ⟨fs,rfl⟩
 | array n e=>exact .inr ⟨n,e,rfl⟩
 | slice e=>
  exfalso;revert h;unfold shOf;dsimp only
  split
  . split
    . split<;>simp [Sh.agg]
    . simp [Sh.agg]
  . simp [Sh.agg]
 | _=>simp [shOf,Sh.agg] at h
theorem vsv {d:TypeDesc} (h:(shOf P d).plain=true):(∀ fs,d≠.struct fs)/\∀ n e,d≠.array n e:=by
 cases d with
 | struct fs=>
  exfalso;revert h;unfold shOf;dsimp only
  split<;>simp [Sh.plain]
 | array n e=>simp [shOf,Sh.plain] at h
 | _=>simp
theorem TIok.z1f {t:TypeId} {ti:TI} (h:TIok P t ti) {b:Bool} (hb:ti.many=some b):(isAgg t).run P w=.ok b w:=by
 obtain ⟨d,i,z,hd,hi,hz,_,_,_,_,_,hsh⟩:=h.ex;unfold TI.many at hb;rw [hsh] at hb;unfold isAgg;simp only [Sem.run_bind,z6x hd,Result.andThen_ok];split at hb
 . rename_i ha
   cases hb
   rcases xpk ha with ⟨fs,rfl⟩ | ⟨n,e,rfl⟩<;>rfl
 . split at hb
   . rename_i hp
     cases hb
     have:=vsv hp
     cases d<;>first | rfl | exact absurd rfl (this.1 _) | exact absurd rfl (this.2 _ _)
   . cases hb
end
def vkt:Value->AV
 | .agg vs=>if vs.toList.all (·.oneCell') then .agg (vs.toList.map .raw) else .any
 | .tuple _=>.any
 | v=>.one (.raw v)
def opd (σ:List AV):Operand->AV
 | .tmp t=>gt σ t
 | .const v=>vkt v
 | .func f=>.one (.raw (.func (.func f) #[] #[]))
 | .global _=>.any
def orr:Operand->List Nat
 | .tmp t=>[t]
 | _=>[]
def agree (rd:List Nat) (σ σ':List AV):Prop:=σ'.length=σ.length/\∀ r∈rd,gt σ' r=gt σ r
theorem agree.opd {rd:List Nat} {σ σ':List AV} (h:agree rd σ σ') {x:Operand} (hx:∀ t∈orr x,t∈rd):opd σ' x=opd σ x:=by
 cases x with
 | tmp t=>exact h.2 t (hx t (by simp [orr]))
 | _=>rfl
theorem RdL.raws {M:Nat->Nat->Prop} {w:World} {τ:Nat->TV}:∀{vs:List Value},(∀ v∈vs,v.oneCell'=true)->RdL M w τ vs (vs.map .raw)
 | [],_=>trivial
 | v::vs,h=>⟨RdC.raw (h v (by simp)),RdL.raws (fun u hu=>h u (by simp [hu]))⟩
theorem yht {M:Nat->Nat->Prop} {w:World} {τ:Nat->TV} (v:Value):RdA M w τ v (vkt v):=by
 unfold vkt
 split
 . rename_i vs
   split
   . rename_i h;exact ⟨vs.toList,by simp,RdL.raws (fun v hv=>(List.all_eq_true.1 h) v hv)⟩
   . trivial
 . trivial
 . rename_i h1 h2;exact RdC.raw (by cases v<;>simp_all [Value.oneCell'])
theorem RdA.slot {M:Nat->Nat->Prop} {w:World} {τ:Nat->TV} {tm:Array Value} {v:Value} {av:AV} (h:RdA M w τ v av):x5d M w τ tm v av:=by
 cases av<;>first | exact h | exact h.elim
section
variable {E:Env} {τ:Nat->TV} {M:Nat->Nat->Prop} {σ:List AV} {a:Act} {w:World}
theorem RelI.gt (h:RelI E τ M σ a w) (t:Nat):x5d M w τ a.tmps (a.tmps.getD t Go.undef) (gt σ t):=by
 unfold Slot.gt
 cases ht:σ[t]? with
 | none=>exact trivial
 | some av=>exact h.slot t av ht
theorem RelI.opd (h:RelI E τ M σ a w) (x:Operand):x5d M w τ a.tmps (a.eval x) (opd σ x):=by
 cases x with
 | tmp t=>exact h.gt t
 | const v=>exact (yht v).slot
 | func f=>exact RdC.raw rfl
 | global g=>exact trivial
theorem w3d {t:Nat} {av:AV} (h:gt σ t=av) (hne:av≠.any):σ[t]? = some av:=by
 unfold gt at h
 cases ht:σ[t]? with
 | none=>rw [ht] at h;exact absurd h.symm hne
 | some x=>rw [ht] at h;simp at h;rw [h]
theorem x46 {x:Operand} {t:Nat} (ht:(Slot.opd σ x).y1a t):live σ t:=by
 cases x with
 | tmp s=>
  refine ⟨s,Slot.gt σ s,w3d rfl (fun e=>?_),ht⟩;simp only [Slot.opd] at ht;rw [e] at ht;exact ht
 | const v=>
  simp only [Slot.opd,vkt] at ht;split at ht
  . split at ht
    . exfalso;rename_i vs _;simp only [AV.y1a] at ht;generalize vs.toList=l at ht
      induction l with
      | nil=>exact ht
      | cons c l ih=>exact ht.elim (fun h=>h) ih
    . exact ht.elim
  . exact ht.elim
  . exact ht.elim
 | func f=>exact ht.elim
 | global g=>exact ht.elim
end
def app:List (Nat×AV)->List AV->List AV
 | [],σ=>σ
 | (s,v)::r,σ=>app r (σ.set s v)
def ztu (P:Program) (o:Oper) (σ:List AV) (rd tk:List Nat) (eff:List (Nat×AV)):Prop:=
 ∀(E:Env) (σ':List AV) (a:Act) (w:World),agree rd σ σ'->(∀ t∈tk,∀ i,(gt σ' i).y1a t->i∈rd)->Rel E σ' a w->∀(K:Act->World->Prop) (Q:Exit->Act->World->Prop),
  (∀ a' w',Rel E (app eff σ') a' w'->K a' w')->o.wp P a w K Q
def nh (σ:List AV) (d:Nat):Bool:=match σ[d]? with
 | some av=>!av.xeo
 | none=>false
theorem z5w {σ:List AV} {d:Nat} (h:nh σ d=true):∃ old,σ[d]? = some old/\old.xeo=false:=by
 unfold nh at h;split at h
 . rename_i av hav;exact ⟨av,hav,by simpa using h⟩
 . cases h
theorem agree.nh {rd:List Nat} {σ σ':List AV} (h:agree rd σ σ') {d:Nat} (hd:d∈rd) (hn:nh σ d=true):nh σ' d=true:=by
 obtain ⟨old,h1,h2⟩:=z5w hn
 have hlt:d<σ'.length:=by rw [h.1];exact (List.getElem?_eq_some_iff.1 h1).1
 have:=h.2 d hd
 unfold Slot.gt at this;rw [h1,List.getElem?_eq_getElem hlt] at this;simp at this;unfold Slot.nh;rw [List.getElem?_eq_getElem hlt];simp [this,h2]
theorem ztu.val {P:Program} {o:Oper} {σ:List AV} {rd:List Nat} {d:Nat} {av:AV} (hdst:o.dst=some d) (hd:d∈rd) (hn:nh σ d=true) (hav:av.xeo=false)
 (hrun:∀(E:Env) (τ:Nat->TV) (M:Nat->Nat->Prop) (σ':List AV) (a:Act) (w:World),agree rd σ σ'->RelI E τ M σ' a w->
   ∃ v w',(execOp a.eval o).run P w=.ok (.value v) w'/\Below w.heap.size w w'/\x5d M w' τ a.tmps v av/\(∀ t,av.y1a t->live σ' t)/\
    (∀(s:Nat) (b:Bool),av.rf=some (s,b)->∃ hv:AV,σ'[s]? = some hv/\hv.fits b=true)):ztu P o σ rd [] [(d,av)]:=by
 intro E σ' a w hag _ ⟨τ,M,h⟩ K Q hK;obtain ⟨v,w',hr,hb,hok,htok,hrf⟩:=hrun E τ M σ' a w hag h;obtain ⟨old,h1,h2⟩:=z5w (hag.nh hd hn);unfold Oper.wp;rw [hr];show K (a.put o.dst v) w';rw [hdst];exact hK _ _ ⟨τ,M,(h.below hb).put h1 h2 v av hav hok hrf htok⟩
theorem ztu.new {P:Program} {o:Oper} {σ:List AV} {rd:List Nat} {d:Nat} {av:AV} (hdst:o.dst=some d) (hd:d∈rd) (hn:nh σ d=true) (hav:av.xeo=true) (hfrs:av.fresh=true)
 (hrun:∀(E:Env) (τ:Nat->TV) (M:Nat->Nat->Prop) (σ':List AV) (a:Act) (w:World),agree rd σ σ'->RelI E τ M σ' a w->
   ∃ v ob,(execOp a.eval o).run P w=.ok (.value v) (w.alloc ob)/\blk v=w.heap.size/\x5d (fun b o=>M b o\/b=w.heap.size) (w.alloc ob) τ a.tmps v av/\(∀ t,av.y1a t->live σ' t)) :
 ztu P o σ rd [] [(d,av)]:=by
 intro E σ' a w hag _ ⟨τ,M,h⟩ K Q hK;obtain ⟨v,ob,hr,hb,hok,htok⟩:=hrun E τ M σ' a w hag h;obtain ⟨old,h1,h2⟩:=z5w (hag.nh hd hn);unfold Oper.wp;rw [hr];show K (a.put o.dst v) _;rw [hdst];exact hK _ _ ⟨τ,_,h.alloc h1 h2 ob v av hav hfrs hb hok htok⟩
end Go.Slot
namespace Go.Slot
open Go Go.RowKit
variable {P:Program}
def val (σ:List AV) (o:Oper) (rd:List Nat) (av:AV):Option (List Nat×List (Nat×AV)):=
 match o.dst with
 | some d=>if nh σ d then some (d::rd,[(d,av)]) else none
 | none=>none
theorem xlk {σ:List AV} {o:Oper} {rd:List Nat} {av:AV} {r:List Nat×List (Nat×AV)} (h:val σ o rd av=some r) :
 ∃ d,o.dst=some d/\nh σ d=true/\r=(d::rd,[(d,av)]):=by
 unfold val at h;split at h
 . rename_i d hd;split at h
   . rename_i hn;cases h;exact ⟨d,hd,hn,rfl⟩
   . cases h
 . cases h
theorem znd (w:World):Below w.heap.size w w:=Below.refl _ _
def cpy (x:Operand):AV->AV
 | .box _=>match x with
  | .tmp t=>.ptr t 0
  | _=>.any
 | .obx _=>match x with
  | .tmp t=>.ptr t 0
  | _=>.any
 | .arr _ _ _=>match x with
  | .tmp t=>.asl t
  | _=>.any
 | av=>av
theorem vjc {σ:List AV} {o:Oper} {x:Operand} (ho:o.op=.move x\/o.op=.assign x) {r:List Nat×List (Nat×AV)}
 (h:val σ o (orr x) (cpy x (opd σ x))=some r):ztu P o σ r.1 [] r.2:=by
 obtain ⟨d,hdst,hn,rfl⟩:=xlk h;refine ztu.val hdst (by simp) hn (by cases opd σ x<;>cases x<;>rfl) (fun E τ M σ' a w hag hI=>?_);have hop:opd σ' x=opd σ x:=hag.opd (fun t ht=>by simp [ht])
 have hrun:(execOp a.eval o).run P w=.ok (.value (a.eval x)) w:=by
  rcases ho with ho | ho<;>simp [execOp,ho]
 have hs:=hI.opd x;refine ⟨a.eval x,w,hrun,znd w,?_,?_,?_⟩
 . rw [← hop]
   cases hx:opd σ' x with
   | box cs=>
    rw [hx] at hs
    cases x with
    | tmp t=>
     obtain ⟨b,vs,T,e,_,_⟩:=hs;show _=Value.pointer (some ⟨blk (a.eval (.tmp t)),0,none⟩);rw [e];rfl
    | _=>exact trivial
   | obx cs=>
    rw [hx] at hs
    cases x with
    | tmp t=>
     obtain ⟨b,vs,T,e,_,_⟩:=hs;show _=Value.pointer (some ⟨blk (a.eval (.tmp t)),0,none⟩);rw [e];rfl
    | _=>exact trivial
   | arr pre c post=>
    cases x with
    | tmp t=>exact rfl
    | _=>exact trivial
   | _=>rw [hx] at hs;exact hs
 . intro t ht;rw [<-hop] at ht;refine x46 (x:=x) ?_
   cases hx:opd σ' x<;>rw [hx] at ht<;>first | exact ht | (cases x<;>exact ht.elim)
 . intro s b hr;rw [<-hop] at hr
   cases hx:opd σ' x<;>rw [hx] at hr
   case box cs=>
    cases x with
    | tmp t=>simp [cpy,AV.rf] at hr;obtain ⟨rfl,rfl⟩:=hr;exact ⟨_,w3d hx (by simp),rfl⟩
    | _=>simp [cpy,AV.rf] at hr
   case obx cs=>
    cases x with
    | tmp t=>simp [cpy,AV.rf] at hr;obtain ⟨rfl,rfl⟩:=hr;exact ⟨_,w3d hx (by simp),rfl⟩
    | _=>simp [cpy,AV.rf] at hr
   case arr pre c post=>
    cases x with
    | tmp t=>simp [cpy,AV.rf] at hr;obtain ⟨rfl,rfl⟩:=hr;exact ⟨_,w3d hx (by simp),rfl⟩
    | _=>simp [cpy,AV.rf] at hr
   case any=>exfalso;cases x<;>simp [cpy,AV.rf] at hr
   all_goals
    cases x with
    | tmp t=>
     exact hI.refs t _ s b (w3d hx (by simp)) hr
    | const v=>
     exfalso;simp only [opd,vkt] at hx;split at hx
     . split at hx<;>(cases hx;try simp [cpy,AV.rf] at hr)
     . cases hx;try simp [cpy,AV.rf] at hr
     . cases hx;try simp [cpy,AV.rf] at hr
    | func f=>simp only [opd] at hx;cases hx<;>simp [cpy,AV.rf] at hr
    | global g=>simp only [opd] at hx;cases hx<;>simp [cpy,AV.rf] at hr
theorem RdC.xcn {M:Nat->Nat->Prop} {w:World} {v u:Value} (h:RdC M w v (.raw u)):v=u:=by cases h;rfl
def zrn (σ:List AV) (c x y:Operand):Option AV:=
 match opd σ c with
 | .one (.raw (.bool b))=>match opd σ x,opd σ y with
  | .one (.raw (.bool p)),.one (.raw (.bool q))=>some (.one (.raw (.bool (bif b then p else q))))
  | .one (.raw u),.undef=>if b=true then some (.one (.raw u)) else none
  | .undef,.one (.raw v)=>if b=false then some (.one (.raw v)) else none
  | _,_=>none
 | _=>none
theorem xxx {σ:List AV} {o:Oper} {c x y:Operand} (ho:o.op=.pick c x y) {av:AV} (hp:zrn σ c x y=some av) {r:List Nat×List (Nat×AV)}
 (h:val σ o (orr c++orr x++orr y) av=some r):ztu P o σ r.1 [] r.2:=by
 obtain ⟨d,hdst,hn,rfl⟩:=xlk h
 have hraw:∃ u,av=.one (.raw u)/\u.oneCell'=true\/av=.one (.raw u):=by
  unfold zrn at hp
  repeat' split at hp
  all_goals first | (cases hp;exact ⟨_,.inr rfl⟩) | cases hp
 have hnh:av.xeo=false:=by obtain ⟨u,h | h⟩:=hraw<;>simp_all [AV.xeo]
 have hrf0:av.rf=none:=by obtain ⟨u,h | h⟩:=hraw<;>simp_all [AV.rf]
 have htk:∀ t,¬av.y1a t:=by obtain ⟨u,h | h⟩:=hraw<;>simp_all [AV.y1a,Cell.y1a]
 refine ztu.val hdst (by simp) hn hnh (fun E τ M σ' a w hag hI=>?_);have hc:opd σ' c=opd σ c:=hag.opd (fun t ht=>by simp [ht]);have hx:opd σ' x=opd σ x:=hag.opd (fun t ht=>by simp [ht]);have hy:opd σ' y=opd σ y:=hag.opd (fun t ht=>by simp [ht]);have sc:=hI.opd c;have sx:=hI.opd x;have sy:=hI.opd y;rw [hc] at sc;rw [hx] at sx;rw [hy] at sy
 have key:∃ b:Bool,a.eval c=.bool b/\x5d M w τ a.tmps (if b then a.eval x else a.eval y) av:=by
  unfold zrn at hp;split at hp
  . rename_i b hcb;rw [hcb] at sc;have hbv:a.eval c=.bool b:=RdC.xcn sc;refine ⟨b,hbv,?_⟩;split at hp
    . rename_i p q hxp hyq;rw [hxp] at sx;rw [hyq] at sy
      cases hp;have e1:a.eval x=.bool p:=RdC.xcn sx;have e2:a.eval y=.bool q:=RdC.xcn sy;rw [e1,e2]
      cases b<;>exact RdC.raw rfl
    . rename_i u hxu hyu;rw [hxu] at sx;split at hp
      . rename_i hb;cases hp;simp only [hb,if_true];exact sx
      . cases hp
    . rename_i v hxu hyu;rw [hyu] at sy;split at hp
      . rename_i hb;cases hp;simp only [hb];exact sy
      . cases hp
    . cases hp
  . cases hp
 obtain ⟨b,hb,hs⟩:=key;refine ⟨if b then a.eval x else a.eval y,w,?_,znd w,hs,fun t ht=>absurd ht (htk t),fun s b' hr=>by rw [hrf0] at hr;cases hr⟩;simp [execOp,ho,hb,asBool]
theorem zsl {M:Nat->Nat->Prop} {w:World} {v:Value} (h:v.oneCell'=true):RdC M w v (zk0 v):=by
 unfold zk0
 split
 . exact RdC.zc
 . exact RdC.raw h
theorem zhc {M:Nat->Nat->Prop} {w:World} {τ:Nat->TV}:∀{l:List Value},(∀ v∈l,v.oneCell'=true)->RdL M w τ l (l.map zk0)
 | [],_=>trivial
 | v::l,h=>⟨RdT.of (zsl (h v (by simp))),zhc (fun u hu=>h u (by simp [hu]))⟩
theorem xuk {t:Nat}:∀ l:List Value,¬wj1 t (l.map zk0)
 | []=>fun h=>h
 | v::l=>fun h=>h.elim (fun h=>by unfold zk0 at h;split at h<;>exact h) (xuk l)
theorem wm8 (w:World) (o:Obj):(w.alloc o).heap[w.heap.size]? = some o:=heap_alloc_new w o
theorem whc {σ:List AV} {o:Oper} {T:TypeId} (ho:o.op=.alloc T) {ti:TI} (hti:mkTI P T=some ti) {r:List Nat×List (Nat×AV)}
 (h:val σ o [] (.box ti.zc)=some r):ztu P o σ r.1 [] r.2:=by
 obtain ⟨d,hdst,hn,rfl⟩:=xlk h;refine ztu.new hdst (by simp) hn rfl rfl (fun E τ M σ' a w hag hI=>?_);obtain ⟨ds,i,z,hd,hi,hz,hsz,hby,hzs,hone,hzc,hsh⟩:=(xky hti).ex;refine ⟨.pointer (some ⟨w.heap.size,0,none⟩),.cells z.cells T,?_,rfl,⟨w.heap.size,z.cells.toList,T,rfl,by rw [Array.toArray_toList];exact wm8 w _,?_⟩,?_⟩
 . simp [execOp,ho,Instr.alloc,v0q hi hz,newVar,newRow]
 . rw [hzc];exact zhc hone
 . intro t ht;rw [hzc] at ht;exact absurd ht (xuk _)
def zyf:AV->Option (List Cell)
 | .one c=>some [c]
 | .agg cs=>some cs
 | _=>none
theorem zm1 {M:Nat->Nat->Prop} {w:World} {τ:Nat->TV} {tm:Array Value} {v:Value} {av:AV} {cs:List Cell} (hc:zyf av=some cs) (h:x5d M w τ tm v av) :
 RdL M w τ v.cells.toList cs:=by
 cases av with
 | one c=>
  cases hc
  have h1:v.cells=#[v]:=by
   have:=RdT.one h
   cases v<;>first | rfl | cases this
  rw [h1];exact ⟨h,trivial⟩
 | agg cs'=>
  cases hc;obtain ⟨vs,rfl,h⟩:=h;simpa [Value.cells] using h
 | _=>cases hc
theorem vgv {av:AV} {cs:List Cell} (hc:zyf av=some cs) {t:Nat} (h:wj1 t cs):av.y1a t:=by
 cases av with
 | one c=>cases hc;exact h.elim id (fun h=>h.elim)
 | agg cs'=>cases hc;exact h
 | _=>cases hc
theorem v4a {σ:List AV} {o:Oper} {T:TypeId} {x:Operand} (ho:o.op=.box T x) {cs:List Cell} (hcs:zyf (opd σ x)=some cs) {r:List Nat×List (Nat×AV)}
 (h:val σ o (orr x) (.box cs)=some r):ztu P o σ r.1 [] r.2:=by
 obtain ⟨d,hdst,hn,rfl⟩:=xlk h;refine ztu.new hdst (by simp) hn rfl rfl (fun E τ M σ' a w hag hI=>?_);have hop:opd σ' x=opd σ x:=hag.opd (fun t ht=>by simp [ht]);have hs:=hI.opd x;rw [hop] at hs;have hr:=zm1 hcs hs;refine ⟨.pointer (some ⟨w.heap.size,0,none⟩),.cells (a.eval x).cells T,?_,rfl,⟨w.heap.size,(a.eval x).cells.toList,T,rfl,by rw [Array.toArray_toList];exact wm8 w _,hr.keep (xhx.alloc w _) (fun _ _=>rfl)⟩,?_⟩
 . simp [execOp,ho,Instr.box,newVar,newRow]
 . intro t ht
   have:=vgv hcs ht
   rw [<-hop] at this;exact x46 this
def AV.v41:AV->Option (List Cell)
 | .box cs=>some cs
 | .obx cs=>some cs
 | _=>none
def AV.v1t:AV->List Cell->AV
 | .obx _,cs=>.obx cs
 | _,cs=>.box cs
theorem xsv {M:Nat->Nat->Prop} {w:World} {τ:Nat->TV} {tm:Array Value} {v:Value} {av:AV} {cs:List Cell} (h:x5d M w τ tm v av) (hb:av.v41=some cs) :
 ∃(b:Nat) (vs:List Value) (T:TypeId),v=.pointer (some ⟨b,0,none⟩)/\w.heap[b]? = some (.cells vs.toArray T (0,0))/\RdL M w τ vs cs:=by
 cases av with
 | box cs'=>cases hb;exact h
 | obx cs'=>cases hb;exact h
 | _=>cases hb
theorem xdi {av:AV} {cs:List Cell} (hb:av.v41=some cs):av.xeo=true/\av.fits true=true/\av≠.any:=by
 cases av<;>first | (cases hb;exact ⟨rfl,rfl,by simp⟩) | cases hb
theorem z9w {av:AV} {cs:List Cell} (hb:av.v41=some cs) (t:Nat):av.y1a t↔wj1 t cs:=by
 cases av<;>first | (cases hb;exact Iff.rfl) | cases hb
def Cell.at (c:Cell) (i f:Nat):Option (List Cell):=match c with
 | .ints k l=>if i<l.length/\f=0 then some [.raw (.int k (l.getD i 0))] else none
 | .sl _ rows=>if i<rows.length then some ((rows.getD i []).drop f) else none
 | _=>none
def Cell.upd (c:Cell) (i f:Nat) (us:List Cell):Option Cell:=match c with
 | .ints k l=>match us with
  | [.raw (.int k' n)]=>if k=k'/\i<l.length/\f=0 then some (.ints k (l.set i n)) else none
  | _=>none
 | .sl m rows=>if i<rows.length/\f+us.length<=m then some (.sl m (rows.set i ((rows.getD i []).take f++us++(rows.getD i []).drop (f+us.length)))) else none
 | _=>none
theorem vvg {α:Type} {m:Nat}:∀(rows:List (List α)) (i:Nat),(∀ r∈rows,r.length=m)->rows.flatten.drop (i*m)=(rows.drop i).flatten
 | rows,0,_=>by simp
 | [],i+1,_=>by simp
 | r::rows,i+1,h=>by
  have hr:=h r (by simp);rw [List.flatten_cons,List.drop_succ_cons,<-vvg rows i (fun r hr=>h r (by simp [hr])),Nat.succ_mul,Nat.add_comm,<-List.drop_drop,<-hr,List.drop_left]
theorem z4s {α:Type} {m:Nat}:∀(rows:List (List α)) (i:Nat),(∀ r∈rows,r.length=m)->rows.flatten.take (i*m)=(rows.take i).flatten
 | rows,0,_=>by simp
 | [],i+1,_=>by simp
 | r::rows,i+1,h=>by
  have hr:=h r (by simp);rw [List.flatten_cons,List.take_succ_cons,List.flatten_cons,<-z4s rows i (fun r hr=>h r (by simp [hr])),Nat.succ_mul,Nat.add_comm,<-hr,List.take_length_add_append]
theorem xzp {α:Type} {m:Nat}:∀(rows:List (List α)),(∀ r∈rows,r.length=m)->rows.flatten.length=rows.length*m
 | [],_=>by simp
 | r::rows,h=>by
  rw [List.flatten_cons,List.length_append,xzp rows (fun r hr=>h r (by simp [hr])),h r (by simp),List.length_cons,Nat.succ_mul];omega
theorem Cell.zjv {c:Cell} (h:c.uni):c.flat.length=c.cnt*c.esz:=by
 cases c with
 | ints k l=>simp [Cell.flat,Cell.cnt,Cell.esz]
 | sl n rows=>exact xzp rows h
 | _=>exact h.elim
theorem Cell.zc9 {c:Cell} (hu:c.uni) {i f:Nat} {cs:List Cell} (h:c.at i f=some cs):i<c.cnt/\∃ r,c.flat.drop (i*c.esz+f)=cs++r:=by
 cases c with
 | ints k l=>
  simp only [Cell.at] at h;split at h
  . rename_i hc;obtain ⟨hi,rfl⟩:=hc
    cases h;refine ⟨hi,(l.drop (i+1)).map fun n=>.raw (.int k n),?_⟩;simp only [Cell.flat,Cell.esz,Nat.mul_one,Nat.add_zero];rw [List.drop_eq_getElem_cons (by simpa using hi)];simp [hi]
  . cases h
 | sl m rows=>
  simp only [Cell.at] at h;split at h
  . rename_i hi
    cases h;refine ⟨hi,((rows.drop (i+1)).flatten.drop (f-m)),?_⟩;have hu:∀ r∈rows,r.length=m:=hu;simp only [Cell.flat,Cell.esz];rw [<-List.drop_drop,vvg rows i hu,List.drop_eq_getElem_cons hi,List.flatten_cons,List.drop_append,hu _ (List.getElem_mem hi)];simp [hi]
  . cases h
 | _=>cases h
theorem Cell.xnk {c c' : Cell} (hu : c.uni) {i f : Nat} {us : List Cell} (h : c.upd i f us = some c') :
 c'.uni/\c'.cnt=c.cnt/\c'.esz=c.esz/\i*c.esz+f+us.length<=c.flat.length/\c'.flat=c.flat.take (i*c.esz+f)++us++c.flat.drop (i*c.esz+f+us.length):=by
 cases c with
 | ints k l=>
  simp only [Cell.upd] at h;split at h
  . split at h
    . rename_i hc;obtain ⟨rfl,hi,rfl⟩:=hc
      cases h;refine ⟨trivial,by simp [Cell.cnt],rfl,by simp [Cell.esz,Cell.flat];omega,?_⟩;simp only [Cell.flat,Cell.esz,Nat.mul_one,Nat.add_zero,<-List.map_drop,<-List.map_take,List.length_cons,List.length_nil];rw [List.set_eq_take_append_cons_drop,if_pos hi];simp
    . cases h
  . cases h
 | sl m rows=>
  simp only [Cell.upd] at h;split at h
  . rename_i hc;obtain ⟨hi,hf⟩:=hc
    cases h;have hu:∀ r∈rows,r.length=m:=hu;have hrl:=hu _ (List.getElem_mem hi)
    have hge:rows.getD i []=rows[i]:=by simp [hi]
    rw [hge]
    have hnew:(rows[i].take f++us++rows[i].drop (f+us.length)).length=m:=by simp [hrl];omega
    refine ⟨fun r hr=>?_,by simp [Cell.cnt],rfl,?_,?_⟩
    . rcases List.mem_or_eq_of_mem_set hr with h | h
      . exact hu r h
      . rw [h];exact hnew
    . simp only [Cell.esz,Cell.flat];rw [xzp rows hu]
      have:(i+1)*m<=rows.length*m:=Nat.mul_le_mul_right _ hi
      rw [Nat.succ_mul] at this;omega
    . simp only [Cell.esz,Cell.flat];rw [List.set_eq_take_append_cons_drop,if_pos hi,List.flatten_append,List.flatten_cons]
      have e1:rows.flatten.take (i*m+f)=(rows.take i).flatten++rows[i].take f:=by
       rw [List.take_add,z4s rows i hu,vvg rows i hu,List.drop_eq_getElem_cons hi,List.flatten_cons,List.take_append_of_le_length (by rw [hrl];omega)]
      have e2:rows.flatten.drop (i*m+f+us.length)=rows[i].drop (f+us.length)++(rows.drop (i+1)).flatten:=by
       rw [Nat.add_assoc,<-List.drop_drop,vvg rows i hu,List.drop_eq_getElem_cons hi,List.flatten_cons,List.drop_append_of_le_length (by rw [hrl];omega)]
      rw [e1,e2];simp
  . cases h
 | _=>cases h
def wdn (ti:TI) (cs:List Cell):Option AV:=
 match ti.many with
 | some true=>if ti.size<=cs.length then some (.agg (cs.take ti.size)) else none
 | some false=>match cs with
  | c::_=>some (.one c)
  | []=>none
 | none=>none
def vge (σ:List AV) (ti:TI) (x:Operand):Option (List Nat×AV):=
 match opd σ x with
 | .box cs=>(wdn ti cs).map fun v=>(orr x,v)
 | .obx cs=>(wdn ti cs).map fun v=>(orr x,v)
 | .ptr s off=>match (gt σ s).v41 with
  | some cs=>(wdn ti (cs.drop off)).map fun v=>(s::orr x,v)
  | none=>none
 | .elt cs=>(wdn ti cs).map fun v=>(orr x,v)
 | .pel s m i f=>match gt σ s with
  | .arr _ c _=>if c.esz=m then match c.at i f with
   | some cs=>(wdn ti cs).map fun v=>(s::orr x,v)
   | none=>none
   else none
  | _=>none
 | _=>none
theorem wuo {T:TypeId} {ti:TI} (hti:TIok P T ti) {w:World} {b off:Nat} {vs:List Value} {M:Nat->Nat->Prop} {τ:Nat->TV} {cs:List Cell} {av:AV}
 (hc:∀ j u,vs[j]? = some u->w.cell? ⟨b,off+j,none⟩=some u) (hr:RdL M w τ vs cs) (hl:wdn ti cs=some av) :
 ∃ v,(loadVar T ⟨b,off,none⟩).run P w=.ok v w/\RdA M w τ v av:=by
 unfold wdn at hl
 have hadd:∀ j,(⟨b,off,none⟩:Addr).add j=⟨b,off+j,none⟩:=fun j=>by unfold Addr.add;split<;>simp_all
 split at hl
 . rename_i hm;split at hl
   . rename_i hle
     cases hl;obtain ⟨d,i,z,hd,hi,hz,hsz,hby,hzs,hone,hzc,hsh⟩:=hti.ex;have hlen:=hr.length;refine ⟨.agg (vs.take ti.size).toArray,?_,⟨vs.take ti.size,rfl,hr.take _⟩⟩
     have hld:=run_loadCells_list (P:=P) w ⟨b,off,none⟩ (vs.take ti.size) (fun j u hj=>by
      rw [hadd];refine hc j u ?_;rw [List.getElem?_take] at hj;split at hj
      . exact hj
      . cases hj)
     have hlt:(vs.take ti.size).length=ti.size:=by rw [List.length_take];omega
     rw [hlt] at hld;unfold loadVar;simp only [Sem.run_bind,hti.z1f hm,Result.andThen_ok,if_true,yg7 hi,hsz,hld,Sem.run_pure]
   . cases hl
 . rename_i hm;split at hl
   . rename_i c cs'
     cases hl
     cases vs with
     | nil=>exact hr.elim
     | cons v vs=>
      refine ⟨v,?_,hr.1⟩
      have:=hc 0 v rfl
      unfold loadVar;simp only [Sem.run_bind,hti.z1f hm,Result.andThen_ok,Bool.false_eq_true,if_false];simp only [Nat.add_zero] at this;simp [load,Sem.run,this]
   . cases hl
 . cases hl
theorem y8g {ti:TI} {cs:List Cell} {av:AV} (h:wdn ti cs=some av):av.xeo=false/\av.rf=none:=by
 unfold wdn at h
 repeat' split at h
 all_goals first | (cases h;exact ⟨rfl,rfl⟩) | cases h
theorem zaa {t:Nat}:∀{n:Nat} {cs:List Cell},wj1 t (cs.take n)->wj1 t cs
 | 0,cs,h=>by simp [wj1] at h
 | n+1,[],h=>h
 | n+1,c::cs,h=>h.imp id zaa
theorem wmi {t:Nat}:∀{n:Nat} {cs:List Cell},wj1 t (cs.drop n)->wj1 t cs
 | 0,cs,h=>by simpa using h
 | n+1,[],h=>h
 | n+1,c::cs,h=>.inr (wmi (by simpa using h))
theorem zrw {t:Nat}:∀{cs ds:List Cell},wj1 t (cs++ds)->wj1 t cs\/wj1 t ds
 | [],_,h=>.inr h
 | c::cs,ds,h=>by
  rcases h with h | h
  . exact .inl (.inl h)
  . exact (zrw h).imp .inr id
theorem wpg {ti:TI} {cs:List Cell} {av:AV} (h:wdn ti cs=some av) {t:Nat} (ht:av.y1a t):wj1 t cs:=by
 unfold wdn at h
 repeat' split at h
 all_goals first | (cases h;first | exact zaa ht | exact .inl ht) | cases h
theorem w8h {w:World} {b:Nat} {vs:List Value} {T:TypeId} (h:w.heap[b]? = some (.cells vs.toArray T (0,0))) (off:Nat) :
 ∀ j u,(vs.drop off)[j]? = some u->w.cell? ⟨b,off+j,none⟩=some u:=fun j u hj=>by
 rw [List.getElem?_drop] at hj;simp [World.cell?,h,hj]
theorem RdD.z5e {M:Nat->Nat->Prop} {w:World} {τ:Nat->TV}:∀{vs:List Value} {cs:List Cell},RdD M w vs cs->RdL M w τ vs cs
 | [],[],_=>trivial
 | _::_,_::_,h=>⟨RdT.of h.1,h.2.z5e⟩
theorem RdD.x6p {M:Nat->Nat->Prop} {w:World} {t:Nat}:∀{vs:List Value} {cs:List Cell},RdD M w vs cs->¬wj1 t cs
 | [],[],_=>fun h=>h
 | _::_,c::_,h=>fun ht=>ht.elim (fun h'=>by cases c<;>first | exact h'.elim | exact h.1.wbu) h.2.x6p
theorem vsf {σ:List AV} {o:Oper} {T:TypeId} {x:Operand} (ho:o.op=.load T x) {ti:TI} (hti:mkTI P T=some ti) {rd:List Nat} {av:AV} (hl:vge σ ti x=some (rd,av))
 {r:List Nat×List (Nat×AV)} (h:val σ o rd av=some r):ztu P o σ r.1 [] r.2:=by
 obtain ⟨d,hdst,hn,rfl⟩:=xlk h;have hok:=xky hti
 have hprops:av.xeo=false/\av.rf=none/\∀ t∈orr x,t∈rd:=by
  unfold vge at hl
  repeat' split at hl
  all_goals first
   | (simp only [Option.map_eq_some_iff,Prod.mk.injEq] at hl
      obtain ⟨_,h1,rfl,rfl⟩:=hl
      exact ⟨(y8g h1).1,(y8g h1).2,fun t ht=>by simp [ht]⟩)
   | cases hl
 refine ztu.val hdst (by simp) hn hprops.1 (fun E τ M σ' a w hag hI=>?_);have hop:opd σ' x=opd σ x:=hag.opd (fun t ht=>by simp [hprops.2.2 t ht]);have hs:=hI.opd x;rw [hop] at hs
 suffices hkey:∃(ad:Addr) (v:Value),a.eval x=.pointer (some ad)/\(loadVar T ad).run P w=.ok v w/\x5d M w τ a.tmps v av/\∀ t,av.y1a t->live σ' t by
  obtain ⟨ad,v,he,hrun,hsl,htk⟩:=hkey;refine ⟨v,w,?_,znd w,hsl,htk,fun s b' hr=>by rw [hprops.2.1] at hr;cases hr⟩;simp [execOp,ho,Instr.loadAt,he,Instr.sureAddr,hrun]
 unfold vge at hl;split at hl
 . rename_i cs hx;simp only [Option.map_eq_some_iff,Prod.mk.injEq] at hl;obtain ⟨_,h1,rfl,rfl⟩:=hl;rw [hx] at hs;obtain ⟨b,vs,T',e,hb,hr⟩:=hs;obtain ⟨v,hrun,hrd⟩:=wuo hok (b:=b) (off:=0) (vs:=vs) (fun j u hj=>by simpa using w8h hb 0 j u (by simpa using hj)) hr h1;exact ⟨_,v,e,hrun,hrd.slot,fun t ht=>x46 (x:=x) (by rw [hop,hx];exact wpg h1 ht)⟩
 . rename_i cs hx;simp only [Option.map_eq_some_iff,Prod.mk.injEq] at hl;obtain ⟨_,h1,rfl,rfl⟩:=hl;rw [hx] at hs;obtain ⟨b,vs,T',e,hb,hr⟩:=hs;obtain ⟨v,hrun,hrd⟩:=wuo hok (b:=b) (off:=0) (vs:=vs) (fun j u hj=>by simpa using w8h hb 0 j u (by simpa using hj)) hr h1;exact ⟨_,v,e,hrun,hrd.slot,fun t ht=>x46 (x:=x) (by rw [hop,hx];exact wpg h1 ht)⟩
 . rename_i s off hx;split at hl
   . rename_i cs hg;simp only [Option.map_eq_some_iff,Prod.mk.injEq] at hl;obtain ⟨_,h1,rfl,rfl⟩:=hl;rw [hx] at hs
     have hg':(gt σ' s).v41=some cs:=by rw [hag.2 s (by simp)];exact hg
     obtain ⟨b,vs,T',e,hb,hr⟩:=xsv (hI.gt s) hg';have hs:a.eval x=.pointer (some ⟨blk (a.tmps.getD s Go.undef),off,none⟩):=hs;rw [e] at hs;obtain ⟨v,hrun,hrd⟩:=wuo hok (b:=b) (off:=off) (vs:=vs.drop off) (fun j u hj=>w8h hb off j u hj) (hr.drop off) h1;exact ⟨_,v,hs,hrun,hrd.slot,fun t ht=>⟨s,_,w3d rfl (xdi hg').2.2,(z9w hg' t).2 (wmi (wpg h1 ht))⟩⟩
   . cases hl
 . rename_i cs hx;simp only [Option.map_eq_some_iff,Prod.mk.injEq] at hl;obtain ⟨_,h1,rfl,rfl⟩:=hl;rw [hx] at hs;obtain ⟨b,off,vs,e,hcl,hr⟩:=hs;obtain ⟨v,hrun,hrd⟩:=wuo hok (τ:=τ) (b:=b) (off:=off) (vs:=vs) (fun j u hj=>(hcl j u hj).2) hr.z5e h1;exact ⟨_,v,e,hrun,hrd.slot,fun t ht=>absurd (wpg h1 ht) hr.x6p⟩
 . rename_i s m i f hx;split at hl
   . rename_i pre c post hg;split at hl
     . rename_i hm;split at hl
       . rename_i cs hat;simp only [Option.map_eq_some_iff,Prod.mk.injEq] at hl;obtain ⟨_,h1,rfl,rfl⟩:=hl;rw [hx] at hs
         have hg':gt σ' s=.arr pre c post:=by rw [hag.2 s (by simp)];exact hg
         have hss:=hI.gt s;rw [hg'] at hss;obtain ⟨b,T',vs,q,cap,e,hb,hrd,_,hu,_⟩:=hss;have hs:a.eval x=.pointer (some ⟨blk (a.tmps.getD s Go.undef),offV (a.tmps.getD s Go.undef)+i*m+f,none⟩):=hs;rw [e] at hs;obtain ⟨hi,r,hdrop⟩:=Cell.zc9 hu hat;subst hm;have hfull:RdD M w (vs.drop (i*c.esz+f)) (cs++r):=hdrop▸hrd.drop _
         have hrd':RdD M w ((vs.drop (i*c.esz+f)).take cs.length) cs:=by
          have:=hfull.take cs.length
          rwa [List.take_left] at this
         obtain ⟨v,hrun,hrdv⟩:=wuo hok (τ:=τ) (b:=b) (off:=pre.length+i*c.esz+f) (vs:=(vs.drop (i*c.esz+f)).take cs.length) (fun j u hj=>by
          rw [List.getElem?_take] at hj;split at hj
          . rw [List.getElem?_drop] at hj;have hlt:i*c.esz+f+j<vs.length:=(List.getElem?_eq_some_iff.1 hj).1;simp only [World.cell?,hb];simp only [List.getElem?_toArray];rw [List.getElem?_append_right (by omega),List.getElem?_append_left (by omega)];rw [show pre.length+i*c.esz+f+j-pre.length=i*c.esz+f+j by omega];exact hj
          . cases hj) hrd'.z5e h1
         exact ⟨_,v,hs,hrun,hrdv.slot,fun t ht=>absurd (wpg h1 ht) hrd'.x6p⟩
       . cases hl
     . cases hl
   . cases hl
 . cases hl
theorem RdD.get {M:Nat->Nat->Prop} {w:World}:∀{vs:List Value} {cs:List Cell},RdD M w vs cs->∀(j:Nat) (c:Cell),cs[j]? = some c->∃ v,vs[j]? = some v/\RdC M w v c
 | [],[],_,j,c,hc=>by simp at hc
 | v::vs,c'::cs,h,0,c,hc=>by simp at hc;subst hc;exact ⟨v,by simp,h.1⟩
 | v::vs,c'::cs,h,j+1,c,hc=>by simpa using h.2.get j c (by simpa using hc)
theorem xzc {α:Type} {m:Nat}:∀(rows:List (List α)) (i j:Nat),(∀ r∈rows,r.length=m)->i<rows.length->j<m->rows.flatten[i*m+j]? = (rows.getD i [])[j]?
 | rows,i,j,h,hi,hj=>by
  have hri:=h _ (List.getElem_mem hi);rw [<-List.getElem?_drop,vvg rows i h,List.drop_eq_getElem_cons hi,List.flatten_cons,List.getElem?_append_left (by omega)];simp [hi]
theorem vq1 {M:Nat->Nat->Prop} {w:World} {b cap:Nat} {pre vs q:List Value} {T:TypeId} {c:Cell} (hb:w.heap[b]? = some (.cells (pre++(vs++q)).toArray T (0,0))) (hr:RdD M w vs c.flat) (hu:c.uni)
 (hcap:c.cnt<=cap) (hM:∀ o,¬M b o):RdC M w (.slice (some ⟨b,pre.length,none⟩) c.cnt cap) c:=by
 have hcell:∀ i u,vs[i]? = some u->w.cell? ⟨b,pre.length+i,none⟩=some u:=fun i u hi=>by
  have hlt:i<vs.length:=(List.getElem?_eq_some_iff.1 hi).1;simp only [World.cell?,hb];simp only [List.getElem?_toArray];rw [List.getElem?_append_right (by omega),List.getElem?_append_left (by omega)];rw [show pre.length+i-pre.length=i by omega];exact hi
 cases c with
 | ints k l=>
  refine .ints b pre.length rfl hcap (fun _=>rfl) (fun i hi=>⟨hM _,?_⟩);obtain ⟨v,hv,hrv⟩:=hr.get i (.raw (.int k l[i])) (by simp [Cell.flat,hi]);rw [RdC.xcn hrv] at hv;exact hcell i _ hv
 | sl n rows=>
  have hu:∀ r∈rows,r.length=n:=hu
  have key:∀ i (hi:i<rows.length) j,j<n->∃ v,vs[i*n+j]? = some v/\∀ hj':j<rows[i].length,RdC M w v (rows[i][j]'hj'):=fun i hi j hj=>by
   have hlen:=hu _ (List.getElem_mem hi)
   obtain ⟨v,hv,hrv⟩:=hr.get (i*n+j) (rows[i][j]'(by omega)) (by
    simp only [Cell.flat];rw [xzc rows i j hu hi hj]
    have:rows.getD i []=rows[i]:=by simp [hi]
    rw [this]
    simp [hlen,hj])
   exact ⟨v,hv,fun _=>hrv⟩
  refine .sl b pre.length (fun i j=>(vs[i*n+j]?).getD Go.undef) rfl hcap (fun _=>rfl) hu (fun i hi j hj=>⟨hM _,?_⟩) (fun i hi j hj=>?_)
  . obtain ⟨v,hv,_⟩:=key i hi j hj
    have:=hcell (i*n+j) v hv
    rw [hv,Nat.add_assoc];exact this
  . have hlen:=hu _ (List.getElem_mem hi);obtain ⟨v,hv,hrv⟩:=key i hi j (by omega);rw [hv];exact hrv hj
 | _=>exact hu.elim
def Cell.sub (c:Cell) (lo n:Nat):Cell:=match c with
 | .ints k l=>.ints k ((l.drop lo).take n)
 | .sl m rows=>.sl m ((rows.drop lo).take n)
 | c=>c
theorem RdC.sub {M:Nat->Nat->Prop} {w:World} {b off len cap:Nat} {c:Cell} (hr:RdC M w (.slice (some ⟨b,off,none⟩) len cap) c) (hu:c.uni) {lo n cap':Nat} {ad:Option Addr} (hfit:lo+n<=c.cnt)
 (had:cap'≠0->ad=some ⟨b,off+lo*c.esz,none⟩) (hn:n<=cap'):RdC M w (.slice ad n cap') (c.sub lo n):=by
 cases hr with
 | raw h=>exact hu.elim
 | zc=>exact hu.elim
 | nn=>exact hu.elim
 | fnp=>exact hu.elim
 | @ints _ _ _ k l b' off' hl hc ha h=>
  simp only [Cell.cnt] at hfit;refine .ints b (off+lo) (by simp;omega) hn (fun hne=>?_) (fun i hi=>?_)
  . have:n≠0:=fun e=>hne (by simp [e])
    rw [had (by omega)];simp [Cell.esz]
  . simp only [List.length_take,List.length_drop] at hi
    have hne:l≠[]:=fun e=>by rw [e] at hfit;simp at hfit;omega
    have hh:=h (lo+i) (by omega)
    have:=ha hne
    simp only [Option.some.injEq,Addr.mk.injEq,and_true] at this;obtain ⟨rfl,rfl⟩:=this;rw [Nat.add_assoc];simpa using hh
 | @sl _ _ _ m rows b' off' u hl hc ha hn' hm hrr=>
  simp only [Cell.cnt] at hfit;refine .sl b (off+lo*m) (fun i j=>u (lo+i) j) (by simp;omega) hn (fun hne=>?_) (fun r hr'=>hn' r (List.mem_of_mem_drop (List.mem_of_mem_take hr'))) (fun i hi j hj=>?_) (fun i hi j hj=>?_)
  . have:n≠0:=fun e=>hne (by simp [e])
    rw [had (by omega)];simp [Cell.esz]
  . simp only [List.length_take,List.length_drop] at hi
    have hne:rows≠[]:=fun e=>by rw [e] at hfit;simp at hfit;omega
    have hh:=hm (lo+i) (by omega) j hj
    have:=ha hne
    simp only [Option.some.injEq,Addr.mk.injEq,and_true] at this;obtain ⟨rfl,rfl⟩:=this;rw [Nat.add_mul] at hh;rw [show off+lo*m+i*m+j=off+(lo*m+i*m)+j by omega];exact hh
  . simp only [List.length_take,List.length_drop] at hi
    have hlen:lo+i<rows.length:=by omega
    have hj':j<rows[lo+i].length:=by simpa using hj
    have:=hrr (lo+i) hlen j hj'
    simpa using this
theorem RdC.x6p {M:Nat->Nat->Prop} {w:World} {v:Value} {c:Cell} (h:RdC M w v c) (t:Nat):¬c.y1a t:=fun ht=>by
 cases c with
 | tok d c=>exact h.wbu
 | _=>exact ht
end Go.Slot
