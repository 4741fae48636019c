/- The proof, part E2: Md, Me. -/
import Derived.Test.YtmegdbbbllffkaaGreatDoorE1
namespace Go.Slot
open Go Go.RowKit
variable {P:Program}
variable {o:Oper} {rd:List Nat} {x y:Operand} {M:Nat->Nat->Prop} {w:World} {v:Value} {T S:TypeId} {ti:TI} {τ:Nat->TV} {tm:Array Value} {t i f b off:Nat} {vs:List Value} {α:Type} {fs:List (Nat×Nat×TypeId)}
def val (I:List AV) (o:Oper) (rd:List Nat) (av:AV):Option (List Nat×List (Nat×AV)):=
 match o.dst with
 | some d=>if nh I d then some (d::rd,[(d,av)]) else none
 | none=>none
theorem xj7 {I:List AV} {av:AV} {r:List Nat×List (Nat×AV)} (h:val I o rd av=some r) :
 ∃ d,o.dst=some d/\nh I d=true/\r=(d::rd,[(d,av)]):=by
 unfold val at h;split at h
 . rename_i d hd;split at h
   . rename_i hn;cases h;exact ⟨d,hd,hn,rfl⟩
   . cases h
 . cases h
theorem zgs (w:World):Below w.heap.size w w:=Below.refl _ _
def cpy (x:Operand):AV->AV
 | .box _=>match x with
  | .tmp t=>.ptr t 0
  | _=>.any
 | .obx _=>match x with
  | .tmp t=>.ptr t 0
  | _=>.any
 | .arr _ _ _=>match x with
  | .tmp t=>.asl t
  | _=>.any
 | av=>av
theorem y9m {I:List AV} (ho:o.op=.move x\/o.op=.assign x) {r:List Nat×List (Nat×AV)}
 (h:val I o (orr x) (cpy x (opd I x))=some r):yh6 P o I r.1 [] r.2:=by
 obtain ⟨d,hdst,hn,rfl⟩:=xj7 h;refine yh6.val hdst (by simp) hn (by cases opd I x<;>cases x<;>rfl) (fun E τ M I' a w hag hI=>?_);have hop:opd I' x=opd I x:=hag.opd (fun t ht=>by simp [ht])
 have hrun:(execOp a.eval o).run P w=.ok (.value (a.eval x)) w:=by
  rcases ho with ho | ho<;>simp [execOp,ho]
 have hs:=hI.opd x;refine ⟨a.eval x,w,hrun,zgs w,?_,?_,?_⟩
 . rw [← hop]
   cases hx:opd I' x with
   | box cs=>
    rw [hx] at hs
    cases x with
    | tmp t=>
     obtain ⟨b,vs,T,e,_,_⟩:=hs;show _=Value.pointer (some ⟨blk (a.eval (.tmp t)),0,none⟩);rw [e];rfl
    | _=>exact trivial
   | obx cs=>
    rw [hx] at hs
    cases x with
    | tmp t=>
     obtain ⟨b,vs,T,e,_,_⟩:=hs;show _=Value.pointer (some ⟨blk (a.eval (.tmp t)),0,none⟩);rw [e];rfl
    | _=>exact trivial
   | arr pre c post=>
    cases x with
    | tmp t=>exact rfl
    | _=>exact trivial
   | _=>rw [hx] at hs;exact hs
 . intro t ht;rw [<-hop] at ht;refine y1e (x:=x) ?_
   cases hx:opd I' x<;>rw [hx] at ht<;>first | exact ht | (cases x<;>exact ht.elim)
 . intro s b hr;rw [<-hop] at hr
   cases hx:opd I' x<;>rw [hx] at hr
   case box cs=>
    cases x with
    | tmp t=>simp [cpy,AV.rf] at hr;obtain ⟨rfl,rfl⟩:=hr;exact ⟨_,vxi hx (by simp),rfl⟩
    | _=>simp [cpy,AV.rf] at hr
   case obx cs=>
    cases x with
    | tmp t=>simp [cpy,AV.rf] at hr;obtain ⟨rfl,rfl⟩:=hr;exact ⟨_,vxi hx (by simp),rfl⟩
    | _=>simp [cpy,AV.rf] at hr
   case arr pre c post=>
    cases x with
    | tmp t=>simp [cpy,AV.rf] at hr;obtain ⟨rfl,rfl⟩:=hr;exact ⟨_,vxi hx (by simp),rfl⟩
    | _=>simp [cpy,AV.rf] at hr
   case any=>exfalso;cases x<;>simp [cpy,AV.rf] at hr
   all_goals
    cases x with
    | tmp t=>
     exact hI.refs t _ s b (vxi hx (by simp)) hr
    | const v=>
     exfalso;simp only [opd,wx7] at hx;split at hx
     . split at hx<;>(cases hx;try simp [cpy,AV.rf] at hr)
     . cases hx;try simp [cpy,AV.rf] at hr
     . cases hx;try simp [cpy,AV.rf] at hr
    | func f=>simp only [opd] at hx;cases hx<;>simp [cpy,AV.rf] at hr
    | global g=>simp only [opd] at hx;cases hx<;>simp [cpy,AV.rf] at hr
theorem RdC.zb5 {u:Value} (h:RdC M w v (.raw u)):v=u:=by cases h;rfl
def v9q (I:List AV) (c x y:Operand):Option AV:=
 match opd I c with
 | .one (.raw (.bool b))=>match opd I x,opd I y with
  | .one (.raw (.bool p)),.one (.raw (.bool q))=>some (.one (.raw (.bool (bif b then p else q))))
  | .one (.raw u),.undef=>if b=true then some (.one (.raw u)) else none
  | .undef,.one (.raw v)=>if b=false then some (.one (.raw v)) else none
  | _,_=>none
 | _=>none
theorem vyi {I:List AV} {c:Operand} (ho:o.op=.pick c x y) {av:AV} (hp:v9q I c x y=some av) {r:List Nat×List (Nat×AV)}
 (h:val I o (orr c++orr x++orr y) av=some r):yh6 P o I r.1 [] r.2:=by
 obtain ⟨d,hdst,hn,rfl⟩:=xj7 h
 have hraw:∃ u,av=.one (.raw u)/\u.oneCell'=true\/av=.one (.raw u):=by
  unfold v9q at hp
  repeat' split at hp
  all_goals first | (cases hp;exact ⟨_,.inr rfl⟩) | cases hp
 have hnh:av.vy8=false:=by obtain ⟨u,h | h⟩:=hraw<;>simp_all [AV.vy8]
 have hrf0:av.rf=none:=by obtain ⟨u,h | h⟩:=hraw<;>simp_all [AV.rf]
 have htk:∀ t,¬av.vjg t:=by obtain ⟨u,h | h⟩:=hraw<;>simp_all [AV.vjg,Cell.vjg]
 refine yh6.val hdst (by simp) hn hnh (fun E τ M I' a w hag hI=>?_);have hc:opd I' c=opd I c:=hag.opd (fun t ht=>by simp [ht]);have hx:opd I' x=opd I x:=hag.opd (fun t ht=>by simp [ht]);have hy:opd I' y=opd I y:=hag.opd (fun t ht=>by simp [ht]);have sc:=hI.opd c;have sx:=hI.opd x;have sy:=hI.opd y;rw [hc] at sc;rw [hx] at sx;rw [hy] at sy
 have key:∃ b:Bool,a.eval c=.bool b/\vi6 M w τ a.tmps (if b then a.eval x else a.eval y) av:=by
  unfold v9q at hp;split at hp
  . rename_i b hcb;rw [hcb] at sc;have hbv:a.eval c=.bool b:=RdC.zb5 sc;refine ⟨b,hbv,?_⟩;split at hp
    . rename_i p q hxp hyq;rw [hxp] at sx;rw [hyq] at sy
      cases hp;have e1:a.eval x=.bool p:=RdC.zb5 sx;have e2:a.eval y=.bool q:=RdC.zb5 sy;rw [e1,e2]
      cases b<;>exact RdC.raw rfl
    . rename_i u hxu hyu;rw [hxu] at sx;split at hp
      . rename_i hb;cases hp;simp only [hb,if_true];exact sx
      . cases hp
    . rename_i v hxu hyu;rw [hyu] at sy;split at hp
      . rename_i hb;cases hp;simp only [hb];exact sy
      . cases hp
    . cases hp
  . cases hp
 obtain ⟨b,hb,hs⟩:=key;refine ⟨if b then a.eval x else a.eval y,w,?_,zgs w,hs,fun t ht=>absurd ht (htk t),fun s b' hr=>by rw [hrf0] at hr;cases hr⟩;simp [execOp,ho,hb,asBool]
theorem yb5 (h:v.oneCell'=true):RdC M w v (wqc v):=by
 unfold wqc
 split
 . exact RdC.zc
 . exact RdC.raw h
theorem zal {M:Nat->Nat->Prop} {w:World} {τ:Nat->TV}:∀{l:List Value},(∀ v∈l,v.oneCell'=true)->RdL M w τ l (l.map wqc)
 | [],_=>trivial
 | v::l,h=>⟨RdT.of (yb5 (h v (by simp))),zal (fun u hu=>h u (by simp [hu]))⟩
theorem y72 {t:Nat}:∀ l:List Value,¬vxw t (l.map wqc)
 | []=>fun h=>h
 | v::l=>fun h=>h.elim (fun h=>by unfold wqc at h;split at h<;>exact h) (y72 l)
theorem zuf (w:World) (o:Obj):(w.alloc o).heap[w.heap.size]? = some o:=heap_alloc_new w o
theorem wf4 {I:List AV} (ho:o.op=.alloc T) (hti:mkTI P T=some ti) {r:List Nat×List (Nat×AV)}
 (h:val I o [] (.box ti.zc)=some r):yh6 P o I r.1 [] r.2:=by
 obtain ⟨d,hdst,hn,rfl⟩:=xj7 h;refine yh6.new hdst (by simp) hn rfl rfl (fun E τ M I' a w hag hI=>?_);obtain ⟨ds,i,z,hd,hi,hz,hsz,hby,hzs,hone,hzc,hsh⟩:=(vnz hti).ex;refine ⟨.pointer (some ⟨w.heap.size,0,none⟩),.cells z.cells T,?_,rfl,⟨w.heap.size,z.cells.toList,T,rfl,by rw [Array.toArray_toList];exact zuf w _,?_⟩,?_⟩
 . simp [execOp,ho,Instr.alloc,xt1 hi hz,newVar,newRow]
 . rw [hzc];exact zal hone
 . intro t ht;rw [hzc] at ht;exact absurd ht (y72 _)
def zj8:AV->Option (List Cell)
 | .one c=>some [c]
 | .agg cs=>some cs
 | _=>none
theorem v3g {av:AV} {cs:List Cell} (hc:zj8 av=some cs) (h:vi6 M w τ tm v av) :
 RdL M w τ v.cells.toList cs:=by
 cases av with
 | one c=>
  cases hc
  have h1:v.cells=#[v]:=by
   have:=RdT.one h
   cases v<;>first | rfl | cases this
  rw [h1];exact ⟨h,trivial⟩
 | agg cs'=>
  cases hc;obtain ⟨vs,rfl,h⟩:=h;simpa [Value.cells] using h
 | _=>cases hc
theorem xni {av:AV} {cs:List Cell} (hc:zj8 av=some cs) (h:vxw t cs):av.vjg t:=by
 cases av with
 | one c=>cases hc;exact h.elim id (fun h=>h.elim)
 | agg cs'=>cases hc;exact h
 | _=>cases hc
theorem y2i {I:List AV} (ho:o.op=.box T x) {cs:List Cell} (hcs:zj8 (opd I x)=some cs) {r:List Nat×List (Nat×AV)}
 (h:val I o (orr x) (.box cs)=some r):yh6 P o I r.1 [] r.2:=by
 obtain ⟨d,hdst,hn,rfl⟩:=xj7 h;refine yh6.new hdst (by simp) hn rfl rfl (fun E τ M I' a w hag hI=>?_);have hop:opd I' x=opd I x:=hag.opd (fun t ht=>by simp [ht]);have hs:=hI.opd x;rw [hop] at hs;have hr:=v3g hcs hs;refine ⟨.pointer (some ⟨w.heap.size,0,none⟩),.cells (a.eval x).cells T,?_,rfl,⟨w.heap.size,(a.eval x).cells.toList,T,rfl,by rw [Array.toArray_toList];exact zuf w _,hr.keep (ya3.alloc w _) (fun _ _=>rfl)⟩,?_⟩
 . simp [execOp,ho,Instr.box,newVar,newRow]
 . intro t ht
   have:=xni hcs ht
   rw [<-hop] at this;exact y1e this
def AV.xns:AV->Option (List Cell)
 | .box cs=>some cs
 | .obx cs=>some cs
 | _=>none
variable {I:List AV} {av:AV} {r:List Nat×List (Nat×AV)}
def AV.zca:AV->List Cell->AV
 | .obx _,cs=>.obx cs
 | _,cs=>.box cs
theorem x08 {cs:List Cell} (h:vi6 M w τ tm v av) (hb:av.xns=some cs) :
 ∃(b:Nat) (vs:List Value) (T:TypeId),v=.pointer (some ⟨b,0,none⟩)/\w.heap[b]? = some (.cells vs.toArray T (0,0))/\RdL M w τ vs cs:=by
 cases av with
 | box cs'=>cases hb;exact h
 | obx cs'=>cases hb;exact h
 | _=>cases hb
theorem xbh {cs:List Cell} (hb:av.xns=some cs):av.vy8=true/\av.fits true=true/\av≠.any:=by
 cases av<;>first | (cases hb;exact ⟨rfl,rfl,by simp⟩) | cases hb
theorem vmf {cs:List Cell} (hb:av.xns=some cs) (t:Nat):av.vjg t↔vxw t cs:=by
 cases av<;>first | (cases hb;exact Iff.rfl) | cases hb
def Cell.at (c:Cell) (i f:Nat):Option (List Cell):=match c with
 | .ints k l=>if i<l.length/\f=0 then some [.raw (.int k (l.getD i 0))] else none
 | .sl _ rows=>if i<rows.length then some ((rows.getD i []).drop f) else none
 | _=>none
variable {c:Cell} {cs:List Cell}
def Cell.upd (c:Cell) (i f:Nat) (us:List Cell):Option Cell:=match c with
 | .ints k l=>match us with
  | [.raw (.int k' n)]=>if k=k'/\i<l.length/\f=0 then some (.ints k (l.set i n)) else none
  | _=>none
 | .sl m rows=>if i<rows.length/\f+us.length<=m then some (.sl m (rows.set i ((rows.getD i []).take f++us++(rows.getD i []).drop (f+us.length)))) else none
 | _=>none
theorem wzz {α:Type} {m:Nat}:∀(rows:List (List α)) (i:Nat),(∀ r∈rows,r.length=m)->rows.flatten.drop (i*m)=(rows.drop i).flatten
 | rows,0,_=>by simp
 | [],i+1,_=>by simp
 | r::rows,i+1,h=>by
  have hr:=h r (by simp);rw [List.flatten_cons,List.drop_succ_cons,<-wzz rows i (fun r hr=>h r (by simp [hr])),Nat.succ_mul,Nat.add_comm,<-List.drop_drop,<-hr,List.drop_left]
theorem xxl {α:Type} {m:Nat}:∀(rows:List (List α)) (i:Nat),(∀ r∈rows,r.length=m)->rows.flatten.take (i*m)=(rows.take i).flatten
 | rows,0,_=>by simp
 | [],i+1,_=>by simp
 | r::rows,i+1,h=>by
  have hr:=h r (by simp);rw [List.flatten_cons,List.take_succ_cons,List.flatten_cons,<-xxl rows i (fun r hr=>h r (by simp [hr])),Nat.succ_mul,Nat.add_comm,<-hr,List.take_length_add_append]
theorem w2q {α:Type} {m:Nat}:∀(rows:List (List α)),(∀ r∈rows,r.length=m)->rows.flatten.length=rows.length*m
 | [],_=>by simp
 | r::rows,h=>by
  rw [List.flatten_cons,List.length_append,w2q rows (fun r hr=>h r (by simp [hr])),h r (by simp),List.length_cons,Nat.succ_mul];omega
theorem Cell.ym0 (h:c.uni):c.flat.length=c.cnt*c.esz:=by
 cases c with
 | ints k l=>simp [Cell.flat,Cell.cnt,Cell.esz]
 | sl n rows=>exact w2q rows h
 | _=>exact h.elim
theorem Cell.va2 (hu:c.uni) (h:c.at i f=some cs):i<c.cnt/\∃ r,c.flat.drop (i*c.esz+f)=cs++r:=by
 cases c with
 | ints k l=>
  simp only [Cell.at] at h;split at h
  . rename_i hc;obtain ⟨hi,rfl⟩:=hc
    cases h;refine ⟨hi,(l.drop (i+1)).map fun n=>.raw (.int k n),?_⟩;simp only [Cell.flat,Cell.esz,Nat.mul_one,Nat.add_zero];rw [List.drop_eq_getElem_cons (by simpa using hi)];simp [hi]
  . cases h
 | sl m rows=>
  simp only [Cell.at] at h;split at h
  . rename_i hi
    cases h;refine ⟨hi,((rows.drop (i+1)).flatten.drop (f-m)),?_⟩;have hu:∀ r∈rows,r.length=m:=hu;simp only [Cell.flat,Cell.esz];rw [<-List.drop_drop,wzz rows i hu,List.drop_eq_getElem_cons hi,List.flatten_cons,List.drop_append,hu _ (List.getElem_mem hi)];simp [hi]
  . cases h
 | _=>cases h
theorem Cell.vf9 {c':Cell} (hu : c.uni) {us : List Cell} (h : c.upd i f us = some c') :
 c'.uni/\c'.cnt=c.cnt/\c'.esz=c.esz/\i*c.esz+f+us.length<=c.flat.length/\c'.flat=c.flat.take (i*c.esz+f)++us++c.flat.drop (i*c.esz+f+us.length):=by
 cases c with
 | ints k l=>
  simp only [Cell.upd] at h;split at h
  . split at h
    . rename_i hc;obtain ⟨rfl,hi,rfl⟩:=hc
      cases h;refine ⟨trivial,by simp [Cell.cnt],rfl,by simp [Cell.esz,Cell.flat];omega,?_⟩;simp only [Cell.flat,Cell.esz,Nat.mul_one,Nat.add_zero,<-List.map_drop,<-List.map_take,List.length_cons,List.length_nil];rw [List.set_eq_take_append_cons_drop,if_pos hi];simp
    . cases h
  . cases h
 | sl m rows=>
  simp only [Cell.upd] at h;split at h
  . rename_i hc;obtain ⟨hi,hf⟩:=hc
    cases h;have hu:∀ r∈rows,r.length=m:=hu;have hrl:=hu _ (List.getElem_mem hi)
    have hge:rows.getD i []=rows[i]:=by simp [hi]
    rw [hge]
    have hnew:(rows[i].take f++us++rows[i].drop (f+us.length)).length=m:=by simp [hrl];omega
    refine ⟨fun r hr=>?_,by simp [Cell.cnt],rfl,?_,?_⟩
    . rcases List.mem_or_eq_of_mem_set hr with h | h
      . exact hu r h
      . rw [h];exact hnew
    . simp only [Cell.esz,Cell.flat];rw [w2q rows hu]
      have:(i+1)*m<=rows.length*m:=Nat.mul_le_mul_right _ hi
      rw [Nat.succ_mul] at this;omega
    . simp only [Cell.esz,Cell.flat];rw [List.set_eq_take_append_cons_drop,if_pos hi,List.flatten_append,List.flatten_cons]
      have e1:rows.flatten.take (i*m+f)=(rows.take i).flatten++rows[i].take f:=by
       rw [List.take_add,xxl rows i hu,wzz rows i hu,List.drop_eq_getElem_cons hi,List.flatten_cons,List.take_append_of_le_length (by rw [hrl];omega)]
      have e2:rows.flatten.drop (i*m+f+us.length)=rows[i].drop (f+us.length)++(rows.drop (i+1)).flatten:=by
       rw [Nat.add_assoc,<-List.drop_drop,wzz rows i hu,List.drop_eq_getElem_cons hi,List.flatten_cons,List.drop_append_of_le_length (by rw [hrl];omega)]
      rw [e1,e2];simp
  . cases h
 | _=>cases h
def v7m (ti:TI) (cs:List Cell):Option AV:=
 match ti.many with
 | some true=>if ti.size<=cs.length then some (.agg (cs.take ti.size)) else none
 | some false=>match cs with
  | c::_=>some (.one c)
  | []=>none
 | none=>none
def xmq (I:List AV) (ti:TI) (x:Operand):Option (List Nat×AV):=
 match opd I x with
 | .box cs=>(v7m ti cs).map fun v=>(orr x,v)
 | .obx cs=>(v7m ti cs).map fun v=>(orr x,v)
 | .ptr s off=>match (gt I s).xns with
  | some cs=>(v7m ti (cs.drop off)).map fun v=>(s::orr x,v)
  | none=>none
 | .elt cs=>(v7m ti cs).map fun v=>(orr x,v)
 | .pel s m i f=>match gt I s with
  | .arr _ c _=>if c.esz=m then match c.at i f with
   | some cs=>(v7m ti cs).map fun v=>(s::orr x,v)
   | none=>none
   else none
  | _=>none
 | _=>none
theorem yl6 (hti:TIok P T ti)
 (hc:∀ j u,vs[j]? = some u->w.cell? ⟨b,off+j,none⟩=some u) (hr:RdL M w τ vs cs) (hl:v7m ti cs=some av) :
 ∃ v,(loadVar T ⟨b,off,none⟩).run P w=.ok v w/\RdA M w τ v av:=by
 unfold v7m at hl
 have hadd:∀ j,(⟨b,off,none⟩:Addr).add j=⟨b,off+j,none⟩:=fun j=>by unfold Addr.add;split<;>simp_all
 split at hl
 . rename_i hm;split at hl
   . rename_i hle
     cases hl;obtain ⟨d,i,z,hd,hi,hz,hsz,hby,hzs,hone,hzc,hsh⟩:=hti.ex;have hlen:=hr.length;refine ⟨.agg (vs.take ti.size).toArray,?_,⟨vs.take ti.size,rfl,hr.take _⟩⟩
     have hld:=run_loadCells_list (P:=P) w ⟨b,off,none⟩ (vs.take ti.size) (fun j u hj=>by
      rw [hadd];refine hc j u ?_;rw [List.getElem?_take] at hj;split at hj
      . exact hj
      . cases hj)
     have hlt:(vs.take ti.size).length=ti.size:=by rw [List.length_take];omega
     rw [hlt] at hld;unfold loadVar;simp only [Sem.run_bind,hti.z1y hm,Result.andThen_ok,if_true,xvo hi,hsz,hld,Sem.run_pure]
   . cases hl
 . rename_i hm;split at hl
   . rename_i c cs'
     cases hl
     cases vs with
     | nil=>exact hr.elim
     | cons v vs=>
      refine ⟨v,?_,hr.1⟩
      have:=hc 0 v rfl
      unfold loadVar;simp only [Sem.run_bind,hti.z1y hm,Result.andThen_ok,Bool.false_eq_true,if_false];simp only [Nat.add_zero] at this;simp [load,Sem.run,this]
   . cases hl
 . cases hl
theorem zmw (h:v7m ti cs=some av):av.vy8=false/\av.rf=none:=by
 unfold v7m at h
 repeat' split at h
 all_goals first | (cases h;exact ⟨rfl,rfl⟩) | cases h
theorem vc9 {t:Nat}:∀{n:Nat} {cs:List Cell},vxw t (cs.take n)->vxw t cs
 | 0,cs,h=>by simp [vxw] at h
 | n+1,[],h=>h
 | n+1,c::cs,h=>h.imp id vc9
theorem v6v {t:Nat}:∀{n:Nat} {cs:List Cell},vxw t (cs.drop n)->vxw t cs
 | 0,cs,h=>by simpa using h
 | n+1,[],h=>h
 | n+1,c::cs,h=>.inr (v6v (by simpa using h))
theorem yzb {t:Nat}:∀{cs ds:List Cell},vxw t (cs++ds)->vxw t cs\/vxw t ds
 | [],_,h=>.inr h
 | c::cs,ds,h=>by
  rcases h with h | h
  . exact .inl (.inl h)
  . exact (yzb h).imp .inr id
theorem zkt (h:v7m ti cs=some av) (ht:av.vjg t):vxw t cs:=by
 unfold v7m at h
 repeat' split at h
 all_goals first | (cases h;first | exact vc9 ht | exact .inl ht) | cases h
theorem y2q (h:w.heap[b]? = some (.cells vs.toArray T (0,0))) (off:Nat) :
 ∀ j u,(vs.drop off)[j]? = some u->w.cell? ⟨b,off+j,none⟩=some u:=fun j u hj=>by
 rw [List.getElem?_drop] at hj;simp [World.cell?,h,hj]
theorem RdD.w1a {M:Nat->Nat->Prop} {w:World} {τ:Nat->TV}:∀{vs:List Value} {cs:List Cell},RdD M w vs cs->RdL M w τ vs cs
 | [],[],_=>trivial
 | _::_,_::_,h=>⟨RdT.of h.1,h.2.w1a⟩
theorem RdD.wo7 {M:Nat->Nat->Prop} {w:World} {t:Nat}:∀{vs:List Value} {cs:List Cell},RdD M w vs cs->¬vxw t cs
 | [],[],_=>fun h=>h
 | _::_,c::_,h=>fun ht=>ht.elim (fun h'=>by cases c<;>first | exact h'.elim | exact h.1.z3m) h.2.wo7
theorem v9l (ho:o.op=.load T x) (hti:mkTI P T=some ti) (hl:xmq I ti x=some (rd,av))
 (h:val I o rd av=some r):yh6 P o I r.1 [] r.2:=by
 obtain ⟨d,hdst,hn,rfl⟩:=xj7 h;have hok:=vnz hti
 have hprops:av.vy8=false/\av.rf=none/\∀ t∈orr x,t∈rd:=by
  unfold xmq at hl
  repeat' split at hl
  all_goals first
   | (simp only [Option.map_eq_some_iff,Prod.mk.injEq] at hl
      obtain ⟨_,h1,rfl,rfl⟩:=hl
      exact ⟨(zmw h1).1,(zmw h1).2,fun t ht=>by simp [ht]⟩)
   | cases hl
 refine yh6.val hdst (by simp) hn hprops.1 (fun E τ M I' a w hag hI=>?_);have hop:opd I' x=opd I x:=hag.opd (fun t ht=>by simp [hprops.2.2 t ht]);have hs:=hI.opd x;rw [hop] at hs
 suffices hkey:∃(ad:Addr) (v:Value),a.eval x=.pointer (some ad)/\(loadVar T ad).run P w=.ok v w/\vi6 M w τ a.tmps v av/\∀ t,av.vjg t->live I' t by
  obtain ⟨ad,v,he,hrun,hsl,htk⟩:=hkey;refine ⟨v,w,?_,zgs w,hsl,htk,fun s b' hr=>by rw [hprops.2.1] at hr;cases hr⟩;simp [execOp,ho,Instr.loadAt,he,Instr.sureAddr,hrun]
 unfold xmq at hl;split at hl
 . rename_i cs hx;simp only [Option.map_eq_some_iff,Prod.mk.injEq] at hl;obtain ⟨_,h1,rfl,rfl⟩:=hl;rw [hx] at hs;obtain ⟨b,vs,T',e,hb,hr⟩:=hs;obtain ⟨v,hrun,hrd⟩:=yl6 hok (b:=b) (off:=0) (vs:=vs) (fun j u hj=>by simpa using y2q hb 0 j u (by simpa using hj)) hr h1;exact ⟨_,v,e,hrun,hrd.slot,fun t ht=>y1e (x:=x) (by rw [hop,hx];exact zkt h1 ht)⟩
 . rename_i cs hx;simp only [Option.map_eq_some_iff,Prod.mk.injEq] at hl;obtain ⟨_,h1,rfl,rfl⟩:=hl;rw [hx] at hs;obtain ⟨b,vs,T',e,hb,hr⟩:=hs;obtain ⟨v,hrun,hrd⟩:=yl6 hok (b:=b) (off:=0) (vs:=vs) (fun j u hj=>by simpa using y2q hb 0 j u (by simpa using hj)) hr h1;exact ⟨_,v,e,hrun,hrd.slot,fun t ht=>y1e (x:=x) (by rw [hop,hx];exact zkt h1 ht)⟩
 . rename_i s off hx;split at hl
   . rename_i cs hg;simp only [Option.map_eq_some_iff,Prod.mk.injEq] at hl;obtain ⟨_,h1,rfl,rfl⟩:=hl;rw [hx] at hs
     have hg':(gt I' s).xns=some cs:=by rw [hag.2 s (by simp)];exact hg
     obtain ⟨b,vs,T',e,hb,hr⟩:=x08 (hI.gt s) hg';have hs:a.eval x=.pointer (some ⟨blk (a.tmps.getD s Go.undef),off,none⟩):=hs;rw [e] at hs;obtain ⟨v,hrun,hrd⟩:=yl6 hok (b:=b) (off:=off) (vs:=vs.drop off) (fun j u hj=>y2q hb off j u hj) (hr.drop off) h1;exact ⟨_,v,hs,hrun,hrd.slot,fun t ht=>⟨s,_,vxi rfl (xbh hg').2.2,(vmf hg' t).2 (v6v (zkt h1 ht))⟩⟩
   . cases hl
 . rename_i cs hx;simp only [Option.map_eq_some_iff,Prod.mk.injEq] at hl;obtain ⟨_,h1,rfl,rfl⟩:=hl;rw [hx] at hs;obtain ⟨b,off,vs,e,hcl,hr⟩:=hs;obtain ⟨v,hrun,hrd⟩:=yl6 hok (τ:=τ) (b:=b) (off:=off) (vs:=vs) (fun j u hj=>(hcl j u hj).2) hr.w1a h1;exact ⟨_,v,e,hrun,hrd.slot,fun t ht=>absurd (zkt h1 ht) hr.wo7⟩
 . rename_i s m i f hx;split at hl
   . rename_i pre c post hg;split at hl
     . rename_i hm;split at hl
       . rename_i cs hat;simp only [Option.map_eq_some_iff,Prod.mk.injEq] at hl;obtain ⟨_,h1,rfl,rfl⟩:=hl;rw [hx] at hs
         have hg':gt I' s=.arr pre c post:=by rw [hag.2 s (by simp)];exact hg
         have hss:=hI.gt s;rw [hg'] at hss;obtain ⟨b,T',vs,q,cap,e,hb,hrd,_,hu,_⟩:=hss;have hs:a.eval x=.pointer (some ⟨blk (a.tmps.getD s Go.undef),offV (a.tmps.getD s Go.undef)+i*m+f,none⟩):=hs;rw [e] at hs;obtain ⟨hi,r,hdrop⟩:=Cell.va2 hu hat;subst hm;have hfull:RdD M w (vs.drop (i*c.esz+f)) (cs++r):=hdrop▸hrd.drop _
         have hrd':RdD M w ((vs.drop (i*c.esz+f)).take cs.length) cs:=by
          have:=hfull.take cs.length
          rwa [List.take_left] at this
         obtain ⟨v,hrun,hrdv⟩:=yl6 hok (τ:=τ) (b:=b) (off:=pre.length+i*c.esz+f) (vs:=(vs.drop (i*c.esz+f)).take cs.length) (fun j u hj=>by
          rw [List.getElem?_take] at hj;split at hj
          . rw [List.getElem?_drop] at hj;have hlt:i*c.esz+f+j<vs.length:=(List.getElem?_eq_some_iff.1 hj).1;simp only [World.cell?,hb];simp only [List.getElem?_toArray];rw [List.getElem?_append_right (by omega),List.getElem?_append_left (by omega)];rw [show pre.length+i*c.esz+f+j-pre.length=i*c.esz+f+j by omega];exact hj
          . cases hj) hrd'.w1a h1
         exact ⟨_,v,hs,hrun,hrdv.slot,fun t ht=>absurd (zkt h1 ht) hrd'.wo7⟩
       . cases hl
     . cases hl
   . cases hl
 . cases hl
theorem RdD.get {M:Nat->Nat->Prop} {w:World}:∀{vs:List Value} {cs:List Cell},RdD M w vs cs->∀(j:Nat) (c:Cell),cs[j]? = some c->∃ v,vs[j]? = some v/\RdC M w v c
 | [],[],_,j,c,hc=>by simp at hc
 | v::vs,c'::cs,h,0,c,hc=>by simp at hc;subst hc;exact ⟨v,by simp,h.1⟩
 | v::vs,c'::cs,h,j+1,c,hc=>by simpa using h.2.get j c (by simpa using hc)
theorem xma {m:Nat}:∀(rows:List (List α)) (i j:Nat),(∀ r∈rows,r.length=m)->i<rows.length->j<m->rows.flatten[i*m+j]? = (rows.getD i [])[j]?
 | rows,i,j,h,hi,hj=>by
  have hri:=h _ (List.getElem_mem hi);rw [<-List.getElem?_drop,wzz rows i h,List.drop_eq_getElem_cons hi,List.flatten_cons,List.getElem?_append_left (by omega)];simp [hi]
theorem zjx {cap:Nat} {pre q:List Value} (hb:w.heap[b]? = some (.cells (pre++(vs++q)).toArray T (0,0))) (hr:RdD M w vs c.flat) (hu:c.uni)
 (hcap:c.cnt<=cap) (hM:∀ o,¬M b o):RdC M w (.slice (some ⟨b,pre.length,none⟩) c.cnt cap) c:=by
 have hcell:∀ i u,vs[i]? = some u->w.cell? ⟨b,pre.length+i,none⟩=some u:=fun i u hi=>by
  have hlt:i<vs.length:=(List.getElem?_eq_some_iff.1 hi).1;simp only [World.cell?,hb];simp only [List.getElem?_toArray];rw [List.getElem?_append_right (by omega),List.getElem?_append_left (by omega)];rw [show pre.length+i-pre.length=i by omega];exact hi
 cases c with
 | ints k l=>
  refine .ints b pre.length rfl hcap (fun _=>rfl) (fun i hi=>⟨hM _,?_⟩);obtain ⟨v,hv,hrv⟩:=hr.get i (.raw (.int k l[i])) (by simp [Cell.flat,hi]);rw [RdC.zb5 hrv] at hv;exact hcell i _ hv
 | sl n rows=>
  have hu:∀ r∈rows,r.length=n:=hu
  have key:∀ i (hi:i<rows.length) j,j<n->∃ v,vs[i*n+j]? = some v/\∀ hj':j<rows[i].length,RdC M w v (rows[i][j]'hj'):=fun i hi j hj=>by
   have hlen:=hu _ (List.getElem_mem hi)
   obtain ⟨v,hv,hrv⟩:=hr.get (i*n+j) (rows[i][j]'(by omega)) (by
    simp only [Cell.flat];rw [xma rows i j hu hi hj]
    have:rows.getD i []=rows[i]:=by simp [hi]
    rw [this]
    simp [hlen,hj])
   exact ⟨v,hv,fun _=>hrv⟩
  refine .sl b pre.length (fun i j=>(vs[i*n+j]?).getD Go.undef) rfl hcap (fun _=>rfl) hu (fun i hi j hj=>⟨hM _,?_⟩) (fun i hi j hj=>?_)
  . obtain ⟨v,hv,_⟩:=key i hi j hj
    have:=hcell (i*n+j) v hv
    rw [hv,Nat.add_assoc];exact this
  . have hlen:=hu _ (List.getElem_mem hi);obtain ⟨v,hv,hrv⟩:=key i hi j (by omega);rw [hv];exact hrv hj
 | _=>exact hu.elim
def Cell.sub (c:Cell) (lo n:Nat):Cell:=match c with
 | .ints k l=>.ints k ((l.drop lo).take n)
 | .sl m rows=>.sl m ((rows.drop lo).take n)
 | c=>c
theorem RdC.sub {M:Nat->Nat->Prop} {w:World} {b off len cap:Nat} {c:Cell} (hr:RdC M w (.slice (some ⟨b,off,none⟩) len cap) c) (hu:c.uni) {lo n cap':Nat} {ad:Option Addr} (hfit:lo+n<=c.cnt)
 (had:cap'≠0->ad=some ⟨b,off+lo*c.esz,none⟩) (hn:n<=cap'):RdC M w (.slice ad n cap') (c.sub lo n):=by
 cases hr with
 | raw h=>exact hu.elim
 | zc=>exact hu.elim
 | nn=>exact hu.elim
 | fnp=>exact hu.elim
 | @ints _ _ _ k l b' off' hl hc ha h=>
  simp only [Cell.cnt] at hfit;refine .ints b (off+lo) (by simp;omega) hn (fun hne=>?_) (fun i hi=>?_)
  . have:n≠0:=fun e=>hne (by simp [e])
    rw [had (by omega)];simp [Cell.esz]
  . simp only [List.length_take,List.length_drop] at hi
    have hne:l≠[]:=fun e=>by rw [e] at hfit;simp at hfit;omega
    have hh:=h (lo+i) (by omega)
    have:=ha hne
    simp only [Option.some.injEq,Addr.mk.injEq,and_true] at this;obtain ⟨rfl,rfl⟩:=this;rw [Nat.add_assoc];simpa using hh
 | @sl _ _ _ m rows b' off' u hl hc ha hn' hm hrr=>
  simp only [Cell.cnt] at hfit;refine .sl b (off+lo*m) (fun i j=>u (lo+i) j) (by simp;omega) hn (fun hne=>?_) (fun r hr'=>hn' r (List.mem_of_mem_drop (List.mem_of_mem_take hr'))) (fun i hi j hj=>?_) (fun i hi j hj=>?_)
  . have:n≠0:=fun e=>hne (by simp [e])
    rw [had (by omega)];simp [Cell.esz]
  . simp only [List.length_take,List.length_drop] at hi
    have hne:rows≠[]:=fun e=>by rw [e] at hfit;simp at hfit;omega
    have hh:=hm (lo+i) (by omega) j hj
    have:=ha hne
    simp only [Option.some.injEq,Addr.mk.injEq,and_true] at this;obtain ⟨rfl,rfl⟩:=this;rw [Nat.add_mul] at hh;rw [show off+lo*m+i*m+j=off+(lo*m+i*m)+j by omega];exact hh
  . simp only [List.length_take,List.length_drop] at hi
    have hlen:lo+i<rows.length:=by omega
    have hj':j<rows[lo+i].length:=by simpa using hj
    have:=hrr (lo+i) hlen j hj'
    simpa using this
theorem RdC.wo7 (h:RdC M w v c) (t:Nat):¬c.vjg t:=fun ht=>by
 cases c with
 | tok d c=>exact h.z3m
 | _=>exact ht
theorem x89 (n:Nat):∀ cs:List Cell,zcr (cs.drop n)=(zcr cs).drop n:=by
 induction n with
 | zero=>intro cs;simp
 | succ n ih=>
  intro cs
  cases cs with
  | nil=>simp [zcr]
  | cons c cs=>simpa [zcr] using ih cs
def zjj (I:List AV) (ti:TI) (x y:Operand):Option (List Nat×Nat×AV):=
 match zj8 (opd I y) with
 | none=>none
 | some cs=>
  if cs.length=ti.size then
   match opd I x with
   | .box old=>match x with
    | .tmp s=>if ti.size<=old.length then some (s::orr y,s,.box (cs++old.drop ti.size)) else none
    | _=>none
   | .obx old=>match x with
    | .tmp s=>if ti.size<=old.length then some (s::orr y,s,.obx (cs++old.drop ti.size)) else none
    | _=>none
   | .ptr s off=>match (gt I s).xns with
    | some old=>if off+ti.size<=old.length then some (s::(orr x++orr y),s,(gt I s).zca (old.take off++cs++old.drop (off+ti.size))) else none
    | none=>none
   | .pel s m i f=>match gt I s with
    | .arr pre c post=>if c.esz=m then match c.upd i f (zcr cs) with
     | some c'=>some (s::(orr x++orr y),s,.arr pre c' post)
     | none=>none
     else none
    | _=>none
   | _=>none
  else none
theorem y2r (hti:TIok P T ti) {Tb:TypeId} (hb:w.heap[b]? = some (.cells vs.toArray Tb (0,0)))
 (hsz:v.cells.size=ti.size) (h1:∀ u∈v.cells.toList,u.oneCell'=true) (hfit:off+ti.size<=vs.length) :
 (storeVar T ⟨b,off,none⟩ v).run P w=.ok () (w.setRow b (vs.take off++v.cells.toList++vs.drop (off+ti.size)).toArray):=by
 obtain ⟨d,i,z,hd,hi,hz,hsz',hby,hzs,hone,hzc,hsh⟩:=hti.ex;have hst:=run_storeCells_at P b off Tb v.cells.toList 0 vs.toArray w hb (by simp [hsz];omega) h1;unfold storeVar;simp only [Sem.run_bind,xvo hi,Result.andThen_ok];rw [hsz,hsz'];simp only [ne_eq,not_true_eq_false,if_false];simpa [hsz] using hst
theorem xwq (l:List α) (i:Nat) (x:α) (h:i<l.length):l.set i x=l.take i++[x]++l.drop (i+1):=by
 rw [List.set_eq_take_append_cons_drop,if_pos h];simp
theorem v8s (ho:o.op=.store T x y) (hdst:o.dst=none) (hti:mkTI P T=some ti) {s:Nat}
 (hst:zjj I ti x y=some (rd,s,av)):yh6 P o I rd [] [(s,av)]:=by
 have hok:=vnz hti;intro E I' a w hag _ ⟨τ,M,hI⟩ K Q hK;unfold zjj at hst;split at hst
 . cases hst
 rename_i cs hcs;split at hst
 . rename_i hlen
   have common:(∀ t∈orr y,t∈rd)->RdL M w τ (a.eval y).cells.toList cs/\(a.eval y).cells.size=ti.size/\(∀ u∈(a.eval y).cells.toList,u.oneCell'=true)/\∀ t,vxw t cs->live I' t:=fun hy=>by
    have hoy:opd I' y=opd I y:=hag.opd hy;have hs:=hI.opd y;rw [hoy] at hs;have hr:=v3g hcs hs;refine ⟨hr,?_,hr.ones,fun t ht=>?_⟩
    . rw [<-hlen,<-hr.length];simp
    . have:=xni hcs ht
      rw [<-hoy] at this;exact y1e this
   have boxcase:∀(off:Nat) (old:List Cell),(gt I' s).xns=some old->a.eval x=.pointer (some ⟨blk (a.tmps.getD s Go.undef),off,none⟩)->off+ti.size<=old.length->(∀ t∈orr y,t∈rd)->
    av=(gt I' s).zca (old.take off++cs++old.drop (off+ti.size))->o.wp P a w K Q:=fun off old hg hx hfit hy hav=>by
    obtain ⟨hr,hsz,hone,htok⟩:=common hy;obtain ⟨b,vs,Tb,e,hb,hrb⟩:=x08 (hI.gt s) hg;have hvl:=hrb.length
    have hbb:blk (a.tmps.getD s Go.undef)=b:=by rw [e];rfl
    rw [hbb] at hx;have hrun:=y2r hok hb hsz hone (off:=off) (by omega);unfold Oper.wp;simp only [execOp,ho,Instr.storeAt,hx,Instr.sureAddr,Sem.run_bind,Sem.run_pure,Result.andThen_ok,hrun];show K (a.put o.dst Go.undef) _;rw [hdst];refine hK _ _ ⟨τ,M,?_⟩;have hgs:=vxi (av:=gt I' s) rfl (xbh hg).2.2
    have hav':av.xns=some (old.take off++cs++old.drop (off+ti.size))/\av.fits true=true/\av.fits false=false/\av.vy8=true/\av.fresh=(gt I' s).fresh:=by
     rw [hav];generalize gt I' s=g at hg
     cases g<;>first | exact ⟨rfl,rfl,rfl,rfl,rfl⟩ | cases hg
    have hrw:=hI.rewrite (new:=av) hgs (xbh hg).1 hav'.2.2.2.1 (by
     intro b' hf
     cases b' with
     | true=>exact hav'.2.1
     | false=>
      exfalso;generalize gt I' s=g at hg hf
      cases g<;>simp [AV.fits,AV.vfv,AV.xns] at hf hg) hav'.2.2.2.2
     (vs.take off++(a.eval y).cells.toList++vs.drop (off+ti.size)).toArray ?_ ?_
    . rw [hbb] at hrw;exact hrw
    . intro vs1 T1 _;rw [hbb];have hM:∀ o,M b o:=hbb▸(hI.hold s _ hgs (xbh hg).1).1
      have hk:ya3 M M w (w.setRow b (vs.take off++(a.eval y).cells.toList++vs.drop (off+ti.size)).toArray):=fun b' o u hm hc=>⟨hm,by
       rw [cell_setRow_other]
       . exact hc
       . exact fun e'=>hm (by rw [show b'=b from e'];exact hM o)⟩
      have hnew:=(((hrb.take off).append hr).append (hrb.drop (off+ti.size))).keep hk (fun _ _=>rfl);have hex:∃(b_1:Nat) (vs_1:List Value) (T:TypeId),a.tmps.getD s Go.undef=.pointer (some ⟨b_1,0,none⟩)/\(w.setRow b (vs.take off++(a.eval y).cells.toList++vs.drop (off+ti.size)).toArray).heap[b_1]? = some (.cells vs_1.toArray T (0,0))/\
       RdL M (w.setRow b (vs.take off++(a.eval y).cells.toList++vs.drop (off+ti.size)).toArray) τ vs_1 (old.take off++cs++old.drop (off+ti.size)):=⟨b,_,Tb,e,setRow_heap w b _ _ Tb (0,0) hb,hnew⟩
      have hbo:=hav'.1
      cases av<;>first | (cases hbo;exact hex) | cases hbo
    . intro t ht;rw [vmf hav'.1] at ht
      have hold:∀ t,vxw t old->live I' t:=fun t ht=>⟨s,_,hgs,(vmf hg t).2 ht⟩
      rcases yzb ht with ht | ht
      . rcases yzb ht with ht | ht
        . exact hold t (vc9 ht)
        . exact htok t ht
      . exact hold t (v6v ht)
   split at hst
   . rename_i old hx;split at hst
     . rename_i s';split at hst
       . rename_i hfit
         cases hst
         have hg:gt I' s=.box old:=by rw [hag.2 s (by simp)];exact hx
         have hs:=hI.gt s;rw [hg] at hs;obtain ⟨b,vs,Tb,e,hb,hrb⟩:=hs;refine boxcase 0 old (by rw [hg];rfl) ?_ (by omega) (fun t ht=>by simp [ht]) (by rw [hg];simp [AV.zca]);show a.tmps.getD s Go.undef=_;rw [e];rfl
       . cases hst
     . cases hst
   . rename_i old hx;split at hst
     . rename_i s';split at hst
       . rename_i hfit
         cases hst
         have hg:gt I' s=.obx old:=by rw [hag.2 s (by simp)];exact hx
         have hs:=hI.gt s;rw [hg] at hs;obtain ⟨b,vs,Tb,e,hb,hrb⟩:=hs;refine boxcase 0 old (by rw [hg];rfl) ?_ (by omega) (fun t ht=>by simp [ht]) (by rw [hg];simp [AV.zca]);show a.tmps.getD s Go.undef=_;rw [e];rfl
       . cases hst
     . cases hst
   . rename_i s' off hx;split at hst
     . rename_i old hg0;split at hst
       . rename_i hfit
         cases hst;have hgg:gt I' s=gt I s:=hag.2 s (by simp);have hox:opd I' x=opd I x:=hag.opd (fun t ht=>by simp [ht]);have hs:=hI.opd x;rw [hox,hx] at hs;exact boxcase off old (by rw [hgg];exact hg0) hs hfit (fun t ht=>by simp [ht]) (by rw [hgg])
       . cases hst
     . cases hst
   . rename_i s' m i f hx;split at hst
     . rename_i pre c post hg0;split at hst
       . rename_i hm;split at hst
         . rename_i c' hupd
           cases hst;subst hm
           have hg:gt I' s=.arr pre c post:=by rw [hag.2 s (by simp)];exact hg0
           have hox:opd I' x=opd I x:=hag.opd (fun t ht=>by simp [ht]);have hs:=hI.opd x;rw [hox,hx] at hs;have hs:a.eval x=.pointer (some ⟨blk (a.tmps.getD s Go.undef),offV (a.tmps.getD s Go.undef)+i*c.esz+f,none⟩):=hs;obtain ⟨hr,hsz,hone,htok⟩:=common (fun t ht=>by simp [ht]);have hss:=hI.gt s;rw [hg] at hss;obtain ⟨b,Tb,vs,q,cap,e,hb,hrd,hpost,hu,hcap,hcap'⟩:=hss;obtain ⟨hu',hcnt,hesz,hfit,hflat⟩:=Cell.vf9 hu hupd
           have hbb:blk (a.tmps.getD s Go.undef)=b:=by rw [e];rfl
           rw [hbb] at hs
           have hoff:offV (a.tmps.getD s Go.undef)=pre.length:=by rw [e];rfl
           rw [hoff] at hs;have hvl:=hrd.length
           have hbl:(zcr cs).length=cs.length:=by rw [<-hr.bare.length,hr.length]
           have hul:(a.eval y).cells.toList.length=(zcr cs).length:=hr.bare.length
           have hsz':ti.size=(zcr cs).length:=by rw [<-hlen,hbl]
           have hrun:=y2r hok hb hsz hone (off:=pre.length+i*c.esz+f) (by simp;omega);have hnew:(pre++(vs++q)).take (pre.length+i*c.esz+f)++(a.eval y).cells.toList++(pre++(vs++q)).drop (pre.length+i*c.esz+f+ti.size) =
            pre++((vs.take (i*c.esz+f)++(a.eval y).cells.toList++vs.drop (i*c.esz+f+(zcr cs).length))++q):=by
            rw [List.take_append,List.drop_append,List.take_of_length_le (by omega),List.drop_eq_nil_of_le (by omega),hsz'];rw [show pre.length+i*c.esz+f-pre.length=i*c.esz+f by omega,show pre.length+i*c.esz+f+(zcr cs).length-pre.length=i*c.esz+f+(zcr cs).length by omega];rw [List.take_append_of_le_length (by omega),List.drop_append_of_le_length (by omega)];simp
           rw [hnew] at hrun;unfold Oper.wp;simp only [execOp,ho,Instr.storeAt,hs,Instr.sureAddr,Sem.run_bind,Sem.run_pure,Result.andThen_ok,hrun];show K (a.put o.dst Go.undef) _;rw [hdst];refine hK _ _ ⟨τ,M,?_⟩;have hgs:=vxi hg (by simp);have hrw:=hI.rewrite (new:=.arr pre c' post) hgs rfl rfl (by intro b' hf;cases b'<;>simp_all [AV.fits,AV.yk7,AV.vfv]) (by cases post<;>rfl)
            (pre++((vs.take (i*c.esz+f)++(a.eval y).cells.toList++vs.drop (i*c.esz+f+(zcr cs).length))++q)).toArray ?_ (fun t ht=>ht.elim)
           . rw [hbb] at hrw;exact hrw
           . intro vs1 T1 _;rw [hbb];have hM:∀ o,M b o:=hbb▸(hI.hold s _ hgs rfl).1
             have hk:ya3 M M w (w.setRow b (pre++((vs.take (i*c.esz+f)++(a.eval y).cells.toList++vs.drop (i*c.esz+f+(zcr cs).length))++q)).toArray):=fun b' o u hm hc=>⟨hm,by
              rw [cell_setRow_other]
              . exact hc
              . exact fun e'=>hm (by rw [show b'=b from e'];exact hM o)⟩
             refine ⟨b,Tb,vs.take (i*c.esz+f)++(a.eval y).cells.toList++vs.drop (i*c.esz+f+(zcr cs).length),q,cap,by rw [e,hcnt],setRow_heap w b _ _ Tb (0,0) hb,?_,hpost,hu',by rw [hcnt];exact hcap,?_⟩
             . rw [hflat];exact (((hrd.take _).append hr.bare).append (hrd.drop _)).keep hk
             . rw [hesz];simp only [List.length_append,List.length_take,List.length_drop,hul];omega
         . cases hst
       . cases hst
     . cases hst
   . cases hst
 . cases hst
theorem zhd {d:TypeDesc} (h:shOf P d=.struct fs):∃ fl,d=.struct fl/\fs=fl.toList.map (fun f=>(f.offset,P.cellsOf f.type,f.type))/\∀ f∈fl.toList,P.cellsOf f.type≠0:=by
 cases d with
 | struct fl=>
  unfold shOf at h;dsimp only at h;split at h
  . rename_i hc
    cases h;exact ⟨fl,rfl,rfl,fun f hf=>by simpa using (List.all_eq_true.1 hc) f hf⟩
  . cases h
 | slice e=>
  exfalso;revert h;unfold shOf;dsimp only
  split
  . split
    . split<;>simp
    . simp
  . simp
 | _=>simp [shOf] at h
def wii (I:List AV) (ti:TI) (x:Operand) (f:Nat):Option AV:=
 match ti.sh with
 | .struct fs=>match fs[f]? with
  | some (off,_,_)=>match opd I x with
   | .box _=>match x with
    | .tmp t=>some (.ptr t off)
    | _=>none
   | .obx _=>match x with
    | .tmp t=>some (.ptr t off)
    | _=>none
   | .ptr s o=>some (.ptr s (o+off))
   | .pel s m i f=>some (.pel s m i (f+off))
   | .elt cs=>some (.elt (cs.drop off))
   | _=>none
  | none=>none
 | _=>none
theorem zbv {t:TypeId} (h:P.cellsOf t≠0):∃ i,P.info? t=some i/\i.size=P.cellsOf t:=by
 unfold Program.cellsOf at *
 cases hi:P.info? t with
 | none=>simp [hi] at h
 | some i=>exact ⟨i,rfl,by simp⟩
theorem v1c (b off n:Nat):(⟨b,off,none⟩:Addr).add n=⟨b,off+n,none⟩:=by unfold Addr.add;split<;>simp_all
theorem w2u (hti:TIok P S ti) (hs:ti.sh=.struct fs) {sz:Nat} {ft:TypeId} (hf:fs[f]? = some (off,sz,ft)) (w:World) (b o:Nat) :
 (Instr.fieldAt S (.pointer (some ⟨b,o,none⟩)) f).run P w=.ok (.pointer (some ⟨b,o+off,none⟩)) w:=by
 obtain ⟨d,i,z,hd,hi,hz,hsz',hby,hzs,hone,hzc,hsh⟩:=hti.ex;obtain ⟨fl,rfl,rfl,hne⟩:=zhd (hsh.symm.trans hs);simp only [List.getElem?_map,Option.map_eq_some_iff,Prod.mk.injEq] at hf;obtain ⟨fd,hfd,rfl,rfl,rfl⟩:=hf
 have hfd':fl[f]? = some fd:=by simpa using hfd
 have hm:fd∈fl.toList:=List.mem_of_getElem? hfd;obtain ⟨j,hj,hjs⟩:=zbv (hne fd hm)
 have hj0:j.size≠0:=by rw [hjs];exact hne fd hm
 unfold Instr.fieldAt;simp only [Sem.run_bind,voj hd,Result.andThen_ok,hfd',Instr.sureAddr,Sem.run_pure,fieldPlace,xvo hj,hj0,if_false,v1c]
theorem x4u (ho:o.op=.fieldAddr S x f) (hti:mkTI P S=some ti) (hfa:wii I ti x f=some av)
 (h:val I o (orr x) av=some r):yh6 P o I r.1 [] r.2:=by
 obtain ⟨d,hdst,hn,rfl⟩:=xj7 h;have hok:=vnz hti
 have hnh:av.vy8=false/\∀ t,¬av.vjg t:=by
  unfold wii at hfa
  repeat' split at hfa
  all_goals first | (cases hfa;exact ⟨rfl,fun t h=>h⟩) | cases hfa
 refine yh6.val hdst (by simp) hn hnh.1 (fun E τ M I' a w hag hI=>?_);have hop:opd I' x=opd I x:=hag.opd (fun t ht=>by simp [ht]);have hs:=hI.opd x;rw [hop] at hs;unfold wii at hfa;split at hfa
 . rename_i fs hsh;split at hfa
   . rename_i off sz ft hff;have fin:∀(b o':Nat),a.eval x=.pointer (some ⟨b,o',none⟩)->vi6 M w τ a.tmps (.pointer (some ⟨b,o'+off,none⟩)) av->
      (∀(s:Nat) (b:Bool),av.rf=some (s,b)->∃ hv:AV,I'[s]? = some hv/\hv.fits b=true)->
      ∃ v w',(execOp a.eval o).run P w=.ok (.value v) w'/\Below w.heap.size w w'/\vi6 M w' τ a.tmps v av/\(∀ t,av.vjg t->live I' t)/\
      (∀(s:Nat) (b:Bool),av.rf=some (s,b)->∃ hv:AV,I'[s]? = some hv/\hv.fits b=true):=fun b o' hx hsl hrf=>
      ⟨_,w,by simp [execOp,ho,hx,w2u hok hsh hff w b o'],zgs w,hsl,fun t ht=>absurd ht (hnh.2 t),hrf⟩
     split at hfa
     . rename_i cs hx;split at hfa
       . rename_i t
         cases hfa;rw [hx] at hs;obtain ⟨b,vs,Tb,e,hb,hr⟩:=hs;refine fin b 0 e ?_ (fun s b' hr'=>?_)
         . show _=Value.pointer (some ⟨blk (a.eval (.tmp t)),off,none⟩);rw [e];simp [blk]
         . simp only [AV.rf,Option.some.injEq,Prod.mk.injEq] at hr';obtain ⟨rfl,rfl⟩:=hr';exact ⟨_,vxi (hop.trans hx) (by simp),rfl⟩
       . cases hfa
     . rename_i cs hx;split at hfa
       . rename_i t
         cases hfa;rw [hx] at hs;obtain ⟨b,vs,Tb,e,hb,hr⟩:=hs;refine fin b 0 e ?_ (fun s b' hr'=>?_)
         . show _=Value.pointer (some ⟨blk (a.eval (.tmp t)),off,none⟩);rw [e];simp [blk]
         . simp only [AV.rf,Option.some.injEq,Prod.mk.injEq] at hr';obtain ⟨rfl,rfl⟩:=hr';exact ⟨_,vxi (hop.trans hx) (by simp),rfl⟩
       . cases hfa
     . rename_i s o' hx
       cases hfa;rw [hx] at hs;refine fin _ o' hs rfl (fun s' b' hr'=>?_)
       cases x with
       | tmp t=>exact hI.refs t _ s' b' (vxi (hop.trans hx) (by simp)) (by simpa [AV.rf] using hr')
       | const v=>
        exfalso;simp only [opd,wx7] at hx;split at hx
        . split at hx<;>cases hx
        . cases hx
        . cases hx
       | func f=>cases hx
       | global g=>cases hx
     . rename_i s m i f' hx
       cases hfa;rw [hx] at hs;refine fin _ _ hs (by show _=Value.pointer _;rw [Nat.add_assoc]) (fun s' b' hr'=>?_)
       cases x with
       | tmp t=>exact hI.refs t _ s' b' (vxi (hop.trans hx) (by simp)) (by simpa [AV.rf] using hr')
       | const v=>
        exfalso;simp only [opd,wx7] at hx;split at hx
        . split at hx<;>cases hx
        . cases hx
        . cases hx
       | func f=>cases hx
       | global g=>cases hx
     . rename_i cs hx
       cases hfa;rw [hx] at hs;obtain ⟨b,o',vs,e,hc,hr⟩:=hs;refine fin b o' e ⟨b,o'+off,vs.drop off,rfl,fun j u hj=>?_,hr.drop off⟩ (fun s b hr=>by cases hr);rw [List.getElem?_drop] at hj
       have:=hc (off+j) u hj
       rwa [<-Nat.add_assoc] at this
     . cases hfa
   . cases hfa
 . cases hfa
def wo5 (I:List AV) (x:Operand) (n:Nat):Option AV:=
 match opd I x with
 | .tup l=>match l[n]? with
  | some (.one c)=>some (.one c)
  | some (.agg cs)=>some (.agg cs)
  | some .any=>some .any
  | _=>none
 | _=>none
theorem RdB.slot (h:RdB M w v av):vi6 M w τ tm v av/\∀ t,¬av.vjg t:=by
 cases av with
 | one c=>exact ⟨RdT.of h,fun t ht=>by cases c<;>first | exact ht.elim | exact h.z3m⟩
 | agg cs=>obtain ⟨vs,rfl,h⟩:=h;exact ⟨⟨vs,rfl,h.w1a⟩,fun t ht=>h.wo7 ht⟩
 | any=>exact ⟨trivial,fun t ht=>ht⟩
 | undef=>exact ⟨h,fun t ht=>ht⟩
 | elt cs=>exact ⟨h,fun t ht=>ht⟩
 | _=>exact h.elim
theorem yzm {n:Nat} (ho:o.op=.extract x n) (hfa:wo5 I x n=some av)
 (h:val I o (orr x) av=some r):yh6 P o I r.1 [] r.2:=by
 obtain ⟨d,hdst,hn,rfl⟩:=xj7 h
 have hnh:av.vy8=false/\av.rf=none:=by
  unfold wo5 at hfa
  repeat' split at hfa
  all_goals first | (cases hfa;exact ⟨rfl,rfl⟩) | cases hfa
 refine yh6.val hdst (by simp) hn hnh.1 (fun E τ M I' a w hag hI=>?_);have hop:opd I' x=opd I x:=hag.opd (fun t ht=>by simp [ht]);have hs:=hI.opd x;rw [hop] at hs
 have:∃ l,opd I x=.tup l/\l[n]? = some av:=by
  unfold wo5 at hfa;split at hfa
  . rename_i l hl;refine ⟨l,hl,?_⟩
    split at hfa<;>first | (cases hfa;assumption) | cases hfa
  . cases hfa
 obtain ⟨l,hl,hav⟩:=this;rw [hl] at hs;obtain ⟨vs,e,hr⟩:=hs;obtain ⟨v,hv,hrb⟩:=hr.get n av hav;have hsl:=hrb.slot (τ:=τ) (tm:=a.tmps);refine ⟨v,w,?_,zgs w,hsl.1,fun t ht=>absurd ht (hsl.2 t),fun s b hr=>by rw [hnh.2] at hr;cases hr⟩;simp [execOp,ho,e,Instr.extract,hv]
end Go.Slot
