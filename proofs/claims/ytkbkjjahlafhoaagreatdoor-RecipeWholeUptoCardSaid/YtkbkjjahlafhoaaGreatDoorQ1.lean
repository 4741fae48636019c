/- The proof, part Q1: Md, Me, Mf. -/
import Derived.Test.YtkbkjjahlafhoaaGreatDoorQ0
namespace Go.Slot
open Go Go.RowKit
variable {P:Program}
variable {J:List AV} {o:Oper} {rd:List Nat} {av:AV} {r:List Nat×List (Nat×AV)} {M:Nat->Nat->Prop} {w:World} {v:Value} {x y:Operand} {i f b off e es eb:Nat} {vs:List Value} {T:TypeId} {α:Type} {ti:TI} {d:TypeDesc} {fs:List (Nat×Nat×TypeId)} {ik:Option IntKind}
def val (J:List AV) (o:Oper) (rd:List Nat) (av:AV):Option (List Nat×List (Nat×AV)):=
 match o.dst with
 | some d=>if nh J d then some (d::rd,[(d,av)]) else none
 | none=>none
theorem x17 (h:val J o rd av=some r) :
 ∃ d,o.dst=some d/\nh J d=true/\r=(d::rd,[(d,av)]):=by
 unfold val at h;split at h
 . rename_i d hd;split at h
   . rename_i hn;cases h;exact ⟨d,hd,hn,rfl⟩
   . cases h
 . cases h
theorem xr1 (w:World):Below w.heap.size w w:=Below.refl _ _
theorem RdC.v7q {u:Value} (h:RdC M w v (.raw u)):v=u:=by cases h;rfl
def x3u (J:List AV) (c x y:Operand):Option AV:=
 match opd J c with
 | .one (.raw (.bool b))=>match opd J x,opd J y with
  | .one (.raw (.bool p)),.one (.raw (.bool q))=>some (.one (.raw (.bool (bif b then p else q))))
  | .one (.raw u),.undef=>if b=true then some (.one (.raw u)) else none
  | .undef,.one (.raw v)=>if b=false then some (.one (.raw v)) else none
  | _,_=>none
 | _=>none
theorem yzz {c:Operand} (ho:o.op=.pick c x y) (hp:x3u J c x y=some av)
 (h:val J o (orr c++orr x++orr y) av=some r):z7c P o J r.1 [] r.2:=by
 obtain ⟨d,hdst,hn,rfl⟩:=x17 h
 have hraw:∃ u,av=.one (.raw u)/\u.oneCell'=true\/av=.one (.raw u):=by
  unfold x3u at hp
  repeat' split at hp
  all_goals first | (cases hp;exact ⟨_,.inr rfl⟩) | cases hp
 have hnh:av.v43=false:=by obtain ⟨u,h | h⟩:=hraw<;>simp_all [AV.v43]
 have hrf0:av.rf=none:=by obtain ⟨u,h | h⟩:=hraw<;>simp_all [AV.rf]
 have htk:∀ t,¬av.zkp t:=by obtain ⟨u,h | h⟩:=hraw<;>simp_all [AV.zkp,Cell.zkp]
 refine z7c.val hdst (by simp) hn hnh (fun E τ M J' a w hag hI=>?_);have hc:opd J' c=opd J c:=hag.opd (fun t ht=>by simp [ht]);have hx:opd J' x=opd J x:=hag.opd (fun t ht=>by simp [ht]);have hy:opd J' y=opd J y:=hag.opd (fun t ht=>by simp [ht]);have sc:=hI.opd c;have sx:=hI.opd x;have sy:=hI.opd y;rw [hc] at sc;rw [hx] at sx;rw [hy] at sy
 have key:∃ b:Bool,a.eval c=.bool b/\yos M w τ a.tmps (if b then a.eval x else a.eval y) av:=by
  unfold x3u at hp;split at hp
  . rename_i b hcb;rw [hcb] at sc;have hbv:a.eval c=.bool b:=RdC.v7q sc;refine ⟨b,hbv,?_⟩;split at hp
    . rename_i p q hxp hyq;rw [hxp] at sx;rw [hyq] at sy
      cases hp;have e1:a.eval x=.bool p:=RdC.v7q sx;have e2:a.eval y=.bool q:=RdC.v7q sy;rw [e1,e2]
      cases b<;>exact RdC.raw rfl
    . rename_i u hxu hyu;rw [hxu] at sx;split at hp
      . rename_i hb;cases hp;simp only [hb,if_true];exact sx
      . cases hp
    . rename_i v hxu hyu;rw [hyu] at sy;split at hp
      . rename_i hb;cases hp;simp only [hb];exact sy
      . cases hp
    . cases hp
  . cases hp
 obtain ⟨b,hb,hs⟩:=key;refine ⟨if b then a.eval x else a.eval y,w,?_,xr1 w,hs,fun t ht=>absurd ht (htk t),fun s b' hr=>by rw [hrf0] at hr;cases hr⟩;simp [execOp,ho,hb,asBool]
theorem vwb (h:v.oneCell'=true):RdC M w v (zyj v):=by
 unfold zyj
 split
 . exact RdC.zc
 . exact RdC.raw h
theorem ylf (w:World) (o:Obj):(w.alloc o).heap[w.heap.size]? = some o:=heap_alloc_new w o
def xij:AV->Option (List Cell)
 | .one c=>some [c]
 | .agg cs=>some cs
 | _=>none
def Cell.at (c:Cell) (i f:Nat):Option (List Cell):=match c with
 | .ints k l=>if i<l.length/\f=0 then some [.raw (.int k (l.getD i 0))] else none
 | .sl _ rows=>if i<rows.length then some ((rows.getD i []).drop f) else none
 | _=>none
variable {c:Cell} {cs:List Cell}
def Cell.upd (c:Cell) (i f:Nat) (us:List Cell):Option Cell:=match c with
 | .ints k l=>match us with
  | [.raw (.int k' n)]=>if k=k'/\i<l.length/\f=0 then some (.ints k (l.set i n)) else none
  | _=>none
 | .sl m rows=>if i<rows.length/\f+us.length<=m then some (.sl m (rows.set i ((rows.getD i []).take f++us++(rows.getD i []).drop (f+us.length)))) else none
 | _=>none
theorem z1m {α:Type} {m:Nat}:∀(rows:List (List α)) (i:Nat),(∀ r∈rows,r.length=m)->rows.flatten.drop (i*m)=(rows.drop i).flatten
 | rows,0,_=>by simp
 | [],i+1,_=>by simp
 | r::rows,i+1,h=>by
  have hr:=h r (by simp);rw [List.flatten_cons,List.drop_succ_cons,<-z1m rows i (fun r hr=>h r (by simp [hr])),Nat.succ_mul,Nat.add_comm,<-List.drop_drop,<-hr,List.drop_left]
theorem zqa {α:Type} {m:Nat}:∀(rows:List (List α)) (i:Nat),(∀ r∈rows,r.length=m)->rows.flatten.take (i*m)=(rows.take i).flatten
 | rows,0,_=>by simp
 | [],i+1,_=>by simp
 | r::rows,i+1,h=>by
  have hr:=h r (by simp);rw [List.flatten_cons,List.take_succ_cons,List.flatten_cons,<-zqa rows i (fun r hr=>h r (by simp [hr])),Nat.succ_mul,Nat.add_comm,<-hr,List.take_length_add_append]
theorem xz3 {α:Type} {m:Nat}:∀(rows:List (List α)),(∀ r∈rows,r.length=m)->rows.flatten.length=rows.length*m
 | [],_=>by simp
 | r::rows,h=>by
  rw [List.flatten_cons,List.length_append,xz3 rows (fun r hr=>h r (by simp [hr])),h r (by simp),List.length_cons,Nat.succ_mul];omega
theorem Cell.x84 (h:c.uni):c.flat.length=c.cnt*c.esz:=by
 cases c with
 | ints k l=>simp [Cell.flat,Cell.cnt,Cell.esz]
 | sl n rows=>exact xz3 rows h
 | _=>exact h.elim
theorem Cell.zfn (hu:c.uni) (h:c.at i f=some cs):i<c.cnt/\∃ r,c.flat.drop (i*c.esz+f)=cs++r:=by
 cases c with
 | ints k l=>
  simp only [Cell.at] at h;split at h
  . rename_i hc;obtain ⟨hi,rfl⟩:=hc
    cases h;refine ⟨hi,(l.drop (i+1)).map fun n=>.raw (.int k n),?_⟩;simp only [Cell.flat,Cell.esz,Nat.mul_one,Nat.add_zero];rw [List.drop_eq_getElem_cons (by simpa using hi)];simp [hi]
  . cases h
 | sl m rows=>
  simp only [Cell.at] at h;split at h
  . rename_i hi
    cases h;refine ⟨hi,((rows.drop (i+1)).flatten.drop (f-m)),?_⟩;have hu:∀ r∈rows,r.length=m:=hu;simp only [Cell.flat,Cell.esz];rw [<-List.drop_drop,z1m rows i hu,List.drop_eq_getElem_cons hi,List.flatten_cons,List.drop_append,hu _ (List.getElem_mem hi)];simp [hi]
  . cases h
 | _=>cases h
theorem Cell.zqk {c':Cell} (hu : c.uni) {us : List Cell} (h : c.upd i f us = some c') :
 c'.uni/\c'.cnt=c.cnt/\c'.esz=c.esz/\i*c.esz+f+us.length<=c.flat.length/\c'.flat=c.flat.take (i*c.esz+f)++us++c.flat.drop (i*c.esz+f+us.length):=by
 cases c with
 | ints k l=>
  simp only [Cell.upd] at h;split at h
  . split at h
    . rename_i hc;obtain ⟨rfl,hi,rfl⟩:=hc
      cases h;refine ⟨trivial,by simp [Cell.cnt],rfl,by simp [Cell.esz,Cell.flat];omega,?_⟩;simp only [Cell.flat,Cell.esz,Nat.mul_one,Nat.add_zero,<-List.map_drop,<-List.map_take,List.length_cons,List.length_nil];rw [List.set_eq_take_append_cons_drop,if_pos hi];simp
    . cases h
  . cases h
 | sl m rows=>
  simp only [Cell.upd] at h;split at h
  . rename_i hc;obtain ⟨hi,hf⟩:=hc
    cases h;have hu:∀ r∈rows,r.length=m:=hu;have hrl:=hu _ (List.getElem_mem hi)
    have hge:rows.getD i []=rows[i]:=by simp [hi]
    rw [hge]
    have hnew:(rows[i].take f++us++rows[i].drop (f+us.length)).length=m:=by simp [hrl];omega
    refine ⟨fun r hr=>?_,by simp [Cell.cnt],rfl,?_,?_⟩
    . rcases List.mem_or_eq_of_mem_set hr with h | h
      . exact hu r h
      . rw [h];exact hnew
    . simp only [Cell.esz,Cell.flat];rw [xz3 rows hu]
      have:(i+1)*m<=rows.length*m:=Nat.mul_le_mul_right _ hi
      rw [Nat.succ_mul] at this;omega
    . simp only [Cell.esz,Cell.flat];rw [List.set_eq_take_append_cons_drop,if_pos hi,List.flatten_append,List.flatten_cons]
      have e1:rows.flatten.take (i*m+f)=(rows.take i).flatten++rows[i].take f:=by
       rw [List.take_add,zqa rows i hu,z1m rows i hu,List.drop_eq_getElem_cons hi,List.flatten_cons,List.take_append_of_le_length (by rw [hrl];omega)]
      have e2:rows.flatten.drop (i*m+f+us.length)=rows[i].drop (f+us.length)++(rows.drop (i+1)).flatten:=by
       rw [Nat.add_assoc,<-List.drop_drop,z1m rows i hu,List.drop_eq_getElem_cons hi,List.flatten_cons,List.drop_append_of_le_length (by rw [hrl];omega)]
      rw [e1,e2];simp
  . cases h
 | _=>cases h
def y2x (ti:TI) (cs:List Cell):Option AV:=
 match ti.many with
 | some true=>if ti.size<=cs.length then some (.agg (cs.take ti.size)) else none
 | some false=>match cs with
  | c::_=>some (.one c)
  | []=>none
 | none=>none
theorem wls (h:w.heap[b]? = some (.cells vs.toArray T (0,0))) (off:Nat) :
 ∀ j u,(vs.drop off)[j]? = some u->w.cell? ⟨b,off+j,none⟩=some u:=fun j u hj=>by
 rw [List.getElem?_drop] at hj;simp [World.cell?,h,hj]
theorem RdD.xqu {M:Nat->Nat->Prop} {w:World} {t:Nat}:∀{vs:List Value} {cs:List Cell},RdD M w vs cs->¬zje t cs
 | [],[],_=>fun h=>h
 | _::_,c::_,h=>fun ht=>ht.elim (fun h'=>by cases c<;>first | exact h'.elim | exact h.1.zrr) h.2.xqu
theorem RdD.get {M:Nat->Nat->Prop} {w:World}:∀{vs:List Value} {cs:List Cell},RdD M w vs cs->∀(j:Nat) (c:Cell),cs[j]? = some c->∃ v,vs[j]? = some v/\RdC M w v c
 | [],[],_,j,c,hc=>by simp at hc
 | v::vs,c'::cs,h,0,c,hc=>by simp at hc;subst hc;exact ⟨v,by simp,h.1⟩
 | v::vs,c'::cs,h,j+1,c,hc=>by simpa using h.2.get j c (by simpa using hc)
theorem zi8 {m:Nat}:∀(rows:List (List α)) (i j:Nat),(∀ r∈rows,r.length=m)->i<rows.length->j<m->rows.flatten[i*m+j]? = (rows.getD i [])[j]?
 | rows,i,j,h,hi,hj=>by
  have hri:=h _ (List.getElem_mem hi);rw [<-List.getElem?_drop,z1m rows i h,List.drop_eq_getElem_cons hi,List.flatten_cons,List.getElem?_append_left (by omega)];simp [hi]
theorem w4f {cap:Nat} {pre q:List Value} (hb:w.heap[b]? = some (.cells (pre++(vs++q)).toArray T (0,0))) (hr:RdD M w vs c.flat) (hu:c.uni)
 (hcap:c.cnt<=cap) (hM:∀ o,¬M b o):RdC M w (.slice (some ⟨b,pre.length,none⟩) c.cnt cap) c:=by
 have hcell:∀ i u,vs[i]? = some u->w.cell? ⟨b,pre.length+i,none⟩=some u:=fun i u hi=>by
  have hlt:i<vs.length:=(List.getElem?_eq_some_iff.1 hi).1;simp only [World.cell?,hb];simp only [List.getElem?_toArray];rw [List.getElem?_append_right (by omega),List.getElem?_append_left (by omega)];rw [show pre.length+i-pre.length=i by omega];exact hi
 cases c with
 | ints k l=>
  refine .ints b pre.length rfl hcap (fun _=>rfl) (fun i hi=>⟨hM _,?_⟩);obtain ⟨v,hv,hrv⟩:=hr.get i (.raw (.int k l[i])) (by simp [Cell.flat,hi]);rw [RdC.v7q hrv] at hv;exact hcell i _ hv
 | sl n rows=>
  have hu:∀ r∈rows,r.length=n:=hu
  have key:∀ i (hi:i<rows.length) j,j<n->∃ v,vs[i*n+j]? = some v/\∀ hj':j<rows[i].length,RdC M w v (rows[i][j]'hj'):=fun i hi j hj=>by
   have hlen:=hu _ (List.getElem_mem hi)
   obtain ⟨v,hv,hrv⟩:=hr.get (i*n+j) (rows[i][j]'(by omega)) (by
    simp only [Cell.flat];rw [zi8 rows i j hu hi hj]
    have:rows.getD i []=rows[i]:=by simp [hi]
    rw [this]
    simp [hlen,hj])
   exact ⟨v,hv,fun _=>hrv⟩
  refine .sl b pre.length (fun i j=>(vs[i*n+j]?).getD Go.undef) rfl hcap (fun _=>rfl) hu (fun i hi j hj=>⟨hM _,?_⟩) (fun i hi j hj=>?_)
  . obtain ⟨v,hv,_⟩:=key i hi j hj
    have:=hcell (i*n+j) v hv
    rw [hv,Nat.add_assoc];exact this
  . have hlen:=hu _ (List.getElem_mem hi);obtain ⟨v,hv,hrv⟩:=key i hi j (by omega);rw [hv];exact hrv hj
 | _=>exact hu.elim
def Cell.sub (c:Cell) (lo n:Nat):Cell:=match c with
 | .ints k l=>.ints k ((l.drop lo).take n)
 | .sl m rows=>.sl m ((rows.drop lo).take n)
 | c=>c
theorem RdC.sub {M:Nat->Nat->Prop} {w:World} {b off len cap:Nat} {c:Cell} (hr:RdC M w (.slice (some ⟨b,off,none⟩) len cap) c) (hu:c.uni) {lo n cap':Nat} {ad:Option Addr} (hfit:lo+n<=c.cnt)
 (had:cap'≠0->ad=some ⟨b,off+lo*c.esz,none⟩) (hn:n<=cap'):RdC M w (.slice ad n cap') (c.sub lo n):=by
 cases hr with
 | raw h=>exact hu.elim
 | zc=>exact hu.elim
 | nn=>exact hu.elim
 | fnp=>exact hu.elim
 | @ints _ _ _ k l b' off' hl hc ha h=>
  simp only [Cell.cnt] at hfit;refine .ints b (off+lo) (by simp;omega) hn (fun hne=>?_) (fun i hi=>?_)
  . have:n≠0:=fun e=>hne (by simp [e])
    rw [had (by omega)];simp [Cell.esz]
  . simp only [List.length_take,List.length_drop] at hi
    have hne:l≠[]:=fun e=>by rw [e] at hfit;simp at hfit;omega
    have hh:=h (lo+i) (by omega)
    have:=ha hne
    simp only [Option.some.injEq,Addr.mk.injEq,and_true] at this;obtain ⟨rfl,rfl⟩:=this;rw [Nat.add_assoc];simpa using hh
 | @sl _ _ _ m rows b' off' u hl hc ha hn' hm hrr=>
  simp only [Cell.cnt] at hfit;refine .sl b (off+lo*m) (fun i j=>u (lo+i) j) (by simp;omega) hn (fun hne=>?_) (fun r hr'=>hn' r (List.mem_of_mem_drop (List.mem_of_mem_take hr'))) (fun i hi j hj=>?_) (fun i hi j hj=>?_)
  . have:n≠0:=fun e=>hne (by simp [e])
    rw [had (by omega)];simp [Cell.esz]
  . simp only [List.length_take,List.length_drop] at hi
    have hne:rows≠[]:=fun e=>by rw [e] at hfit;simp at hfit;omega
    have hh:=hm (lo+i) (by omega) j hj
    have:=ha hne
    simp only [Option.some.injEq,Addr.mk.injEq,and_true] at this;obtain ⟨rfl,rfl⟩:=this;rw [Nat.add_mul] at hh;rw [show off+lo*m+i*m+j=off+(lo*m+i*m)+j by omega];exact hh
  . simp only [List.length_take,List.length_drop] at hi
    have hlen:lo+i<rows.length:=by omega
    have hj':j<rows[lo+i].length:=by simpa using hj
    have:=hrr (lo+i) hlen j hj'
    simpa using this
theorem RdC.xqu (h:RdC M w v c) (t:Nat):¬c.zkp t:=fun ht=>by
 cases c with
 | tok d c=>exact h.zrr
 | _=>exact ht
theorem xsg (hti:TIok P T ti) {Tb:TypeId} (hb:w.heap[b]? = some (.cells vs.toArray Tb (0,0)))
 (hsz:v.cells.size=ti.size) (h1:∀ u∈v.cells.toList,u.oneCell'=true) (hfit:off+ti.size<=vs.length) :
 (storeVar T ⟨b,off,none⟩ v).run P w=.ok () (w.setRow b (vs.take off++v.cells.toList++vs.drop (off+ti.size)).toArray):=by
 obtain ⟨d,i,z,hd,hi,hz,hsz',hby,hzs,hone,hzc,hsh⟩:=hti.ex;have hst:=run_storeCells_at P b off Tb v.cells.toList 0 vs.toArray w hb (by simp [hsz];omega) h1;unfold storeVar;simp only [Sem.run_bind,ynn hi,Result.andThen_ok];rw [hsz,hsz'];simp only [ne_eq,not_true_eq_false,if_false];simpa [hsz] using hst
theorem yeg (l:List α) (i:Nat) (x:α) (h:i<l.length):l.set i x=l.take i++[x]++l.drop (i+1):=by
 rw [List.set_eq_take_append_cons_drop,if_pos h];simp
theorem xqa (h:shOf P d=.struct fs):∃ fl,d=.struct fl/\fs=fl.toList.map (fun f=>(f.offset,P.cellsOf f.type,f.type))/\∀ f∈fl.toList,P.cellsOf f.type≠0:=by
 cases d with
 | struct fl=>
  unfold shOf at h;dsimp only at h;split at h
  . rename_i hc
    cases h;exact ⟨fl,rfl,rfl,fun f hf=>by simpa using (List.all_eq_true.1 hc) f hf⟩
  . cases h
 | slice e=>
  exfalso;revert h;unfold shOf;dsimp only
  split
  . split
    . split<;>simp
    . simp
  . simp
 | _=>simp [shOf] at h
theorem w7r {t:TypeId} (h:P.cellsOf t≠0):∃ i,P.info? t=some i/\i.size=P.cellsOf t:=by
 unfold Program.cellsOf at *
 cases hi:P.info? t with
 | none=>simp [hi] at h
 | some i=>exact ⟨i,rfl,by simp⟩
theorem v74 (b off n:Nat):(⟨b,off,none⟩:Addr).add n=⟨b,off+n,none⟩:=by unfold Addr.add;split<;>simp_all
theorem ynu {S:TypeId} (hti:TIok P S ti) (hs:ti.sh=.struct fs) {sz:Nat} {ft:TypeId} (hf:fs[f]? = some (off,sz,ft)) (w:World) (b o:Nat) :
 (Instr.fieldAt S (.pointer (some ⟨b,o,none⟩)) f).run P w=.ok (.pointer (some ⟨b,o+off,none⟩)) w:=by
 obtain ⟨d,i,z,hd,hi,hz,hsz',hby,hzs,hone,hzc,hsh⟩:=hti.ex;obtain ⟨fl,rfl,rfl,hne⟩:=xqa (hsh.symm.trans hs);simp only [List.getElem?_map,Option.map_eq_some_iff,Prod.mk.injEq] at hf;obtain ⟨fd,hfd,rfl,rfl,rfl⟩:=hf
 have hfd':fl[f]? = some fd:=by simpa using hfd
 have hm:fd∈fl.toList:=List.mem_of_getElem? hfd;obtain ⟨j,hj,hjs⟩:=w7r (hne fd hm)
 have hj0:j.size≠0:=by rw [hjs];exact hne fd hm
 unfold Instr.fieldAt;simp only [Sem.run_bind,y9m hd,Result.andThen_ok,hfd',Instr.sureAddr,Sem.run_pure,fieldPlace,ynn hj,hj0,if_false,v74]
def elemAt:Cell->Nat->Option (Nat×List Cell)
 | .ints k l,i=>if i<l.length then some (1,[.raw (.int k (l.getD i 0))]) else none
 | .sl n rows,i=>if i<rows.length then some (n,rows.getD i []) else none
 | .tok _ (.ints k l),i=>if i<l.length then some (1,[.raw (.int k (l.getD i 0))]) else none
 | .tok _ (.sl n rows),i=>if i<rows.length then some (n,rows.getD i []) else none
 | _,_=>none
def wee (J:List AV) (ti:TI) (x y:Operand):Option (List Nat×AV):=
 match opd J y with
 | .one (.raw (.int _ n)) =>
  if 0<=n then
   match ti.sh with
   | .slice _ es _ _=>match opd J x with
    | .one c=>match elemAt c n.toNat with
     | some (m,cs)=>if m=es then some (orr x++orr y,.elt cs) else none
     | none=>none
    | .arr _ c _=>match x with
     | .tmp t=>if es=c.esz/\n.toNat<c.cnt then some (orr x++orr y,.pel t es n.toNat 0) else none
     | _=>none
    | .asl s=>match gt J s with
     | .arr _ c _=>if es=c.esz/\n.toNat<c.cnt then some (s::(orr x++orr y),.pel s es n.toNat 0) else none
     | _=>none
    | .awn s m lo k=>if es=m/\n.toNat<k then some (orr x++orr y,.pel s es (lo+n.toNat) 0) else none
    | _=>none
   | .array m _ es=>match opd J x with
    | .box _=>match x with
     | .tmp t=>if n.toNat<m/\es≠0 then some (orr x++orr y,.ptr t (n.toNat*es)) else none
     | _=>none
    | .obx _=>match x with
     | .tmp t=>if n.toNat<m/\es≠0 then some (orr x++orr y,.ptr t (n.toNat*es)) else none
     | _=>none
    | .ptr s o=>if n.toNat<m/\es≠0 then some (orr x++orr y,.ptr s (o+n.toNat*es)) else none
    | .pel s m' i f=>if n.toNat<m/\es≠0 then some (orr x++orr y,.pel s m' i (f+n.toNat*es)) else none
    | .elt cs=>if n.toNat<m/\es≠0 then some (orr x++orr y,.elt (cs.drop (n.toNat*es))) else none
    | _=>none
   | _=>none
  else none
 | _=>none
def ya5 (M:Nat->Nat->Prop) (w:World) (v:Value) (i m:Nat) (cs:List Cell):Prop:=
 ∃(b off len cap:Nat) (vs:List Value),v=.slice (some ⟨b,off,none⟩) len cap/\i<len/\(∀ j u,vs[j]? = some u->¬M b (off+i*m+j)/\w.cell? ⟨b,off+i*m+j,none⟩=some u)/\RdD M w vs cs
theorem zkv {M : Nat → Nat → Prop} {τ : Nat → TV} (h : RdT M w τ v c) {m:Nat} (he : elemAt c i = some (m, cs)) :
 ya5 M w v i m cs:=by
 have ints:∀ k l,RdC M w v (.ints k l)->(if i<l.length then some (1,[Cell.raw (.int k (l.getD i 0))]) else none)=some (m,cs)->ya5 M w v i m cs:=fun k l hr he=>by
  split at he
  . rename_i hi
    cases he
    cases hr with
    | ints b off hl hc ha hcell=>
     have hne:l≠[]:=fun e=>by rw [e] at hi;simp at hi
     rw [ha hne];refine ⟨b,off,_,_,[.int k (l.getD i 0)],rfl,by omega,fun j u hj=>?_,⟨RdC.raw rfl,trivial⟩⟩
     cases j with
     | zero=>
      simp at hj;subst hj
      have:=hcell i hi
      simpa [hi] using this
     | succ j=>simp at hj
  . cases he
 have rows:∀ n rows,RdC M w v (.sl n rows)->(if i<rows.length then some (n,rows.getD i []) else none)=some (m,cs)->ya5 M w v i m cs:=fun n rows hr he=>by
  split at he
  . rename_i hi
    cases he
    cases hr with
    | sl b off u hl hc ha hn hm hr=>
     have hne:rows≠[]:=fun e=>by rw [e] at hi;simp at hi
     rw [ha hne];have hrl:rows[i].length=m:=hn _ (List.getElem_mem hi);refine ⟨b,off,_,_,(List.range m).map (u i),rfl,by omega,fun j x hj=>?_,?_⟩
     . simp only [List.getElem?_map] at hj;by_cases hjn:j<m
       . have:=hm i hi j hjn
         simp [hjn] at hj
         rwa [<-hj]
       . simp [hjn] at hj
     . have e:rows.getD i []=rows[i]:=by simp [hi]
       rw [e]
       have gen:∀(cs:List Cell) (f:Nat->Value),(∀ j (hj:j<cs.length),RdC M w (f j) cs[j])->RdD M w ((List.range cs.length).map f) cs:=by
        intro cs
        induction cs with
        | nil=>intro f _;exact trivial
        | cons c cs ih=>
         intro f hf;rw [List.length_cons,List.range_succ_eq_map,List.map_cons,List.map_map];exact ⟨hf 0 (by simp),ih (f∘Nat.succ) (fun j hj=>hf (j+1) (by simpa using hj))⟩
       have:=gen rows[i] (u i) (fun j hj=>hr i hi j hj)
       rwa [hrl] at this
  . cases he
 cases c with
 | ints k l=>exact ints k l h he
 | sl n r=>exact rows n r h he
 | tok d c=>
  cases c with
  | ints k l=>exact ints k l h.2 he
  | sl n r=>exact rows n r h.2 he
  | _=>cases he
 | _=>cases he
theorem zz2 (h : shOf P d = .slice e es eb ik) :
 d=.slice e/\∃ i z,P.info? e=some i/\i.zero=some z/\i.size=es/\i.bytes=eb/\es≠0/\z.cells.size=es/\ik=(match P.underlying e with | some (.int k)=>some k | _=>none):=by
 cases d with
 | slice e' =>
  unfold shOf at h;dsimp only at h;split at h
  . rename_i i hi;split at h
    . rename_i z hz;split at h
      . rename_i hc;simp only [Bool.and_eq_true,bne_iff_ne,beq_iff_eq] at hc
        cases h;exact ⟨rfl,i,z,hi,hz,rfl,rfl,hc.1,hc.2,rfl⟩
      . cases h
    . cases h
  . cases h
 | struct fl=>
  exfalso;revert h;unfold shOf;dsimp only;split<;>simp
 | _=>simp [shOf] at h
theorem wys {n:Nat} (h:shOf P d=.array n e es):d=.array n e/\es=P.cellsOf e:=by
 cases d with
 | array n' e'=>simp [shOf] at h;obtain ⟨rfl,rfl,rfl⟩:=h;exact ⟨rfl,rfl⟩
 | slice e=>
  exfalso;revert h;unfold shOf;dsimp only
  split
  . split
    . split<;>simp
    . simp
  . simp
 | struct fl=>
  exfalso;revert h;unfold shOf;dsimp only;split<;>simp
 | _=>simp [shOf] at h
theorem run_indexAt_slice (hti:TIok P T ti) (hs:ti.sh=.slice e es eb ik) (w:World) (b off len cap:Nat) (k:IntKind) (n:Int) (h0:0<=n) (hn:n.toNat<len) :
 (Instr.indexAt T (.slice (some ⟨b,off,none⟩) len cap) (.int k n)).run P w=.ok (.pointer (some ⟨b,off+n.toNat*es,none⟩)) w:=by
 obtain ⟨d,i,z,hd,hi,hz,hsz',hby,hzs,hone,hzc,hsh⟩:=hti.ex;obtain ⟨rfl,j,z',hj,_,hjs,_⟩:=zz2 (hsh.symm.trans hs)
 have hlt:n<(len:Int):=by omega
 unfold Instr.indexAt;simp [asIntOf,y9m hd,h0,hlt,ynn hj,hjs,v74]
theorem zjv (ho:o.op=.indexAddr T x y) (hti:mkTI P T=some ti) (hfa:wee J ti x y=some (rd,av))
 (h:val J o rd av=some r):z7c P o J r.1 [] r.2:=by
 obtain ⟨d,hdst,hn,rfl⟩:=x17 h;have hok:=xat hti
 have hnh:av.v43=false/\(∀ t,¬av.zkp t)/\(∀ t∈orr x++orr y,t∈rd):=by
  unfold wee at hfa
  repeat' split at hfa
  all_goals first | (cases hfa;exact ⟨rfl,fun t h=>h,fun t h=>by simp at h ⊢;simp [h]⟩) | cases hfa
 refine z7c.val hdst (by simp) hn hnh.1 (fun E τ M J' a w hag hI=>?_);have hox:opd J' x=opd J x:=hag.opd (fun t ht=>List.mem_cons_of_mem _ (hnh.2.2 t (by simp [ht])));have hoy:opd J' y=opd J y:=hag.opd (fun t ht=>List.mem_cons_of_mem _ (hnh.2.2 t (by simp [ht])));have sx:=hI.opd x;have sy:=hI.opd y;rw [hox] at sx;rw [hoy] at sy;unfold wee at hfa;split at hfa
 case h_2=>cases hfa
 rename_i k n hyn;rw [hyn] at sy;have ey:a.eval y=.int k n:=RdC.v7q sy;split at hfa
 case isFalse=>cases hfa
 rename_i h0;split at hfa
 . rename_i e es eb ik hsh;have fin:∀(b off len cap:Nat),a.eval x=.slice (some ⟨b,off,none⟩) len cap->n.toNat<len->yos M w τ a.tmps (.pointer (some ⟨b,off+n.toNat*es,none⟩)) av->
    (∀(s:Nat) (b:Bool),av.rf=some (s,b)->∃ hv:AV,J'[s]? = some hv/\hv.fits b=true)->
    ∃ v w',(execOp a.eval o).run P w=.ok (.value v) w'/\Below w.heap.size w w'/\yos M w' τ a.tmps v av/\(∀ t,av.zkp t->live J' t)/\
    (∀(s:Nat) (b:Bool),av.rf=some (s,b)->∃ hv:AV,J'[s]? = some hv/\hv.fits b=true):=fun b off len cap hx hlt hsl hrf=>
    ⟨_,w,by simp [execOp,ho,hx,ey,run_indexAt_slice hok hsh w b off len cap k n h0 hlt],xr1 w,hsl,fun t ht=>absurd ht (hnh.2.1 t),hrf⟩
   split at hfa
   . rename_i c hxc;rw [hxc] at sx;split at hfa
     . rename_i m cs hel;split at hfa
       . rename_i hm
         cases hfa;subst hm;obtain ⟨b,off,len,cap,vs,e1,hlt,hcl,hr⟩:=zkv (show RdT M w τ _ c from sx) hel;exact fin b off len cap e1 hlt ⟨b,_,vs,rfl,hcl,hr⟩ (fun s b hr=>by cases hr)
       . cases hfa
     . cases hfa
   . rename_i pre c post hxa;split at hfa
     . rename_i t;split at hfa
       . rename_i hc;obtain ⟨rfl,hlt⟩:=hc
         cases hfa;rw [hxa] at sx;obtain ⟨b,Tb,vs,q,cap,e1,hb,_⟩:=sx;refine fin b pre.length c.cnt cap e1 hlt ?_ (fun s b' hr=>?_)
         . show _=Value.pointer (some ⟨blk (a.eval (.tmp t)),offV (a.eval (.tmp t))+n.toNat*c.esz+0,none⟩);rw [e1];simp [blk,offV]
         . simp only [AV.rf,Option.some.injEq,Prod.mk.injEq] at hr;obtain ⟨rfl,rfl⟩:=hr;exact ⟨_,wx0 (hox.trans hxa) (by simp),rfl⟩
       . cases hfa
     . cases hfa
   . rename_i s hxa;split at hfa
     . rename_i pre c post hg0;split at hfa
       . rename_i hc;obtain ⟨rfl,hlt⟩:=hc
         cases hfa
         have hg:gt J' s=.arr pre c post:=by rw [hag.2 s (by simp)];exact hg0
         rw [hxa] at sx;have sx:a.eval x=a.tmps.getD s Go.undef:=sx;have hss:=hI.gt s;rw [hg] at hss;obtain ⟨b,Tb,vs,q,cap,e1,hb,_⟩:=hss;refine fin b pre.length c.cnt cap (sx.trans e1) hlt ?_ (fun s' b' hr=>?_)
         . show _=Value.pointer (some ⟨blk (a.tmps.getD s Go.undef),offV (a.tmps.getD s Go.undef)+n.toNat*c.esz+0,none⟩);rw [e1];simp [blk,offV]
         . simp only [AV.rf,Option.some.injEq,Prod.mk.injEq] at hr;obtain ⟨rfl,rfl⟩:=hr;exact ⟨_,wx0 hg (by simp),rfl⟩
       . cases hfa
     . cases hfa
   . rename_i s m lo k' hxa;split at hfa
     . rename_i hc;obtain ⟨rfl,hlt⟩:=hc
       cases hfa;rw [hxa] at sx;obtain ⟨ad,cap,e1,had,hcap,_⟩:=sx;rw [had (.inl (by omega))] at e1;refine fin _ _ _ cap e1 hlt ?_ (fun s' b' hr'=>?_)
       . show _=Value.pointer (some ⟨_,offV (a.tmps.getD s Go.undef)+(lo+n.toNat)*es+0,none⟩);rw [Nat.add_mul,Nat.add_zero,Nat.add_assoc]
       . cases x with
         | tmp t=>exact hI.refs t _ s' b' (wx0 (hox.trans hxa) (by simp)) (by simpa [AV.rf] using hr')
         | const v=>
          exfalso;simp only [opd,zfo] at hxa;split at hxa
          . split at hxa<;>cases hxa
          . cases hxa
          . cases hxa
         | func f=>cases hxa
         | global g=>cases hxa
     . cases hfa
   . cases hfa
 . rename_i m e es hsh;have fin:∀(b off:Nat),a.eval x=.pointer (some ⟨b,off,none⟩)->n.toNat<m->es≠0->yos M w τ a.tmps (.pointer (some ⟨b,off+n.toNat*es,none⟩)) av->
    (∀(s:Nat) (b:Bool),av.rf=some (s,b)->∃ hv:AV,J'[s]? = some hv/\hv.fits b=true)->
    ∃ v w',(execOp a.eval o).run P w=.ok (.value v) w'/\Below w.heap.size w w'/\yos M w' τ a.tmps v av/\(∀ t,av.zkp t->live J' t)/\
    (∀(s:Nat) (b:Bool),av.rf=some (s,b)->∃ hv:AV,J'[s]? = some hv/\hv.fits b=true):=fun b off hx hlt hes0 hsl hrf=>by
    refine ⟨_,w,?_,xr1 w,hsl,fun t ht=>absurd ht (hnh.2.1 t),hrf⟩;obtain ⟨d,i,z,hd,hi,hz,hsz',hby,hzs,hone,hzc,hsh'⟩:=hok.ex;obtain ⟨rfl,hes⟩:=wys (hsh'.symm.trans hsh)
    have hltm:n<(m:Int):=by omega
    obtain ⟨j,hj,hjs⟩:=w7r (P:=P) (t:=e) (by rw [<-hes];exact hes0);simp only [execOp,ho,hx,ey];unfold Instr.indexAt;simp [asIntOf,y9m hd,h0,hltm,Instr.sureAddr,ynn hj,hjs,hes,v74]
   split at hfa
   . rename_i cs hxa;split at hfa
     . rename_i t;split at hfa
       . rename_i hlt
         cases hfa;rw [hxa] at sx;obtain ⟨b,vs,Tb,e1,hb,hr⟩:=sx;refine fin b 0 e1 hlt.1 hlt.2 ?_ (fun s b' hr=>?_)
         . show _=Value.pointer (some ⟨blk (a.eval (.tmp t)),_,none⟩);rw [e1];simp [blk]
         . simp only [AV.rf,Option.some.injEq,Prod.mk.injEq] at hr;obtain ⟨rfl,rfl⟩:=hr;exact ⟨_,wx0 (hox.trans hxa) (by simp),rfl⟩
       . cases hfa
     . cases hfa
   . rename_i cs hxa;split at hfa
     . rename_i t;split at hfa
       . rename_i hlt
         cases hfa;rw [hxa] at sx;obtain ⟨b,vs,Tb,e1,hb,hr⟩:=sx;refine fin b 0 e1 hlt.1 hlt.2 ?_ (fun s b' hr=>?_)
         . show _=Value.pointer (some ⟨blk (a.eval (.tmp t)),_,none⟩);rw [e1];simp [blk]
         . simp only [AV.rf,Option.some.injEq,Prod.mk.injEq] at hr;obtain ⟨rfl,rfl⟩:=hr;exact ⟨_,wx0 (hox.trans hxa) (by simp),rfl⟩
       . cases hfa
     . cases hfa
   . rename_i s o' hxa;split at hfa
     . rename_i hlt
       cases hfa;rw [hxa] at sx;refine fin _ o' sx hlt.1 hlt.2 rfl (fun s' b' hr'=>?_)
       cases x with
       | tmp t=>exact hI.refs t _ s' b' (wx0 (hox.trans hxa) (by simp)) (by simpa [AV.rf] using hr')
       | const v=>
        exfalso;simp only [opd,zfo] at hxa;split at hxa
        . split at hxa<;>cases hxa
        . cases hxa
        . cases hxa
       | func f=>cases hxa
       | global g=>cases hxa
     . cases hfa
   . rename_i s m' i f hxa;split at hfa
     . rename_i hlt
       cases hfa;rw [hxa] at sx;refine fin _ _ sx hlt.1 hlt.2 (by show _=Value.pointer _;rw [Nat.add_assoc]) (fun s' b' hr'=>?_)
       cases x with
       | tmp t=>exact hI.refs t _ s' b' (wx0 (hox.trans hxa) (by simp)) (by simpa [AV.rf] using hr')
       | const v=>
        exfalso;simp only [opd,zfo] at hxa;split at hxa
        . split at hxa<;>cases hxa
        . cases hxa
        . cases hxa
       | func f=>cases hxa
       | global g=>cases hxa
     . cases hfa
   . rename_i cs hxa;split at hfa
     . rename_i hlt
       cases hfa;rw [hxa] at sx;obtain ⟨b,o',vs,e1,hc,hr⟩:=sx;refine fin b o' e1 hlt.1 hlt.2 ⟨b,_,vs.drop (n.toNat*es),rfl,fun j u hj=>?_,hr.drop _⟩ (fun s b hr=>by cases hr);rw [List.getElem?_drop] at hj
       have:=hc _ u hj
       rwa [<-Nat.add_assoc] at this
     . cases hfa
   . cases hfa
 . cases hfa
end Go.Slot
