/- The proof, part Y12: Mp. -/
import Derived.Test.YtmegdbbbllffkaaGreatDoorY11
namespace Go.Slot
open Go Go.RowKit
variable {P:Program}
theorem y4p {σ:List AV} {o:Oper} {F:List AV->AV->Prop} {args:List AV} {rd:List Nat} (h:opB P σ o=.fn (y6r P F) args rd) {res:AV} (hc:F args res):wo4 P o σ rd [] (zbh o res):=by
 have nb:OR.fn (y6r P F) args rd≠.bad:=by simp
 have no_of:∀ x,OR.of x≠.fn (y6r P F) args rd:=fun x=>by unfold OR.of;split<;>simp
 have no_A:∀ rd0 a,vofA σ o rd0 a≠.fn (y6r P F) args rd:=fun rd0 a=>by unfold vofA;split<;>first | exact no_of _ | simp
 have no_B:∀ a,vofB σ o a≠.fn (y6r P F) args rd:=fun a=>by unfold vofB;split<;>first | exact no_of _ | simp
 unfold opB at h;split at h
 case h_19=>
  rename_i c ho;obtain ⟨callee,as,ts⟩:=c;simp only at h;split at h
  . split at h
    . obtain ⟨ti,hti,hk⟩:=ygx nb h;split at hk
      . exact absurd hk (no_B _)
      . cases hk
    . cases h
  . split at h
    . split at h
      . obtain ⟨ti,hti,hk⟩:=ygx nb h
        split at hk<;>cases hk
      . cases h
    . cases h
  . split at h
    . split at h<;>cases h
    . split at h
      . split at h<;>cases h
      . cases h
  . split at h
    . split at h
      . split at h<;>cases h
      . cases h
    . rename_i p l ht hl;split at h
      . rename_i hn
        cases h;exact ys7 (ts:=ts) (by rw [ho]) ht hl hn hc
      . cases h
    . cases h
  . cases h
 all_goals first
  | exact absurd h (no_of _)
  | exact absurd h (no_A _ _)
  | exact absurd h (no_B _)
  | (obtain ⟨ti, hti, hk⟩ := ygx nb h
     first
      | exact absurd hk (no_of _)
      | exact absurd hk (no_A _ _)
      | exact absurd hk (no_B _)
      | (obtain ⟨td,htd,hk⟩:=ygx nb hk;exact absurd hk (no_A _ _))
      | (split at hk<;>first | exact absurd hk (no_A _ _) | cases hk)
      | (split at hk
         . exact absurd hk (no_B _)
         . split at hk
           . exact absurd hk (no_A _ _)
           . cases hk)
      | (obtain ⟨e,es,eb,ik,te,hs,hte,hk⟩:=xdz nb hk;exact absurd hk (no_A _ _)))
  | (split at h
     . first
       | exact absurd h (no_of _)
       | (obtain ⟨ti,hti,hk⟩:=ygx nb h;split at hk<;>cases hk)
       | (split at h<;>cases h)
     . cases h)
  | cases h
theorem xoa {σ:List AV} {o:Oper} {f:FuncId} {caps:List AV} {rd:List Nat} (h:opB P σ o=.mk f caps rd) {F:List AV->AV->Prop} (y5m:xus P f) (hF:∀ args res,F args res->zkh P f (args++caps) res) :
 wo4 P o σ rd [] (zbh o (.one (.fnp (y6r P F)))):=by
 have nb:OR.mk f caps rd≠.bad:=by simp
 have no_of:∀ x,OR.of x≠.mk f caps rd:=fun x=>by unfold OR.of;split<;>simp
 have no_A:∀ rd0 a,vofA σ o rd0 a≠.mk f caps rd:=fun rd0 a=>by unfold vofA;split<;>first | exact no_of _ | simp
 have no_B:∀ a,vofB σ o a≠.mk f caps rd:=fun a=>by unfold vofB;split<;>first | exact no_of _ | simp
 unfold opB at h;split at h
 case h_20=>
  rename_i f' fs cs ho;split at h
  . rename_i l d hfs hl hd;split at h
    . rename_i hn
      cases h
      have:=zmi (P:=P) (by rw [ho,w7r hfs]) hl y5m hF (r:=(d::orrL cs.toList,[(d,.one (.fnp (y6r P F)))])) (by unfold val;rw [hd];simp [hn])
      simpa [zbh,hd] using this
    . cases h
  . cases h
 case h_19=>
  rename_i c ho;obtain ⟨callee,as,ts⟩:=c;simp only at h;split at h
  . split at h
    . obtain ⟨ti,hti,hk⟩:=ygx nb h;split at hk
      . exact absurd hk (no_B _)
      . cases hk
    . cases h
  . split at h
    . split at h
      . obtain ⟨ti,hti,hk⟩:=ygx nb h
        split at hk<;>cases hk
      . cases h
    . cases h
  . split at h
    . split at h<;>cases h
    . split at h
      . split at h<;>cases h
      . cases h
  . split at h
    . split at h
      . split at h<;>cases h
      . cases h
    . split at h<;>cases h
    . cases h
  . cases h
 all_goals first
  | exact absurd h (no_of _)
  | exact absurd h (no_A _ _)
  | exact absurd h (no_B _)
  | (obtain ⟨ti, hti, hk⟩ := ygx nb h
     first
      | exact absurd hk (no_of _)
      | exact absurd hk (no_A _ _)
      | exact absurd hk (no_B _)
      | (obtain ⟨td,htd,hk⟩:=ygx nb hk;exact absurd hk (no_A _ _))
      | (split at hk<;>first | exact absurd hk (no_A _ _) | cases hk)
      | (split at hk
         . exact absurd hk (no_B _)
         . split at hk
           . exact absurd hk (no_A _ _)
           . cases hk)
      | (obtain ⟨e,es,eb,ik,te,hs,hte,hk⟩:=xdz nb hk;exact absurd hk (no_A _ _)))
  | (split at h
     . first
       | exact absurd h (no_of _)
       | (obtain ⟨ti,hti,hk⟩:=ygx nb h;split at hk<;>cases hk)
       | (split at h<;>cases h)
     . cases h)
  | cases h
theorem yiu {σ:List AV} {o:Oper} {f:FuncId} {l:List AV} {j s:Nat} {ov:OV} {rd:List Nat} (h:opB P σ o=.own f l j s ov rd) {new:OV} {res nw res':AV} (hc:z5q P f l j ov new res)
 (hs:wxa (gt σ s) ov new=some nw) (hr:vhw s ov res=some res'):wo4 P o σ rd [] ((s,nw)::zbh o res'):=by
 have nb:OR.own f l j s ov rd≠.bad:=by simp
 have no_of:∀ x,OR.of x≠.own f l j s ov rd:=fun x=>by unfold OR.of;split<;>simp
 have no_A:∀ rd0 a,vofA σ o rd0 a≠.own f l j s ov rd:=fun rd0 a=>by unfold vofA;split<;>first | exact no_of _ | simp
 have no_B:∀ a,vofB σ o a≠.own f l j s ov rd:=fun a=>by unfold vofB;split<;>first | exact no_of _ | simp
 unfold opB at h;split at h
 case h_19=>
  rename_i c ho;obtain ⟨callee,as,ts⟩:=c;simp only at h;split at h
  . split at h
    . obtain ⟨ti,hti,hk⟩:=ygx nb h;split at hk
      . exact absurd hk (no_B _)
      . cases hk
    . cases h
  . split at h
    . split at h
      . obtain ⟨ti,hti,hk⟩:=ygx nb h
        split at hk<;>cases hk
      . cases h
    . cases h
  . split at h
    . split at h<;>cases h
    . split at h
      . rename_i hx;split at h
        . rename_i hn
          cases h;exact xis (ts:=ts) (by rw [ho]) hx hn hc hs hr
        . cases h
      . cases h
  . split at h
    . split at h
      . split at h<;>cases h
      . cases h
    . split at h<;>cases h
    . cases h
  . cases h
 all_goals first
  | exact absurd h (no_of _)
  | exact absurd h (no_A _ _)
  | exact absurd h (no_B _)
  | (obtain ⟨ti, hti, hk⟩ := ygx nb h
     first
      | exact absurd hk (no_of _)
      | exact absurd hk (no_A _ _)
      | exact absurd hk (no_B _)
      | (obtain ⟨td,htd,hk⟩:=ygx nb hk;exact absurd hk (no_A _ _))
      | (split at hk<;>first | exact absurd hk (no_A _ _) | cases hk)
      | (split at hk
         . exact absurd hk (no_B _)
         . split at hk
           . exact absurd hk (no_A _ _)
           . cases hk)
      | (obtain ⟨e,es,eb,ik,te,hs,hte,hk⟩:=xdz nb hk;exact absurd hk (no_A _ _)))
  | (split at h
     . first
       | exact absurd h (no_of _)
       | (obtain ⟨ti,hti,hk⟩:=ygx nb h;split at hk<;>cases hk)
       | (split at h<;>cases h)
     . cases h)
  | cases h
def litE (σ:List AV) (d:Nat) (rd:List Nat) (se:List (Nat×AV)) (b:Bool):Option AV->OR
 | some (.one c)=>match b,nh σ d with
  | true,true=>.eff (d::(rd++se.map (·.1))) [d] (se++[(d,.one (.tok d c))])
  | _,_=>.bad
 | _=>.bad
def isNone {α:Type}:Option α->Bool
 | none=>true
 | some _=>false
def litA (P:Program) (σ:List AV) (o:Oper) (T:TypeId) (n:Nat) (ps:List (Nat×Operand)):OR:=match o.dst with
 | some d=>zcp P T fun ti=>ynz P ti fun te=>litE σ d (orrs ps) (wc9 [d] 0 σ) (isNone o.guard) (wxy σ ti te n ps)
 | none=>.bad
theorem yqq (es:Nat):∀(n:Nat) (cs:List Cell),cs.length=n*es->(chunk es n cs).flatten=cs
 | 0,cs,h=>by
  have:cs=[]:=List.eq_nil_of_length_eq_zero (by simpa using h)
  subst this;rfl
 | n+1,cs,h=>by
  rw [Nat.add_mul,Nat.one_mul] at h;simp only [chunk,List.flatten_cons];rw [yqq es n (cs.drop es) (by simp;omega),List.take_append_drop]
theorem w9k (es:Nat):∀(n:Nat) (cs:List Cell),cs.length=n*es->∀ r∈chunk es n cs,r.length=es
 | 0,cs,_=>fun r hr=>by cases hr
 | n+1,cs,h=>fun r hr=>by
  rw [Nat.add_mul,Nat.one_mul] at h;simp only [chunk] at hr
  rcases List.mem_cons.1 hr with rfl | hr
  . simp;omega
  . exact w9k es n (cs.drop es) (by simp;omega) r hr
theorem yyu {σ:List AV} {o:Oper} {T:TypeId} {n:Nat} {ps:List (Nat×Operand)} (ho:o.op=.buildSlice T n ps.toArray) {rd tk:List Nat} {eff:List (Nat×AV)} (h:litA P σ o T n ps=.eff rd tk eff) :
 wo4 P o σ rd tk eff/\(∀ t∈tk,∀ i,(gt σ i).xh7 t->i∈rd):=by
 have nb:OR.eff rd tk eff≠.bad:=by simp
 unfold litA at h;split at h
 case h_2=>cases h
 rename_i d hdst;obtain ⟨ti,hti,hk⟩:=ygx nb h;obtain ⟨e,es,eb,ik,te,hsh,hte,hk⟩:=xdz nb hk;unfold litE at hk;split at hk
 case h_2=>cases hk
 rename_i c hb;split at hk
 case h_2=>cases hk
 rename_i hn
 cases hk;refine ⟨?_,?_⟩
 . intro E σ' a w hag htk ⟨τ,M,hI⟩ K Q hK;have hok:=zi0 hti;obtain ⟨ds,i,z,hd,hi,hz,_,_,_,_,_,hsh'⟩:=hok.ex;obtain ⟨rfl,j,z',hj,hz',hjs,hjb,hes0,hzs,hik⟩:=vh6 (hsh'.symm.trans hsh);obtain ⟨de,je,ze,hde,hje,hze,_,_,_,hone,hzce,_⟩:=(zi0 hte).ex;rw [hj] at hje;cases hje;rw [hz'] at hze;cases hze;unfold wxy at hb;rw [hsh] at hb;dsimp only at hb;split at hb
   case isFalse=>cases hb
   rename_i hsmall;split at hb
   . cases hb
   rename_i cs hfill
   have hav:yxf σ' ps=yxf σ ps:=w6q ps (fun x hx=>hag.opd (fun t ht=>by
    have:=hx t ht
    simp [this]))
   have hz0:RdL M w τ (vvz z'.cells.toList n) (vvz te.zc n):=xml (by rw [hzce];exact xsa hone) n
   have hinit:(Array.range (n*es)).map (z'.cells[· % z'.cells.size]!)=(vvz z'.cells.toList n).toArray:=by
    apply Array.ext
    . simp [zsh,hzs]
    . intro q h1 h2;simp only [Array.size_map,Array.size_range] at h1;have hq:=yf2 z'.cells.toList n q (by simpa [hzs] using h1);have hlt:q % z'.cells.size<z'.cells.size:=Nat.mod_lt _ (by rw [hzs];omega);simp only [Array.getElem_map,Array.getElem_range,List.getElem_toArray];simp only [Array.length_toList,Array.getElem?_toList] at hq;rw [Array.getElem?_eq_getElem hlt,List.getElem?_eq_getElem (by simpa using h2)] at hq;simp at hq;rw [hq];simp [hlt]
   obtain ⟨cells',hf,hrd⟩:=wzd hI (fun i=>some (i*es,es)) ps (vvz z'.cells.toList n).toArray _ cs (by simpa using hz0) (by rw [hav];exact hfill)
   have hrun:(execOp a.eval o).run P w=.ok (.value (.slice (some ⟨w.heap.size,0,none⟩) n n)) (w.alloc (.cells cells' e)):=by
    have h24:¬(16777216<n*es):=by omega
    have hne:¬(n*es=0):=by
     intro h0
     rcases Nat.mul_eq_zero.1 h0 with h0 | h0
     . exact hsmall.2 h0
     . exact hes0 h0
    have hpe:(Array.map (fun x=>match x with | (i,x)=>(i,a.eval x)) ps.toArray).toList=ps.map fun p=>(p.1,a.eval p.2):=by simp
    simp only [execOp,ho,Instr.buildSlice,Sem.run_bind,vl6 hd,Result.andThen_ok,wxb hj,hjs];rw [if_neg (by simpa using h24),if_neg hne];simp only [Sem.run_bind,y0z hj hz',Result.andThen_ok,Sem.run_pure,hinit];rw [hpe,hf];simp [newRow]
   have hcl:(v7m cs).length=n*es:=by
    rw [y2j,ymh _ _ _ hfill,zsh,hzce];simp [hzs]
   have hall:cells'.toList.length=n*es:=by rw [hrd.bare.length,hcl]
   have hn1:n<=n*es:=Nat.le_mul_of_pos_right n (Nat.pos_of_ne_zero hes0);obtain ⟨old,h1,h2⟩:=xnl (hag.nh (by simp) hn)
   have hfin:app (wc9 [d] 0 σ++[(d,.one (.tok d c))]) σ'=(yux [d] σ').set d (.one (.tok d c)):=by
    rw [zid,xsf hag.1 (fun r hr=>hag.2 r (by simp only [List.mem_cons,List.mem_append];exact .inr (.inr hr))) (fun t ht i hi=>hag.2 i (htk t ht i hi))];rfl
   have hg:=v6c hI.size hI.mb (.slice none 0 0) e es n cells'.toList hall (by simp [maxLen];omega);rw [Array.toArray_toList] at hg;have hv:vss E M w ⟨.slice none 0 0,es⟩:=.inl ⟨none,rfl⟩;split at hb
   . rename_i k;split at hb
     . rename_i he1;subst he1;simp only [Option.map_eq_some_iff,AV.one.injEq] at hb;obtain ⟨l,hl,rfl⟩:=hb;have hvs:=vt2 hrd.bare hl
       have hll:l.length=n:=by
        have h1:=congrArg List.length hvs;have h2:=hrd.bare.length;simp only [List.length_map] at h1;omega
       subst hll;rw [hvs] at hg;exact zaz hdst (by simp) hI h1 h2 rfl hg hg.ints hrun hv (fun _ _ _ _=>y2g) (fun _ _ _ _=>y2g) hfin hK
     . cases hb
   . cases hb;have hfl:(chunk es n (v7m cs)).flatten=v7m cs:=yqq es n _ hcl
     have hg':Grew E M w (w.alloc (.cells cells' e)) (fun b o=>M b o\/(b=w.heap.size/\n*es<=o)) (.slice none 0 0) (.slice (some ⟨w.heap.size,0,none⟩) n n) es (chunk es n (v7m cs)).length cells'.toList:=by
      rw [yr7];exact hg
     exact zaz hdst (by simp) hI h1 h2 rfl hg' (hg'.rows (by rw [hfl];exact hrd.bare) (fun r hr=>w9k es n _ hcl r hr) (by rw [yr7];exact hall) (Nat.pos_of_ne_zero hes0)) hrun hv (fun _ _ _ _=>y2g) (fun _ _ _ _=>y2g) hfin hK
 . intro t ht i hi
   have hlt:i<σ.length:=by
    rcases Nat.lt_or_ge i σ.length with h | h
    . exact h
    . unfold gt at hi;rw [List.getElem?_eq_none h] at hi;exact hi.elim
   have hf:=xdj [d] σ 0 i hlt;simp only [Nat.zero_add] at hf;rw [if_neg (fun hall=>AV.vx8 ((List.all_eq_true.1 hall) t ht) hi)] at hf
   have:=List.mem_of_find?_eq_some hf
   simp only [List.mem_cons,List.mem_append];exact .inr (.inr (List.mem_map.2 ⟨_,by simpa using this,rfl⟩))
def za1 (es:Nat):Option IntKind->Cell
 | some k=>.ints k []
 | none=>.sl es []
def isZc:Cell->Bool
 | .zc=>true
 | .raw (.slice none 0 0)=>true
 | _=>false
def zcAt:AV->Bool
 | .one c=>isZc c
 | _=>false
def ownN:Option Cell->Option AV
 | some c'=>if c'.cnt≠0 then some (.arr [] c' none) else none
 | none=>none
def yfa (σ:List AV) (ti:TI) (x y:Operand):Option AV:=match ti.sh with
 | .slice _ es eb ik=>match zcAt (opd σ x) with
  | true=>match opd σ y with
   | .one cy=>ownN (vdq es eb ik (za1 es ik) cy.bare)
   | _=>none
  | false=>none
 | _=>none
theorem zqo {M:Nat->Nat->Prop} {w:World} {τ:Nat->TV} {v:Value} {c:Cell} (h:isZc c=true) (hr:RdT M w τ v c):∃ ad,v=.slice ad 0 0:=by
 unfold isZc at h;split at h
 . have hr:RdC M w v .zc:=hr
   cases hr;exact ⟨_,rfl⟩
 . exact ⟨none,RdC.yn7 hr⟩
 . cases h
theorem zjd {σ:List AV} {o:Oper} {T:TypeId} {x y:Operand} (ho:o.op=.call { callee:=.builtin .append,args:=#[x,y],argTypes:=#[T,T] }) {ti:TI} (hti:mkTI P T=some ti)
 {av:AV} (hA:yfa σ ti x y=some av) {r:List Nat×List (Nat×AV)} (h:val σ o (orr x++orr y) av=some r):wo4 P o σ r.1 [] r.2:=by
 obtain ⟨d,hdst,hn,rfl⟩:=y40 h;obtain ⟨ds,i0,z0,hd0,hi0,hz0,_,_,_,_,_,hsh'⟩:=(zi0 hti).ex;unfold yfa at hA;split at hA
 case h_2=>cases hA
 rename_i e es eb ik hsh;split at hA
 case h_2=>cases hA
 rename_i hzc;split at hA
 case h_2=>cases hA
 rename_i cy hy;unfold ownN at hA;split at hA
 case h_2=>cases hA
 rename_i c' x62;split at hA
 case isFalse=>cases hA
 rename_i hcnt0
 cases hA;obtain ⟨rfl,j,z',hj,hz',hjs,hjb,hes0,hzs,hik⟩:=vh6 (hsh'.symm.trans hsh);have hes:0<es:=Nat.pos_of_ne_zero hes0;intro E σ' a w hag _ ⟨τ,M,hI⟩ K Q hK;have hox:opd σ' x=opd σ x:=hag.opd (fun t ht=>by simp [ht]);have hoy:opd σ' y=opd σ y:=hag.opd (fun t ht=>by simp [ht]);have sx:=hI.opd x;have sy:=hI.opd y;rw [hox] at sx;rw [hoy,hy] at sy
 have hxv:∃ ad,a.eval x=.slice ad 0 0:=by
  unfold zcAt at hzc;split at hzc
  . rename_i c hc;rw [hc] at sx;exact zqo hzc sx
  . cases hzc
 obtain ⟨xad,hxv⟩:=hxv;have sy:RdT M w τ (a.eval y) cy:=sy
 have hu:(za1 es ik).uni:=by
  cases ik with
  | some k=>exact trivial
  | none=>intro r hr;cases hr
 have hc0:(za1 es ik).cnt=0:=by cases ik<;>rfl
 have hf0:(za1 es ik).flat=[]:=by cases ik<;>rfl
 obtain ⟨m,news,fy,⟨yad,ycap,hyv⟩,hnl,hnr,hnc,hu',hcnt',hesz',hesz,hflat',hb1,hb2⟩:=vt6 hes x62 hu sy.bare;rw [hc0,Nat.zero_add] at hcnt' hb1 hb2;rw [hf0,List.nil_append] at hflat'
 have hm0:0<m:=by omega
 obtain ⟨old,h1,h2⟩:=xnl (hag.nh (by simp) hn);have hn1:∀ u∈news,u.oneCell'=true:=hnr.oneL
 have hnc':news=[]\/∃ b off cap,Value.slice yad m ycap=.slice (some ⟨b,off,none⟩) m cap/\∀ j u,news[j]? = some u->w.drew.cell? ⟨b,off+j,none⟩=some u:=hnc.imp id fun ⟨b',off,cap',e',hh⟩=>⟨b',off,cap',by rw [<-hyv];exact e',fun j u hj=>(hh j u hj).2⟩
 have hfd:(Builtin.firstCells j.size m (.slice yad m ycap)).run P w.drew=.ok news.toArray w.drew:=x26 w.drew m _ news ⟨_,_,rfl⟩ (by rw [hjs];exact hnl) hnc';have hfo:(Builtin.firstCells j.size 0 (.slice xad 0 0)).run P w.drew=.ok ([]:List Value).toArray w.drew:=x26 w.drew 0 _ [] ⟨_,_,rfl⟩ (by simp) (.inl rfl);have hrun:=zv7 (P:=P) hd0 hj hz' w o.type hfd hfo (by omega) (by rw [Nat.zero_add,hjb];exact hb1) (by rw [Nat.zero_add];exact hb2);rw [Nat.zero_add] at hrun;generalize hgc:grownCap w m 0 e=gc at hrun
 have hge:m<=gc:=by rw [<-hgc];exact grownCap_ge w m 0 e
 have hrunop:(execOp a.eval o).run P w=.ok (.value (.slice (some ⟨w.heap.size,0,none⟩) m gc)) (w.drew.alloc (.cells (([]++news).toArray++Builtin.zeroCells z'.cells (gc-m)) e)):=by
  have hrun':=hrun;simp only [List.nil_append] at hrun';simp [execOp,ho,resolve,invoke,builtin,hxv,hyv,hrun']
 have hbl:Below w.heap.size w (w.drew.alloc (.cells (([]++news).toArray++Builtin.zeroCells z'.cells (gc-m)) e)):=((Below.refl _ _).drew).alloc (Nat.le_refl _) _;have hheap':(w.drew.alloc (.cells (([]++news).toArray++Builtin.zeroCells z'.cells (gc-m)) e)).heap[w.heap.size]? = some (.cells (([]++news).toArray++Builtin.zeroCells z'.cells (gc-m)) e (0,0)):=zuy w.drew _;unfold Oper.wp;rw [hrunop];show K (a.put o.dst _) _;rw [hdst];refine hK _ _ ⟨τ,_,hI.w1n hbl h1 h2 (.slice (some ⟨w.heap.size,0,none⟩) m gc) (.arr [] c' none) rfl rfl (Nat.le_refl _) (by simp [blk]) ?_ (fun t ht=>ht.elim)⟩;refine ⟨w.heap.size,e,news,(Builtin.zeroCells z'.cells (gc-m)).toList,gc,by rw [hcnt'];rfl,?_,?_,fun p hp=>(by cases hp),hu',by rw [hcnt'];exact hge,?_⟩
 . rw [hheap']
   congr 2
   apply Array.ext';simp
 . rw [hflat'];refine hnr.keep (fun b' o u hm hc=>?_);have hl:=World.block_lt_of_cell? w _ hc;exact ⟨fun hh=>hh.elim hm (fun hh=>by simp only [blk] at hh;simp only at hl;omega),(zpe.below hbl b' o u hm hc).2⟩
 . rw [hesz',hnl,Array.length_toList,size_zeroCells,hzs,<-Nat.add_mul];exact Nat.mul_le_mul_right _ (by omega)
def litB (P:Program) (σ:List AV) (o:Oper) (x y:Operand) (T:TypeId):OR:=zcp P T fun ti=>vofA σ o (orr x++orr y) (yfa σ ti x y)
def opL (P : Program) (σ : List AV) (o : Oper) : Option OR := match o.op with
 | .buildSlice T n ps=>match n != 0 with
  | true=>some (litA P σ o T n ps.toList)
  | false=>none
 | .call c=>match c.callee with
  | .builtin .append=>match c.args.toList,c.argTypes.toList with
   | [x,y],[T,U]=>match zcAt (opd σ x) with
    | true=>if T=U then some (litB P σ o x y T) else none
    | false=>none
   | _,_=>none
  | _=>none
 | _=>none
def opA0 (P:Program) (σ:List AV) (o:Oper):OR:=if isX σ o.op=true then .of (opX P σ o) else opB P σ o
def selO:Option OR->OR->OR
 | some r,_=>r
 | none,r=>r
def opA (P:Program) (lt:Bool) (σ:List AV) (o:Oper):OR:=match lt with
 | true=>selO (opL P σ o) (opA0 P σ o)
 | false=>opA0 P σ o
theorem zsk {σ:List AV} {o:Oper} {rd tk:List Nat} {eff:List (Nat×AV)} (h:opA0 P σ o=.eff rd tk eff):wo4 P o σ rd tk eff/\(∀ t∈tk,∀ i,(gt σ i).xh7 t->i∈rd):=by
 unfold opA0 at h;split at h
 . unfold OR.of at h;split at h
   . rename_i rd' e hx
     cases h;exact ⟨xee hx,fun t ht=>by cases ht⟩
   . cases h
 . exact ymo h
theorem y6m {σ:List AV} {o:Oper} {f:FuncId} {args:List AV} {rd:List Nat} (h:opA0 P σ o=.call f args rd) {res:AV} (hc:zkh P f args res):wo4 P o σ rd [] (zbh o res):=by
 unfold opA0 at h;split at h
 . unfold OR.of at h;split at h<;>cases h
 . exact yz4 h hc
theorem wo0 {σ:List AV} {o:Oper} {F:List AV->AV->Prop} {args:List AV} {rd:List Nat} (h:opA0 P σ o=.fn (y6r P F) args rd) {res:AV} (hc:F args res):wo4 P o σ rd [] (zbh o res):=by
 unfold opA0 at h;split at h
 . unfold OR.of at h;split at h<;>cases h
 . exact y4p h hc
theorem v3k {σ:List AV} {o:Oper} {f:FuncId} {caps:List AV} {rd:List Nat} (h:opA0 P σ o=.mk f caps rd) {F:List AV->AV->Prop} (y5m:xus P f) (hF:∀ args res,F args res->zkh P f (args++caps) res) :
 wo4 P o σ rd [] (zbh o (.one (.fnp (y6r P F)))):=by
 unfold opA0 at h;split at h
 . unfold OR.of at h;split at h<;>cases h
 . exact xoa h y5m hF
theorem z4f {σ:List AV} {o:Oper} {f:FuncId} {l:List AV} {j s:Nat} {ov:OV} {rd:List Nat} (h:opA0 P σ o=.own f l j s ov rd) {new:OV} {res nw res':AV} (hc:z5q P f l j ov new res)
 (hs:wxa (gt σ s) ov new=some nw) (hr:vhw s ov res=some res'):wo4 P o σ rd [] ((s,nw)::zbh o res'):=by
 unfold opA0 at h;split at h
 . unfold OR.of at h;split at h<;>cases h
 . exact yiu h hc hs hr
theorem vxm {σ:List AV} {o:Oper} {rd tk:List Nat} {eff:List (Nat×AV)} (h:opL P σ o=some (.eff rd tk eff)):wo4 P o σ rd tk eff/\(∀ t∈tk,∀ i,(gt σ i).xh7 t->i∈rd):=by
 unfold opL at h;split at h
 . rename_i T n ps ho;split at h
   . simp only [Option.some.injEq] at h;exact yyu (by rw [ho]) h
   . cases h
 . rename_i c ho;obtain ⟨callee,args,argTypes⟩:=c;simp only at h;split at h
   . split at h
     . rename_i x y T U ha ht;split at h
       . split at h
         . rename_i hTU;subst hTU;simp only [Option.some.injEq] at h
           have ea:args=#[x,y]:=by cases args;simp at ha;rw [ha]
           have et:argTypes=#[T,T]:=by cases argTypes;simp at ht;rw [ht]
           rw [ea,et] at ho;unfold litB at h;obtain ⟨ti,hti,hk⟩:=ygx (by simp) h
           have:=zza (fun av ha r hr=>zjd ho hti ha hr) hk
           obtain ⟨h1,h2⟩:=this;exact ⟨h2,by rw [h1];intro t ht;cases ht⟩
         . cases h
       . cases h
     . cases h
   . cases h
 . cases h
def y3b (r:OR):Prop:=r=.bad\/∃ rd tk eff,r=.eff rd tk eff
theorem ze1 {T:TypeId} {k:TI->OR} (h:∀ ti,y3b (k ti)):y3b (zcp P T k):=by
 unfold zcp;split
 . exact h _
 . exact .inl rfl
theorem xje {ti:TI} {k:TI->OR} (h:∀ ti,y3b (k ti)):y3b (ynz P ti k):=by
 unfold ynz;split
 . exact ze1 h
 . exact .inl rfl
theorem x7n {σ:List AV} {d:Nat} {rd:List Nat} {se:List (Nat×AV)} {b:Bool} {a:Option AV}:y3b (litE σ d rd se b a):=by
 unfold litE;split
 . split
   . exact .inr ⟨_,_,_,rfl⟩
   . exact .inl rfl
 . exact .inl rfl
theorem x66 {σ:List AV} {o:Oper} {rd:List Nat} {a:Option AV}:y3b (vofA σ o rd a):=by
 unfold vofA;split
 . unfold OR.of;split
   . exact .inr ⟨_,_,_,rfl⟩
   . exact .inl rfl
 . exact .inl rfl
theorem z3g {σ:List AV} {o:Oper} {r:OR} (h:opL P σ o=some r):y3b r:=by
 unfold opL at h;split at h
 . split at h
   . cases h;unfold litA;split
     . exact ze1 (fun _=>xje (fun _=>x7n))
     . exact .inl rfl
   . cases h
 . split at h
   . split at h
     . split at h
       . split at h
         . cases h;exact ze1 (fun _=>x66)
         . cases h
       . cases h
     . cases h
   . cases h
 . cases h
theorem y6n {lt:Bool} {σ:List AV} {o:Oper} {rd tk:List Nat} {eff:List (Nat×AV)} (h:opA P lt σ o=.eff rd tk eff):wo4 P o σ rd tk eff/\(∀ t∈tk,∀ i,(gt σ i).xh7 t->i∈rd):=by
 unfold opA at h;split at h
 . unfold selO at h;split at h
   . rename_i r hr;subst h;exact vxm (by assumption)
   . exact zsk h
 . exact zsk h
theorem y4k {lt:Bool} {σ:List AV} {o:Oper} {r:OR} (h:opA P lt σ o=r) (h1:r≠.bad) (h2:∀ rd tk e,r≠.eff rd tk e):opA0 P σ o=r:=by
 unfold opA at h;split at h
 . unfold selO at h;split at h
   . subst h
     rcases z3g (P:=P) (σ:=σ) (o:=o) (by assumption) with h3 | ⟨rd,tk,e,h3⟩
     . exact absurd h3 h1
     . exact absurd h3 (h2 _ _ _)
   . exact h
 . exact h
inductive GR where
 | plain
 | when (d:Nat) (c b:Bool)
 | skip (d:Nat)
 | bad
def yf4 (ops:List Oper) (σ:List AV) (o:Oper):GR:=match o.guard with
 | none=>.plain
 | some (j,b)=>match (ops[j]?).bind (·.dst) with
  | some d=>match gt σ d with
   | .one (.raw (.bool c))=>.when d c b
   | .undef=>.skip d
   | _=>.bad
  | none=>.bad
def BadK (_o:Op) (_σ:List AV):Prop:=False
def BadC (_c:Operand) (_σ:List AV):Prop:=False
def yui (P:Program) (f:FuncId) (args:List AV) (K:Bool->AV->Prop):Prop:=∃ res,zkh P f args res/\K true res
def FnK (P:Program) (p:(Nat->Nat->Prop)->World->Value->Prop) (args:List AV) (K:Bool->AV->Prop):Prop:=∃ F,p=y6r P F/\∃ res,F args res/\K true res
def MkK (P:Program) (f:FuncId) (caps:List AV) (K:Bool->(List AV->AV->Prop)->Prop):Prop:=∃ F,xus P f/\(∀ args res,F args res->zkh P f (args++caps) res)/\K true F
def OwnK (P:Program) (f:FuncId) (l:List AV) (j:Nat) (ov:OV) (k:Bool->OV->AV->Prop):Prop:=∃ new res,z5q P f l j ov new res/\k true new res
theorem ownk {f:FuncId} {l:List AV} {j:Nat} {ov new:OV} {res:AV} {k:Bool->OV->AV->Prop} (h:z5q P f l j ov new res) (hk:k true new res):OwnK P f l j ov k:=⟨new,res,h,hk⟩
def ownF (o:Oper) (σ:List AV) (s:Nat) (rd:List Nat) (k:Bool->List Nat->List Nat->List (Nat×AV)->Prop) (b:Bool) (nw res:Option AV):Prop:=match nw,res with
 | some nw,some r=>k b rd [] ((s,nw)::zbh o r)
 | _,_=>BadK o.op σ
def xuy (c b:Bool) (X Y:Bool->Prop):Prop:=(c=b->X true)/\(c=(!b)->Y true)
def z4j (c:Bool) (X Y:Bool->Prop):Prop:=(c=true->X true)/\(c=false->Y true)
theorem vmb {f:FuncId} {args:List AV} {K:Bool->AV->Prop} {res:AV} (h:zkh P f args res) (hk:K true res):yui P f args K:=⟨res,h,hk⟩
theorem z3c {c:Bool} {X Y:Bool->Prop} (hx:c=true->X true) (hy:c=false->Y true):z4j c X Y:=⟨hx,hy⟩
theorem zs6 {p:Prop} [Decidable p] {X Y:Bool->Prop} (hx:p->X true) (hy:¬p->Y true):z4j (decide p) X Y:=⟨fun h=>hx (of_decide_eq_true h),fun h=>hy (of_decide_eq_false h)⟩
def doF (P:Program) (x:OR) (o:Oper) (σ:List AV) (b:Bool) (k:Bool->List Nat->List Nat->List (Nat×AV)->Prop):Prop:=match x with
 | .eff rd tk e=>k b rd tk e
 | .call f args rd=>yui P f args (fun b res=>k b rd [] (zbh o res))
 | .fn p args rd=>FnK P p args (fun b res=>k b rd [] (zbh o res))
 | .mk f caps rd=>MkK P f caps (fun b F=>k b rd [] (zbh o (.one (.fnp (y6r P F)))))
 | .own f l j s ov rd=>OwnK P f l j ov (fun b new res=>ownF o σ s rd k b (wxa (gt σ s) ov new) (vhw s ov res))
 | .bad=>BadK o.op σ
def z0j (σ:List AV) (o:Oper) (d:Nat) (b:Bool) (k:Bool->List Nat->List Nat->List (Nat×AV)->Prop):Prop:=match o.dst with
 | some e=>if nh σ e then k b [d,e] [] [(e,.undef)] else BadK o.op σ
 | none=>BadK o.op σ
def onD (d:Nat) (o:Oper) (σ:List AV) (k:Bool->List Nat->List Nat->List (Nat×AV)->Prop) (b:Bool) (rd tk:List Nat) (e:List (Nat×AV)):Prop:=match tk with
 | []=>k b (d::rd) [] e
 | _=>BadK o.op σ
def gdF (P:Program) (lt:Bool) (g:GR) (o:Oper) (σ:List AV) (b:Bool) (k:Bool->List Nat->List Nat->List (Nat×AV)->Prop):Prop:=match g with
 | .plain=>doF P (opA P lt σ o) o σ b k
 | .when d c b'=>xuy c b' (fun b=>doF P (opA P lt σ o) o σ b (onD d o σ k)) (fun b=>z0j σ o d b k)
 | .skip d=>z0j σ o d b k
 | .bad=>BadK o.op σ
theorem xku {ops:Array Oper} {σ:List AV} {o:Oper} :
 (yf4 ops.toList σ o=.plain->o.guard=none)/\
 (∀ d c b,yf4 ops.toList σ o=.when d c b->∃ j,o.guard=some (j,b)/\(ops[j]?).bind (·.dst)=some d/\gt σ d=.one (.raw (.bool c)))/\
 (∀ d,yf4 ops.toList σ o=.skip d->∃ j b,o.guard=some (j,b)/\(ops[j]?).bind (·.dst)=some d/\gt σ d=.undef):=by
 unfold yf4
 split
 . rename_i hg;exact ⟨fun _=>hg,fun d c b h=>(by cases h),fun d h=>(by cases h)⟩
 . rename_i j b hg;simp only [Array.getElem?_toList]
   split
   . rename_i d hd
     split
     . rename_i c hc;exact ⟨fun h=>(by cases h),fun d' c' b' h=>by cases h;exact ⟨j,hg,hd,hc⟩,fun d h=>(by cases h)⟩
     . rename_i hc;exact ⟨fun h=>(by cases h),fun d' c' b' h=>(by cases h),fun d' h=>by cases h;exact ⟨j,b,hg,hd,hc⟩⟩
     . exact ⟨fun h=>(by cases h),fun d' c' b' h=>(by cases h),fun d h=>(by cases h)⟩
   . exact ⟨fun h=>(by cases h),fun d' c' b' h=>(by cases h),fun d h=>(by cases h)⟩
theorem wjm {lt:Bool} {o:Oper} {σ:List AV} {b:Bool} {k:Bool->List Nat->List Nat->List (Nat×AV)->Prop} (h:doF P (opA P lt σ o) o σ b k) :
 ∃ b' rd tk e,wo4 P o σ rd tk e/\(∀ t∈tk,∀ i,(gt σ i).xh7 t->i∈rd)/\k b' rd tk e:=by
 unfold doF at h;split at h
 . rename_i rd tk e he;exact ⟨_,_,_,_,(y6n he).1,(y6n he).2,h⟩
 . rename_i he;obtain ⟨res,h1,h2⟩:=h;exact ⟨_,_,_,_,y6m (y4k he (by simp) (by simp)) h1,by simp,h2⟩
 . rename_i he;obtain ⟨F,rfl,res,h1,h2⟩:=h;exact ⟨_,_,_,_,wo0 (y4k he (by simp) (by simp)) h1,by simp,h2⟩
 . rename_i he;obtain ⟨F,hc,hF,h2⟩:=h;exact ⟨_,_,_,_,v3k (y4k he (by simp) (by simp)) hc hF,by simp,h2⟩
 . rename_i he;obtain ⟨new,res,h1,h2⟩:=h;unfold ownF at h2;split at h2
   . rename_i hs hr;exact ⟨_,_,_,_,z4f (y4k he (by simp) (by simp)) h1 hs hr,by simp,h2⟩
   . exact h2.elim
 . exact h.elim
theorem yc0 {σ:List AV} {o:Oper} {d:Nat} {b:Bool} {k:Bool->List Nat->List Nat->List (Nat×AV)->Prop} (h:z0j σ o d b k):∃ e,o.dst=some e/\nh σ e=true/\k b [d,e] [] [(e,.undef)]:=by
 unfold z0j at h;split at h
 . rename_i e he;split at h
   . rename_i hn;exact ⟨e,he,hn,h⟩
   . exact h.elim
 . exact h.elim
theorem zfj {lt:Bool} {ops:Array Oper} {σ:List AV} {o:Oper} {b:Bool} {k:Bool->List Nat->List Nat->List (Nat×AV)->Prop} (h:gdF P lt (yf4 ops.toList σ o) o σ b k) :
 ∃ b' rd tk e,GStep P ops o σ rd tk e/\k b' rd tk e:=by
 unfold gdF at h;split at h
 . rename_i hg;obtain ⟨b',rd,tk,e,h1,h2,h3⟩:=wjm h;exact ⟨b',rd,tk,e,GStep.plain (xku.1 hg) h2 h1,h3⟩
 . rename_i d c b' hg;obtain ⟨j,h1,h2,h3⟩:=xku.2.1 d c b' hg;obtain ⟨hx,hy⟩:=h;by_cases hcb:c=b'
   . subst hcb;obtain ⟨b'',rd,tk,e,ha,hb,hk⟩:=wjm (hx rfl);unfold onD at hk;split at hk
     . exact ⟨_,_,_,_,GStep.taken h1 h2 h3 ha,hk⟩
     . exact hk.elim
   . have hn:c = !b':=by cases c<;>cases b'<;>simp_all
     obtain ⟨e,he,hnh,hk⟩:=yc0 (hy hn);exact ⟨_,_,_,_,GStep.ys1 h1 h2 (.inl (by rw [h3,hn])) he hnh,hk⟩
 . rename_i d hg;obtain ⟨j,b',h1,h2,h3⟩:=xku.2.2 d hg;obtain ⟨e,he,hnh,hk⟩:=yc0 h;exact ⟨_,_,_,_,GStep.ys1 h1 h2 (.inr h3) he hnh,hk⟩
 . exact h.elim
def RunF (P:Program) (lt:Bool) (ops:List Oper):Bool->List Oper->List AV->(Bool->List AV->Prop)->Prop
 | b,[],σ,K=>K b σ
 | b,o::r,σ,K=>gdF P lt (yf4 ops σ o) o σ b (fun b _ _ e=>RunF P lt ops b r (app e σ) K)
theorem RunF.run {lt:Bool} {ops:Array Oper}:∀(l:List Oper) (b:Bool) (σ:List AV) (K:Bool->List AV->Prop),RunF P lt ops.toList b l σ K->Run P ops l σ (fun σ=>∃ b,K b σ)
 | [],b,_,_,h=>⟨b,h⟩
 | o::r,b,σ,K,h=>by
  unfold RunF at h;obtain ⟨b',rd,tk,e,h1,h2⟩:=zfj h;exact ⟨_,_,_,h1,RunF.run r b' _ K h2⟩
def IndK (ops:List Oper) (acc:List SR) (σ0:List AV) (k:Bool->Prop):Prop:=indep ops acc σ0=true/\k true
theorem indk {ops:List Oper} {acc:List SR} {σ0:List AV} {k:Bool->Prop} (h:indep ops acc σ0=true) (hk:k true):IndK ops acc σ0 k:=⟨h,hk⟩
def RunG (P:Program) (lt:Bool) (ops:List Oper) (σ0:List AV):Bool->List Oper->List SR->List AV->(Bool->List AV->Prop)->Prop
 | _,[],acc,σ,K=>IndK ops acc σ0 (fun b=>K b σ)
 | b,o::r,acc,σ,K=>gdF P lt (yf4 ops σ o) o σ b (fun b rd tk e=>RunG P lt ops σ0 b r (acc++[⟨rd,tk,e⟩]) (app e σ) K)
theorem RunG.runD {lt:Bool} {ops:Array Oper} {σ0:List AV}:∀(l:List Oper) (b:Bool) (acc:List SR) (σ:List AV) (K:Bool->List AV->Prop),RunG P lt ops.toList σ0 b l acc σ K->RunD P ops ops.toList σ0 l acc σ (fun σ=>∃ b,K b σ)
 | [],b,_,_,_,h=>⟨h.1,true,h.2⟩
 | o::r,b,acc,σ,K,h=>by
  unfold RunG at h;obtain ⟨b',rd,tk,e,h1,h2⟩:=zfj h;exact ⟨_,_,_,h1,RunG.runD r b' _ _ K h2⟩
def zl2 (next:Bool->List AV->Prop) (Q:Exit->Bool->List AV->Prop):Exit->Bool->List AV->Prop
 | .normal=>next
 | .exit id=>Q (.exit id)
 | .goto l=>Q (.goto l)
 | .ret=>Q .ret
 | .panic c=>Q (.panic c)
 | .outgrown=>Q .outgrown
def vlz (id:Nat) (Q:Exit->Bool->List AV->Prop):Exit->Bool->List AV->Prop
 | .normal=>Q .normal
 | .exit j=>if j=id then Q .normal else Q (.exit j)
 | .goto l=>Q (.goto l)
 | .ret=>Q .ret
 | .panic c=>Q (.panic c)
 | .outgrown=>Q .outgrown
def outQ (Q:Exit->Bool->List AV->Prop):Exit->List AV->Prop:=fun e σ=>∃ b,Q e b σ
def x2f (P:Program) (_G:List (Nat×List Gh)) (c:Code) (Q:Exit->Bool->List AV->Prop) (σ:List AV):Prop:=vb6 P (.loop c) (outQ Q) σ
def x1b (P:Program) (k:Bool->Prop):Prop:=P.follows .mixedOrders=true/\k true
def vjz (_:Program) (c:Operand) (σ:List AV) (X Y:Bool->Prop):AV->Prop
 | .one (.raw (.bool p))=>z4j p X Y
 | _=>BadC c σ
def ghOf:List (Nat×List Gh)->Nat->List Gh
 | [],_=>[]
 | (i,l)::r,j=>if i=j then l else ghOf r j
def y0m:Code->Option Nat
 | .region id _ _=>some id
 | .seq x _=>y0m x
 | .block _ x=>y0m x
 | .loop x=>y0m x
 | _=>none
def vwn:List Gh->Bool
 | []=>false
 | .join::_=>true
 | .frz _::r=>vwn r
 | .any _::r=>vwn r
 | .mv _ _::r=>vwn r
 | .lit::r=>vwn r
def z1p:List Gh->Bool
 | []=>false
 | .lit::_=>true
 | .frz _::r=>z1p r
 | .any _::r=>z1p r
 | .mv _ _::r=>z1p r
 | .join::r=>z1p r
def vj7:List (Nat×List Gh)->Code->Bool
 | [],_=>false
 | g::G,y=>match y0m y with
  | some id=>vwn (ghOf (g::G) id)
  | none=>false
def zrb (P:Program) (_G:List (Nat×List Gh)) (x y:Code) (Q:Exit->Bool->List AV->Prop) (σ:List AV):Prop:=vb6 P (.seq x y) (outQ Q) σ
def seqF (c:Bool) (A B:Bool->Prop):Prop:=match c with
 | true=>A true
 | false=>B true
def RC (P:Program) (G:List (Nat×List Gh)):Code->Bool->(Exit->Bool->List AV->Prop)->List AV->Prop
 | .skip,b,Q,σ=>Q .normal b σ
 | .region id ops false,b,Q,σ=>RunF P (z1p (ghOf G id)) ops.toList b ops.toList (ghL (ghOf G id) σ) (Q .normal)
 | .region id ops true,b,Q,σ=>x1b P (fun _=>RunG P (z1p (ghOf G id)) ops.toList (ghL (ghOf G id) σ) b ops.toList [] (ghL (ghOf G id) σ) (Q .normal))
 | .seq x y,b,Q,σ=>seqF (vj7 G y) (fun _=>zrb P G x y Q σ) (fun _=>RC P G x b (zl2 (fun b σ=>RC P G y b Q σ) Q) σ)
 | .cond c x y,_,Q,σ=>vjz P c σ (fun b=>RC P G x b Q σ) (fun b=>RC P G y b Q σ) (opd σ c)
 | .block id x,b,Q,σ=>RC P G x b (vlz id Q) σ
 | .loop x,_,Q,σ=>x2f P G x Q σ
 | .exit id,b,Q,σ=>Q (.exit id) b σ
 | .ret,b,Q,σ=>Q .ret b σ
 | _,_,_,_=>False
end Go.Slot
