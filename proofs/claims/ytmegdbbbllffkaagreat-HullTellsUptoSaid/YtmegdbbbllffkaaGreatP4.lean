/- The proof, part P4: Mp, Mq, Mr, Mx, My, Ha, Hb. -/
import Derived.Test.YtmegdbbbllffkaaGreatP3
import Derived.Test.YtmegdbbbllffkaaGreatP0
namespace Go.Slot
open Go Go.RowKit
variable {P:Program}
variable {I caps l:List AV} {o:Oper} {rd tk:List Nat} {a:Option AV} {T:TypeId} {k:Bool->List Nat->List Nat->List (Nat×AV)->Prop} {ti:TI} {f:FuncId} {res nw res':AV} {F:List AV->AV->Prop} {j:Nat} {ov:OV} {b:Bool} {X Y:Bool->Prop} {ops:Array Oper}
def orK (P:Program) (I:List AV) (o:Oper):OR->Prop
 | .call f args rd=>∀ res,yn2 P f args res->yh6 P o I rd [] (x93 o res)
 | .fn p args rd=>∀ F,p=vyz P F->∀ res,F args res->yh6 P o I rd [] (x93 o res)
 | .mk f caps rd=>∀ F,wuj P f->(∀ args res,F args res->yn2 P f (args++caps) res)->yh6 P o I rd [] (x93 o (.one (.fnp (vyz P F))))
 | .own f l j s ov rd=>∀ new res nw res',vpg P f l j ov new res->vpn (gt I s) ov new=some nw->y47 s ov res=some res'->yh6 P o I rd [] ((s,nw)::x93 o res')
 | _=>True
theorem of_k {x:Option (List Nat×List (Nat×AV))}:orK P I o (.of x):=by unfold OR.of;split<;>trivial
theorem v17:orK P I o (vofA I o rd a):=by unfold vofA;split<;>first | exact of_k | trivial
theorem wdy {a:Option (List Nat×AV)}:orK P I o (vofB I o a):=by unfold vofB;split<;>first | exact of_k | trivial
theorem zx1 {k:TI->OR} (h:∀ ti,orK P I o (k ti)):orK P I o (zl2 P T k):=by
 unfold zl2;split
 . exact h _
 . trivial
theorem w0t {k:TI->OR} (h:∀ ti,orK P I o (k ti)):orK P I o (y6x P ti k):=by
 unfold y6x;split
 . exact zx1 h
 . trivial
theorem wq9:orK P I o (opB P I o):=by
 unfold opB
 split
 case h_19=>
  rename_i c ho;obtain ⟨callee,as,ts⟩:=c;dsimp only
  split
  . split
    . exact zx1 fun _=>by
       split
       . exact wdy
       . trivial
    . trivial
  . split
    . split
      . exact zx1 fun _=>by split<;>trivial
      . trivial
    . trivial
  . split
    . rename_i l hl
      split
      . rename_i hn
        exact fun res hc=>wja (ts:=ts) (by rw [ho]) hl hn hc
      . trivial
    . split
      . rename_i hx
        split
        . rename_i hn
          exact fun new res nw res' hc hs hr=>y2y (ts:=ts) (by rw [ho]) hx hn hc hs hr
        . trivial
      . trivial
  . split
    . rename_i v l ht hl
      split
      . rename_i f' hf
        split
        . rename_i hn
          exact fun res hc=>w1s (ts:=ts) (by rw [ho]) (by rw [ht,v42 hf]) hl hn hc
        . trivial
      . trivial
    . rename_i p l ht hl
      split
      . rename_i hn;intro F hp res hc;subst hp;exact yg0 (ts:=ts) (by rw [ho]) ht hl hn hc
      . trivial
    . trivial
  . trivial
 case h_20=>
  rename_i f' fs cs ho
  split
  . rename_i l d hfs hl hd
    split
    . rename_i hn;intro F v6l hF
      have:=vko (P:=P) (by rw [ho,xs5 hfs]) hl v6l hF (r:=(d::orrL cs.toList,[(d,.one (.fnp (vyz P F)))])) (by unfold val;rw [hd];simp [hn])
      simpa [x93,hd] using this
    . trivial
  . trivial
 all_goals first
  | exact of_k
  | exact v17
  | trivial
  | exact zx1 fun _=>of_k
  | exact zx1 fun _=>v17
  | exact zx1 fun _=>wdy
  | exact zx1 fun _=>zx1 fun _=>v17
  | exact zx1 fun _=>w0t fun _=>v17
  | (refine zx1 fun _=>?_
     split
     . first | exact v17 | exact wdy
     . first | trivial | (split<;>first | exact v17 | trivial))
  | (split
     . first
       | exact of_k
       | (refine zx1 fun _=>?_
          split<;>trivial)
     . trivial)
theorem ztw {args:List AV} (h:opB P I o=.call f args rd) (hc:yn2 P f args res):yh6 P o I rd [] (x93 o res):=by
 have:=wq9 (P:=P) (I:=I) (o:=o)
 rw [h] at this;exact this res hc
theorem znf {args:List AV} (h:opB P I o=.fn (vyz P F) args rd) (hc:F args res):yh6 P o I rd [] (x93 o res):=by
 have:=wq9 (P:=P) (I:=I) (o:=o)
 rw [h] at this;exact this F rfl res hc
theorem yf4 (h:opB P I o=.mk f caps rd) (v6l:wuj P f) (hF:∀ args res,F args res->yn2 P f (args++caps) res) :
 yh6 P o I rd [] (x93 o (.one (.fnp (vyz P F)))):=by
 have:=wq9 (P:=P) (I:=I) (o:=o)
 rw [h] at this;exact this F v6l hF
theorem vh7 {s:Nat} (h:opB P I o=.own f l j s ov rd) {new:OV} (hc:vpg P f l j ov new res)
 (hs:vpn (gt I s) ov new=some nw) (hr:y47 s ov res=some res'):yh6 P o I rd [] ((s,nw)::x93 o res'):=by
 have:=wq9 (P:=P) (I:=I) (o:=o)
 rw [h] at this;exact this new res nw res' hc hs hr
def litE (I:List AV) (d:Nat) (rd:List Nat) (se:List (Nat×AV)) (b:Bool):Option AV->OR
 | some (.one c)=>match b,nh I d with
  | true,true=>.eff (d::(rd++se.map (·.1))) [d] (se++[(d,.one (.tok d c))])
  | _,_=>.bad
 | _=>.bad
def isNone {α:Type}:Option α->Bool
 | none=>true
 | some _=>false
def litA (P:Program) (I:List AV) (o:Oper) (T:TypeId) (n:Nat) (ps:List (Nat×Operand)):OR:=match o.dst with
 | some d=>zl2 P T fun ti=>y6x P ti fun te=>litE I d (orrs ps) (zrx [d] 0 I) (isNone o.guard) (zi5 I ti te n ps)
 | none=>.bad
theorem x2z (es:Nat):∀(n:Nat) (cs:List Cell),cs.length=n*es->(chunk es n cs).flatten=cs
 | 0,cs,h=>by
  have:cs=[]:=List.eq_nil_of_length_eq_zero (by simpa using h)
  subst this;rfl
 | n+1,cs,h=>by
  rw [Nat.add_mul,Nat.one_mul] at h;simp only [chunk,List.flatten_cons];rw [x2z es n (cs.drop es) (by simp;omega),List.take_append_drop]
theorem vvw (es:Nat):∀(n:Nat) (cs:List Cell),cs.length=n*es->∀ r∈chunk es n cs,r.length=es
 | 0,cs,_=>fun r hr=>by cases hr
 | n+1,cs,h=>fun r hr=>by
  rw [Nat.add_mul,Nat.one_mul] at h;simp only [chunk] at hr
  rcases List.mem_cons.1 hr with rfl | hr
  . simp;omega
  . exact vvw es n (cs.drop es) (by simp;omega) r hr
theorem y7i {n:Nat} {ps:List (Nat×Operand)} (ho:o.op=.buildSlice T n ps.toArray) {eff:List (Nat×AV)} (h:litA P I o T n ps=.eff rd tk eff) :
 yh6 P o I rd tk eff/\(∀ t∈tk,∀ i,(gt I i).vjg t->i∈rd):=by
 have nb:OR.eff rd tk eff≠.bad:=by simp
 unfold litA at h;split at h
 case h_2=>cases h
 rename_i d hdst;obtain ⟨ti,hti,hk⟩:=wyh nb h;obtain ⟨e,es,eb,ik,te,hsh,hte,hk⟩:=xh3 nb hk;unfold litE at hk;split at hk
 case h_2=>cases hk
 rename_i c hb;split at hk
 case h_2=>cases hk
 rename_i hn
 cases hk;refine ⟨?_,?_⟩
 . intro E I' a w hag htk ⟨τ,M,hI⟩ K Q hK;have hok:=vnz hti;obtain ⟨ds,i,z,hd,hi,hz,_,_,_,_,_,hsh'⟩:=hok.ex;obtain ⟨rfl,j,z',hj,hz',hjs,hjb,hes0,hzs,hik⟩:=wqb (hsh'.symm.trans hsh);obtain ⟨de,je,ze,hde,hje,hze,_,_,_,hone,hzce,_⟩:=(vnz hte).ex;rw [hj] at hje;cases hje;rw [hz'] at hze;cases hze;unfold zi5 at hb;rw [hsh] at hb;dsimp only at hb;split at hb
   case isFalse=>cases hb
   rename_i hsmall;split at hb
   . cases hb
   rename_i cs hfill
   have hav:vn5 I' ps=vn5 I ps:=xax ps (fun x hx=>hag.opd (fun t ht=>by
    have:=hx t ht
    simp [this]))
   have hz0:RdL M w τ (v8c z'.cells.toList n) (v8c te.zc n):=zpu (by rw [hzce];exact zal hone) n
   have hinit:(Array.range (n*es)).map (z'.cells[· % z'.cells.size]!)=(v8c z'.cells.toList n).toArray:=by
    apply Array.ext
    . simp [y3g,hzs]
    . intro q h1 h2;simp only [Array.size_map,Array.size_range] at h1;have hq:=vfz z'.cells.toList n q (by simpa [hzs] using h1);have hlt:q % z'.cells.size<z'.cells.size:=Nat.mod_lt _ (by rw [hzs];omega);simp only [Array.getElem_map,Array.getElem_range,List.getElem_toArray];simp only [Array.length_toList,Array.getElem?_toList] at hq;rw [Array.getElem?_eq_getElem hlt,List.getElem?_eq_getElem (by simpa using h2)] at hq;simp at hq;rw [hq];simp [hlt]
   obtain ⟨cells',hf,hrd⟩:=y9v hI (fun i=>some (i*es,es)) ps (v8c z'.cells.toList n).toArray _ cs (by simpa using hz0) (by rw [hav];exact hfill)
   have hrun:(execOp a.eval o).run P w=.ok (.value (.slice (some ⟨w.heap.size,0,none⟩) n n)) (w.alloc (.cells cells' e)):=by
    have h24:¬(16777216<n*es):=by omega
    have hne:¬(n*es=0):=by
     intro h0
     rcases Nat.mul_eq_zero.1 h0 with h0 | h0
     . exact hsmall.2 h0
     . exact hes0 h0
    have hpe:(Array.map (fun x=>match x with | (i,x)=>(i,a.eval x)) ps.toArray).toList=ps.map fun p=>(p.1,a.eval p.2):=by simp
    simp only [execOp,ho,Instr.buildSlice,Sem.run_bind,voj hd,Result.andThen_ok,xvp hj,hjs];rw [if_neg (by simpa using h24),if_neg hne];simp only [Sem.run_bind,xt1 hj hz',Result.andThen_ok,Sem.run_pure,hinit];rw [hpe,hf];simp [newRow]
   have hcl:(zcr cs).length=n*es:=by
    rw [vkx,w8b _ _ _ hfill,y3g,hzce];simp [hzs]
   have hall:cells'.toList.length=n*es:=by rw [hrd.bare.length,hcl]
   have hn1:n<=n*es:=Nat.le_mul_of_pos_right n (Nat.pos_of_ne_zero hes0);obtain ⟨old,h1,h2⟩:=yn6 (hag.nh (by simp) hn)
   have hfin:app (zrx [d] 0 I++[(d,.one (.tok d c))]) I'=(vn9 [d] I').set d (.one (.tok d c)):=by
    rw [xah,xm5 hag.1 (fun r hr=>hag.2 r (by simp only [List.mem_cons,List.mem_append];exact .inr (.inr hr))) (fun t ht i hi=>hag.2 i (htk t ht i hi))];rfl
   have hg:=x32 hI.size hI.mb (.slice none 0 0) e es n cells'.toList hall (by simp [maxLen];omega);rw [Array.toArray_toList] at hg;have hv:xec E M w ⟨.slice none 0 0,es⟩:=.inl ⟨none,rfl⟩;split at hb
   . rename_i k;split at hb
     . rename_i he1;subst he1;simp only [Option.map_eq_some_iff,AV.one.injEq] at hb;obtain ⟨l,hl,rfl⟩:=hb;have hvs:=xe3 hrd.bare hl
       have hll:l.length=n:=by
        have h1:=congrArg List.length hvs;have h2:=hrd.bare.length;simp only [List.length_map] at h1;omega
       subst hll;rw [hvs] at hg;exact vdf hdst (by simp) hI h1 h2 rfl hg hg.ints hrun hv (fun _ _ _ _=>v7z) (fun _ _ _ _=>v7z) hfin hK
     . cases hb
   . cases hb;have hfl:(chunk es n (zcr cs)).flatten=zcr cs:=x2z es n _ hcl
     have hg':Grew E M w (w.alloc (.cells cells' e)) (fun b o=>M b o\/(b=w.heap.size/\n*es<=o)) (.slice none 0 0) (.slice (some ⟨w.heap.size,0,none⟩) n n) es (chunk es n (zcr cs)).length cells'.toList:=by
      rw [w0y];exact hg
     exact vdf hdst (by simp) hI h1 h2 rfl hg' (hg'.rows (by rw [hfl];exact hrd.bare) (fun r hr=>vvw es n _ hcl r hr) (by rw [w0y];exact hall) (Nat.pos_of_ne_zero hes0)) hrun hv (fun _ _ _ _=>v7z) (fun _ _ _ _=>v7z) hfin hK
 . intro t ht i hi
   have hlt:i<I.length:=by
    rcases Nat.lt_or_ge i I.length with h | h
    . exact h
    . unfold gt at hi;rw [List.getElem?_eq_none h] at hi;exact hi.elim
   have hf:=vvv [d] I 0 i hlt;simp only [Nat.zero_add] at hf;rw [if_neg (fun hall=>AV.x0v ((List.all_eq_true.1 hall) t ht) hi)] at hf
   have:=List.mem_of_find?_eq_some hf
   simp only [List.mem_cons,List.mem_append];exact .inr (.inr (List.mem_map.2 ⟨_,by simpa using this,rfl⟩))
def yo1 (es:Nat):Option IntKind->Cell
 | some k=>.ints k []
 | none=>.sl es []
def isZc:Cell->Bool
 | .zc=>true
 | .raw (.slice none 0 0)=>true
 | _=>false
def zcAt:AV->Bool
 | .one c=>isZc c
 | _=>false
def ownN:Option Cell->Option AV
 | some c'=>if c'.cnt≠0 then some (.arr [] c' none) else none
 | none=>none
def ysg (I:List AV) (ti:TI) (x y:Operand):Option AV:=match ti.sh with
 | .slice _ es eb ik=>match zcAt (opd I x) with
  | true=>match opd I y with
   | .one cy=>ownN (y5i es eb ik (yo1 es ik) cy.bare)
   | _=>none
  | false=>none
 | _=>none
theorem wwu {M:Nat->Nat->Prop} {w:World} {τ:Nat->TV} {v:Value} {c:Cell} (h:isZc c=true) (hr:RdT M w τ v c):∃ ad,v=.slice ad 0 0:=by
 unfold isZc at h;split at h
 . have hr:RdC M w v .zc:=hr
   cases hr;exact ⟨_,rfl⟩
 . exact ⟨none,RdC.zb6 hr⟩
 . cases h
theorem vx7 {x y:Operand} (ho:o.op=.call { callee:=.builtin .append,args:=#[x,y],argTypes:=#[T,T] }) (hti:mkTI P T=some ti)
 {av:AV} (hA:ysg I ti x y=some av) {r:List Nat×List (Nat×AV)} (h:val I o (orr x++orr y) av=some r):yh6 P o I r.1 [] r.2:=by
 obtain ⟨d,hdst,hn,rfl⟩:=xj7 h;obtain ⟨ds,i0,z0,hd0,hi0,hz0,_,_,_,_,_,hsh'⟩:=(vnz hti).ex;unfold ysg at hA;split at hA
 case h_2=>cases hA
 rename_i e es eb ik hsh;split at hA
 case h_2=>cases hA
 rename_i hzc;split at hA
 case h_2=>cases hA
 rename_i cy hy;unfold ownN at hA;split at hA
 case h_2=>cases hA
 rename_i c' ztg;split at hA
 case isFalse=>cases hA
 rename_i hcnt0
 cases hA;obtain ⟨rfl,j,z',hj,hz',hjs,hjb,hes0,hzs,hik⟩:=wqb (hsh'.symm.trans hsh);have hes:0<es:=Nat.pos_of_ne_zero hes0;intro E I' a w hag _ ⟨τ,M,hI⟩ K Q hK;have hox:opd I' x=opd I x:=hag.opd (fun t ht=>by simp [ht]);have hoy:opd I' y=opd I y:=hag.opd (fun t ht=>by simp [ht]);have sx:=hI.opd x;have sy:=hI.opd y;rw [hox] at sx;rw [hoy,hy] at sy
 have hxv:∃ ad,a.eval x=.slice ad 0 0:=by
  unfold zcAt at hzc;split at hzc
  . rename_i c hc;rw [hc] at sx;exact wwu hzc sx
  . cases hzc
 obtain ⟨xad,hxv⟩:=hxv;have sy:RdT M w τ (a.eval y) cy:=sy
 have hu:(yo1 es ik).uni:=by
  cases ik with
  | some k=>exact trivial
  | none=>intro r hr;cases hr
 have hc0:(yo1 es ik).cnt=0:=by cases ik<;>rfl
 have hf0:(yo1 es ik).flat=[]:=by cases ik<;>rfl
 obtain ⟨m,news,fy,⟨yad,ycap,hyv⟩,hnl,hnr,hnc,hu',hcnt',hesz',hesz,hflat',hb1,hb2⟩:=va8 hes ztg hu sy.bare;rw [hc0,Nat.zero_add] at hcnt' hb1 hb2;rw [hf0,List.nil_append] at hflat'
 have hm0:0<m:=by omega
 obtain ⟨old,h1,h2⟩:=yn6 (hag.nh (by simp) hn);have hn1:∀ u∈news,u.oneCell'=true:=hnr.oneL
 have hnc':news=[]\/∃ b off cap,Value.slice yad m ycap=.slice (some ⟨b,off,none⟩) m cap/\∀ j u,news[j]? = some u->w.drew.cell? ⟨b,off+j,none⟩=some u:=hnc.imp id fun ⟨b',off,cap',e',hh⟩=>⟨b',off,cap',by rw [<-hyv];exact e',fun j u hj=>(hh j u hj).2⟩
 have hfd:(Builtin.firstCells j.size m (.slice yad m ycap)).run P w.drew=.ok news.toArray w.drew:=vfb w.drew m _ news ⟨_,_,rfl⟩ (by rw [hjs];exact hnl) hnc';have hfo:(Builtin.firstCells j.size 0 (.slice xad 0 0)).run P w.drew=.ok ([]:List Value).toArray w.drew:=vfb w.drew 0 _ [] ⟨_,_,rfl⟩ (by simp) (.inl rfl);have hrun:=vdy (P:=P) hd0 hj hz' w o.type hfd hfo (by omega) (by rw [Nat.zero_add,hjb];exact hb1) (by rw [Nat.zero_add];exact hb2);rw [Nat.zero_add] at hrun;generalize hgc:grownCap w m 0 e=gc at hrun
 have hge:m<=gc:=by rw [<-hgc];exact grownCap_ge w m 0 e
 have hrunop:(execOp a.eval o).run P w=.ok (.value (.slice (some ⟨w.heap.size,0,none⟩) m gc)) (w.drew.alloc (.cells (([]++news).toArray++Builtin.zeroCells z'.cells (gc-m)) e)):=by
  have hrun':=hrun;simp only [List.nil_append] at hrun';simp [execOp,ho,resolve,invoke,builtin,hxv,hyv,hrun']
 have hbl:Below w.heap.size w (w.drew.alloc (.cells (([]++news).toArray++Builtin.zeroCells z'.cells (gc-m)) e)):=((Below.refl _ _).drew).alloc (Nat.le_refl _) _;have hheap':(w.drew.alloc (.cells (([]++news).toArray++Builtin.zeroCells z'.cells (gc-m)) e)).heap[w.heap.size]? = some (.cells (([]++news).toArray++Builtin.zeroCells z'.cells (gc-m)) e (0,0)):=zuf w.drew _;unfold Oper.wp;rw [hrunop];show K (a.put o.dst _) _;rw [hdst];refine hK _ _ ⟨τ,_,hI.yja hbl h1 h2 (.slice (some ⟨w.heap.size,0,none⟩) m gc) (.arr [] c' none) rfl rfl (Nat.le_refl _) (by simp [blk]) ?_ (fun t ht=>ht.elim)⟩;refine ⟨w.heap.size,e,news,(Builtin.zeroCells z'.cells (gc-m)).toList,gc,by rw [hcnt'];rfl,?_,?_,fun p hp=>(by cases hp),hu',by rw [hcnt'];exact hge,?_⟩
 . rw [hheap']
   congr 2
   apply Array.ext';simp
 . rw [hflat'];refine hnr.keep (fun b' o u hm hc=>?_);have hl:=World.block_lt_of_cell? w _ hc;exact ⟨fun hh=>hh.elim hm (fun hh=>by simp only [blk] at hh;simp only at hl;omega),(ya3.below hbl b' o u hm hc).2⟩
 . rw [hesz',hnl,Array.length_toList,size_zeroCells,hzs,<-Nat.add_mul];exact Nat.mul_le_mul_right _ (by omega)
def litB (P:Program) (I:List AV) (o:Oper) (x y:Operand) (T:TypeId):OR:=zl2 P T fun ti=>vofA I o (orr x++orr y) (ysg I ti x y)
def opL (P : Program) (I : List AV) (o : Oper) : Option OR := match o.op with
 | .buildSlice T n ps=>match n != 0 with
  | true=>some (litA P I o T n ps.toList)
  | false=>none
 | .call c=>match c.callee with
  | .builtin .append=>match c.args.toList,c.argTypes.toList with
   | [x,y],[T,U]=>match zcAt (opd I x) with
    | true=>if T=U then some (litB P I o x y T) else none
    | false=>none
   | _,_=>none
  | _=>none
 | _=>none
def opA0 (P:Program) (I:List AV) (o:Oper):OR:=if isX I o.op=true then .of (opX P I o) else opB P I o
def selO:Option OR->OR->OR
 | some r,_=>r
 | none,r=>r
def opA (P:Program) (lt:Bool) (I:List AV) (o:Oper):OR:=match lt with
 | true=>selO (opL P I o) (opA0 P I o)
 | false=>opA0 P I o
theorem za3 {eff:List (Nat×AV)} (h:opA0 P I o=.eff rd tk eff):yh6 P o I rd tk eff/\(∀ t∈tk,∀ i,(gt I i).vjg t->i∈rd):=by
 unfold opA0 at h;split at h
 . unfold OR.of at h;split at h
   . rename_i rd' e hx
     cases h;exact ⟨v1p hx,fun t ht=>by cases ht⟩
   . cases h
 . exact yge h
theorem yjg {args:List AV} (h:opA0 P I o=.call f args rd) (hc:yn2 P f args res):yh6 P o I rd [] (x93 o res):=by
 unfold opA0 at h;split at h
 . unfold OR.of at h;split at h<;>cases h
 . exact ztw h hc
theorem vvz {args:List AV} (h:opA0 P I o=.fn (vyz P F) args rd) (hc:F args res):yh6 P o I rd [] (x93 o res):=by
 unfold opA0 at h;split at h
 . unfold OR.of at h;split at h<;>cases h
 . exact znf h hc
theorem wec (h:opA0 P I o=.mk f caps rd) (v6l:wuj P f) (hF:∀ args res,F args res->yn2 P f (args++caps) res) :
 yh6 P o I rd [] (x93 o (.one (.fnp (vyz P F)))):=by
 unfold opA0 at h;split at h
 . unfold OR.of at h;split at h<;>cases h
 . exact yf4 h v6l hF
theorem vv9 {s:Nat} (h:opA0 P I o=.own f l j s ov rd) {new:OV} (hc:vpg P f l j ov new res)
 (hs:vpn (gt I s) ov new=some nw) (hr:y47 s ov res=some res'):yh6 P o I rd [] ((s,nw)::x93 o res'):=by
 unfold opA0 at h;split at h
 . unfold OR.of at h;split at h<;>cases h
 . exact vh7 h hc hs hr
theorem zmb {eff:List (Nat×AV)} (h:opL P I o=some (.eff rd tk eff)):yh6 P o I rd tk eff/\(∀ t∈tk,∀ i,(gt I i).vjg t->i∈rd):=by
 unfold opL at h;split at h
 . rename_i T n ps ho;split at h
   . simp only [Option.some.injEq] at h;exact y7i (by rw [ho]) h
   . cases h
 . rename_i c ho;obtain ⟨callee,args,argTypes⟩:=c;simp only at h;split at h
   . split at h
     . rename_i x y T U ha ht;split at h
       . split at h
         . rename_i hTU;subst hTU;simp only [Option.some.injEq] at h
           have ea:args=#[x,y]:=by cases args;simp at ha;rw [ha]
           have et:argTypes=#[T,T]:=by cases argTypes;simp at ht;rw [ht]
           rw [ea,et] at ho;unfold litB at h;obtain ⟨ti,hti,hk⟩:=wyh (by simp) h
           have:=xb3 (fun av ha r hr=>vx7 ho hti ha hr) hk
           obtain ⟨h1,h2⟩:=this;exact ⟨h2,by rw [h1];intro t ht;cases ht⟩
         . cases h
       . cases h
     . cases h
   . cases h
 . cases h
def wql (r:OR):Prop:=r=.bad\/∃ rd tk eff,r=.eff rd tk eff
theorem yl7 {k:TI->OR} (h:∀ ti,wql (k ti)):wql (zl2 P T k):=by
 unfold zl2;split
 . exact h _
 . exact .inl rfl
theorem vzk {k:TI->OR} (h:∀ ti,wql (k ti)):wql (y6x P ti k):=by
 unfold y6x;split
 . exact yl7 h
 . exact .inl rfl
theorem vcm {d:Nat} {se:List (Nat×AV)}:wql (litE I d rd se b a):=by
 unfold litE;split
 . split
   . exact .inr ⟨_,_,_,rfl⟩
   . exact .inl rfl
 . exact .inl rfl
theorem xr0:wql (vofA I o rd a):=by
 unfold vofA;split
 . unfold OR.of;split
   . exact .inr ⟨_,_,_,rfl⟩
   . exact .inl rfl
 . exact .inl rfl
theorem w1d {r:OR} (h:opL P I o=some r):wql r:=by
 unfold opL at h;split at h
 . split at h
   . cases h;unfold litA;split
     . exact yl7 (fun _=>vzk (fun _=>vcm))
     . exact .inl rfl
   . cases h
 . split at h
   . split at h
     . split at h
       . split at h
         . cases h;exact yl7 (fun _=>xr0)
         . cases h
       . cases h
     . cases h
   . cases h
 . cases h
theorem ykv {lt:Bool} {eff:List (Nat×AV)} (h:opA P lt I o=.eff rd tk eff):yh6 P o I rd tk eff/\(∀ t∈tk,∀ i,(gt I i).vjg t->i∈rd):=by
 unfold opA at h;split at h
 . unfold selO at h;split at h
   . rename_i r hr;subst h;exact zmb (by assumption)
   . exact za3 h
 . exact za3 h
theorem xsv {lt:Bool} {r:OR} (h:opA P lt I o=r) (h1:r≠.bad) (h2:∀ rd tk e,r≠.eff rd tk e):opA0 P I o=r:=by
 unfold opA at h;split at h
 . unfold selO at h;split at h
   . subst h
     rcases w1d (P:=P) (I:=I) (o:=o) (by assumption) with h3 | ⟨rd,tk,e,h3⟩
     . exact absurd h3 h1
     . exact absurd h3 (h2 _ _ _)
   . exact h
 . exact h
inductive GR where
 | plain
 | when (d:Nat) (c b:Bool)
 | skip (d:Nat)
 | bad
def vhy (ops:List Oper) (I:List AV) (o:Oper):GR:=match o.guard with
 | none=>.plain
 | some (j,b)=>match (ops[j]?).bind (·.dst) with
  | some d=>match gt I d with
   | .one (.raw (.bool c))=>.when d c b
   | .undef=>.skip d
   | _=>.bad
  | none=>.bad
def BadK (_o:Op) (_σ:List AV):Prop:=False
def BadC (_c:Operand) (_σ:List AV):Prop:=False
def zqq (P:Program) (f:FuncId) (args:List AV) (K:Bool->AV->Prop):Prop:=∃ res,yn2 P f args res/\K true res
def FnK (P:Program) (p:(Nat->Nat->Prop)->World->Value->Prop) (args:List AV) (K:Bool->AV->Prop):Prop:=∃ F,p=vyz P F/\∃ res,F args res/\K true res
def MkK (P:Program) (f:FuncId) (caps:List AV) (K:Bool->(List AV->AV->Prop)->Prop):Prop:=∃ F,wuj P f/\(∀ args res,F args res->yn2 P f (args++caps) res)/\K true F
def OwnK (P:Program) (f:FuncId) (l:List AV) (j:Nat) (ov:OV) (k:Bool->OV->AV->Prop):Prop:=∃ new res,vpg P f l j ov new res/\k true new res
theorem ownk {new:OV} {k:Bool->OV->AV->Prop} (h:vpg P f l j ov new res) (hk:k true new res):OwnK P f l j ov k:=⟨new,res,h,hk⟩
def ownF (o:Oper) (I:List AV) (s:Nat) (rd:List Nat) (k:Bool->List Nat->List Nat->List (Nat×AV)->Prop) (b:Bool) (nw res:Option AV):Prop:=match nw,res with
 | some nw,some r=>k b rd [] ((s,nw)::x93 o r)
 | _,_=>BadK o.op I
def x4q (c b:Bool) (X Y:Bool->Prop):Prop:=(c=b->X true)/\(c=(!b)->Y true)
def x29 (c:Bool) (X Y:Bool->Prop):Prop:=(c=true->X true)/\(c=false->Y true)
theorem v1h {args:List AV} {K:Bool->AV->Prop} (h:yn2 P f args res) (hk:K true res):zqq P f args K:=⟨res,h,hk⟩
theorem wqz {c:Bool} (hx:c=true->X true) (hy:c=false->Y true):x29 c X Y:=⟨hx,hy⟩
theorem z08 {p:Prop} [Decidable p] (hx:p->X true) (hy:¬p->Y true):x29 (decide p) X Y:=⟨fun h=>hx (of_decide_eq_true h),fun h=>hy (of_decide_eq_false h)⟩
def doF (P:Program) (x:OR) (o:Oper) (I:List AV) (b:Bool) (k:Bool->List Nat->List Nat->List (Nat×AV)->Prop):Prop:=match x with
 | .eff rd tk e=>k b rd tk e
 | .call f args rd=>zqq P f args (fun b res=>k b rd [] (x93 o res))
 | .fn p args rd=>FnK P p args (fun b res=>k b rd [] (x93 o res))
 | .mk f caps rd=>MkK P f caps (fun b F=>k b rd [] (x93 o (.one (.fnp (vyz P F)))))
 | .own f l j s ov rd=>OwnK P f l j ov (fun b new res=>ownF o I s rd k b (vpn (gt I s) ov new) (y47 s ov res))
 | .bad=>BadK o.op I
def yiq (I:List AV) (o:Oper) (d:Nat) (b:Bool) (k:Bool->List Nat->List Nat->List (Nat×AV)->Prop):Prop:=match o.dst with
 | some e=>if nh I e then k b [d,e] [] [(e,.undef)] else BadK o.op I
 | none=>BadK o.op I
def onD (d:Nat) (o:Oper) (I:List AV) (k:Bool->List Nat->List Nat->List (Nat×AV)->Prop) (b:Bool) (rd tk:List Nat) (e:List (Nat×AV)):Prop:=match tk with
 | []=>k b (d::rd) [] e
 | _=>BadK o.op I
def gdF (P:Program) (lt:Bool) (g:GR) (o:Oper) (I:List AV) (b:Bool) (k:Bool->List Nat->List Nat->List (Nat×AV)->Prop):Prop:=match g with
 | .plain=>doF P (opA P lt I o) o I b k
 | .when d c b'=>x4q c b' (fun b=>doF P (opA P lt I o) o I b (onD d o I k)) (fun b=>yiq I o d b k)
 | .skip d=>yiq I o d b k
 | .bad=>BadK o.op I
theorem wok :
 (vhy ops.toList I o=.plain->o.guard=none)/\
 (∀ d c b,vhy ops.toList I o=.when d c b->∃ j,o.guard=some (j,b)/\(ops[j]?).bind (·.dst)=some d/\gt I d=.one (.raw (.bool c)))/\
 (∀ d,vhy ops.toList I o=.skip d->∃ j b,o.guard=some (j,b)/\(ops[j]?).bind (·.dst)=some d/\gt I d=.undef):=by
 unfold vhy
 split
 . rename_i hg;exact ⟨fun _=>hg,fun d c b h=>(by cases h),fun d h=>(by cases h)⟩
 . rename_i j b hg;simp only [Array.getElem?_toList]
   split
   . rename_i d hd
     split
     . rename_i c hc;exact ⟨fun h=>(by cases h),fun d' c' b' h=>by cases h;exact ⟨j,hg,hd,hc⟩,fun d h=>(by cases h)⟩
     . rename_i hc;exact ⟨fun h=>(by cases h),fun d' c' b' h=>(by cases h),fun d' h=>by cases h;exact ⟨j,b,hg,hd,hc⟩⟩
     . exact ⟨fun h=>(by cases h),fun d' c' b' h=>(by cases h),fun d h=>(by cases h)⟩
   . exact ⟨fun h=>(by cases h),fun d' c' b' h=>(by cases h),fun d h=>(by cases h)⟩
theorem wvx {lt:Bool} (h:doF P (opA P lt I o) o I b k) :
 ∃ b' rd tk e,yh6 P o I rd tk e/\(∀ t∈tk,∀ i,(gt I i).vjg t->i∈rd)/\k b' rd tk e:=by
 unfold doF at h;split at h
 . rename_i rd tk e he;exact ⟨_,_,_,_,(ykv he).1,(ykv he).2,h⟩
 . rename_i he;obtain ⟨res,h1,h2⟩:=h;exact ⟨_,_,_,_,yjg (xsv he (by simp) (by simp)) h1,by simp,h2⟩
 . rename_i he;obtain ⟨F,rfl,res,h1,h2⟩:=h;exact ⟨_,_,_,_,vvz (xsv he (by simp) (by simp)) h1,by simp,h2⟩
 . rename_i he;obtain ⟨F,hc,hF,h2⟩:=h;exact ⟨_,_,_,_,wec (xsv he (by simp) (by simp)) hc hF,by simp,h2⟩
 . rename_i he;obtain ⟨new,res,h1,h2⟩:=h;unfold ownF at h2;split at h2
   . rename_i hs hr;exact ⟨_,_,_,_,vv9 (xsv he (by simp) (by simp)) h1 hs hr,by simp,h2⟩
   . exact h2.elim
 . exact h.elim
theorem v9b {d:Nat} (h:yiq I o d b k):∃ e,o.dst=some e/\nh I e=true/\k b [d,e] [] [(e,.undef)]:=by
 unfold yiq at h;split at h
 . rename_i e he;split at h
   . rename_i hn;exact ⟨e,he,hn,h⟩
   . exact h.elim
 . exact h.elim
theorem xo5 {lt:Bool} (h:gdF P lt (vhy ops.toList I o) o I b k) :
 ∃ b' rd tk e,GStep P ops o I rd tk e/\k b' rd tk e:=by
 unfold gdF at h;split at h
 . rename_i hg;obtain ⟨b',rd,tk,e,h1,h2,h3⟩:=wvx h;exact ⟨b',rd,tk,e,GStep.plain (wok.1 hg) h2 h1,h3⟩
 . rename_i d c b' hg;obtain ⟨j,h1,h2,h3⟩:=wok.2.1 d c b' hg;obtain ⟨hx,hy⟩:=h;by_cases hcb:c=b'
   . subst hcb;obtain ⟨b'',rd,tk,e,ha,hb,hk⟩:=wvx (hx rfl);unfold onD at hk;split at hk
     . exact ⟨_,_,_,_,GStep.taken h1 h2 h3 ha,hk⟩
     . exact hk.elim
   . have hn:c = !b':=by cases c<;>cases b'<;>simp_all
     obtain ⟨e,he,hnh,hk⟩:=v9b (hy hn);exact ⟨_,_,_,_,GStep.wae h1 h2 (.inl (by rw [h3,hn])) he hnh,hk⟩
 . rename_i d hg;obtain ⟨j,b',h1,h2,h3⟩:=wok.2.2 d hg;obtain ⟨e,he,hnh,hk⟩:=v9b h;exact ⟨_,_,_,_,GStep.wae h1 h2 (.inr h3) he hnh,hk⟩
 . exact h.elim
def RunF (P:Program) (lt:Bool) (ops:List Oper):Bool->List Oper->List AV->(Bool->List AV->Prop)->Prop
 | b,[],I,K=>K b I
 | b,o::r,I,K=>gdF P lt (vhy ops I o) o I b (fun b _ _ e=>RunF P lt ops b r (app e I) K)
theorem RunF.run {lt:Bool} {ops:Array Oper}:∀(l:List Oper) (b:Bool) (I:List AV) (K:Bool->List AV->Prop),RunF P lt ops.toList b l I K->Run P ops l I (fun I=>∃ b,K b I)
 | [],b,_,_,h=>⟨b,h⟩
 | o::r,b,I,K,h=>by
  unfold RunF at h;obtain ⟨b',rd,tk,e,h1,h2⟩:=xo5 h;exact ⟨_,_,_,h1,RunF.run r b' _ K h2⟩
def IndK (ops:List Oper) (acc:List SR) (σ0:List AV) (k:Bool->Prop):Prop:=indep ops acc σ0=true/\k true
theorem indk {ops:List Oper} {acc:List SR} {σ0:List AV} {k:Bool->Prop} (h:indep ops acc σ0=true) (hk:k true):IndK ops acc σ0 k:=⟨h,hk⟩
def RunG (P:Program) (lt:Bool) (ops:List Oper) (σ0:List AV):Bool->List Oper->List SR->List AV->(Bool->List AV->Prop)->Prop
 | _,[],acc,I,K=>IndK ops acc σ0 (fun b=>K b I)
 | b,o::r,acc,I,K=>gdF P lt (vhy ops I o) o I b (fun b rd tk e=>RunG P lt ops σ0 b r (acc++[⟨rd,tk,e⟩]) (app e I) K)
theorem RunG.runD {lt:Bool} {ops:Array Oper} {σ0:List AV}:∀(l:List Oper) (b:Bool) (acc:List SR) (I:List AV) (K:Bool->List AV->Prop),RunG P lt ops.toList σ0 b l acc I K->RunD P ops ops.toList σ0 l acc I (fun I=>∃ b,K b I)
 | [],b,_,_,_,h=>⟨h.1,true,h.2⟩
 | o::r,b,acc,I,K,h=>by
  unfold RunG at h;obtain ⟨b',rd,tk,e,h1,h2⟩:=xo5 h;exact ⟨_,_,_,h1,RunG.runD r b' _ _ K h2⟩
def w4w (next:Bool->List AV->Prop) (Q:Exit->Bool->List AV->Prop):Exit->Bool->List AV->Prop
 | .normal=>next
 | .exit id=>Q (.exit id)
 | .goto l=>Q (.goto l)
 | .ret=>Q .ret
 | .panic c=>Q (.panic c)
 | .outgrown=>Q .outgrown
def w6d (id:Nat) (Q:Exit->Bool->List AV->Prop):Exit->Bool->List AV->Prop
 | .normal=>Q .normal
 | .exit j=>if j=id then Q .normal else Q (.exit j)
 | .goto l=>Q (.goto l)
 | .ret=>Q .ret
 | .panic c=>Q (.panic c)
 | .outgrown=>Q .outgrown
def outQ (Q:Exit->Bool->List AV->Prop):Exit->List AV->Prop:=fun e I=>∃ b,Q e b I
def vvr (P:Program) (_G:List (Nat×List Gh)) (c:Code) (Q:Exit->Bool->List AV->Prop) (I:List AV):Prop:=vy2 P (.loop c) (outQ Q) I
def va1 (P:Program) (k:Bool->Prop):Prop:=P.follows .mixedOrders=true/\k true
def vh9 (_:Program) (c:Operand) (I:List AV) (X Y:Bool->Prop):AV->Prop
 | .one (.raw (.bool p))=>x29 p X Y
 | _=>BadC c I
def ghOf:List (Nat×List Gh)->Nat->List Gh
 | [],_=>[]
 | (i,l)::r,j=>if i=j then l else ghOf r j
def wu4:Code->Option Nat
 | .region id _ _=>some id
 | .seq x _=>wu4 x
 | .block _ x=>wu4 x
 | .loop x=>wu4 x
 | _=>none
def wps:List Gh->Bool
 | []=>false
 | .join::_=>true
 | .frz _::r=>wps r
 | .any _::r=>wps r
 | .mv _ _::r=>wps r
 | .lit::r=>wps r
def wgd:List Gh->Bool
 | []=>false
 | .lit::_=>true
 | .frz _::r=>wgd r
 | .any _::r=>wgd r
 | .mv _ _::r=>wgd r
 | .join::r=>wgd r
def vre:List (Nat×List Gh)->Code->Bool
 | [],_=>false
 | g::G,y=>match wu4 y with
  | some id=>wps (ghOf (g::G) id)
  | none=>false
def zrn (P:Program) (_G:List (Nat×List Gh)) (x y:Code) (Q:Exit->Bool->List AV->Prop) (I:List AV):Prop:=vy2 P (.seq x y) (outQ Q) I
def seqF (c:Bool) (A B:Bool->Prop):Prop:=match c with
 | true=>A true
 | false=>B true
def RC (P:Program) (G:List (Nat×List Gh)):Code->Bool->(Exit->Bool->List AV->Prop)->List AV->Prop
 | .skip,b,Q,I=>Q .normal b I
 | .region id ops false,b,Q,I=>RunF P (wgd (ghOf G id)) ops.toList b ops.toList (ghL (ghOf G id) I) (Q .normal)
 | .region id ops true,b,Q,I=>va1 P (fun _=>RunG P (wgd (ghOf G id)) ops.toList (ghL (ghOf G id) I) b ops.toList [] (ghL (ghOf G id) I) (Q .normal))
 | .seq x y,b,Q,I=>seqF (vre G y) (fun _=>zrn P G x y Q I) (fun _=>RC P G x b (w4w (fun b I=>RC P G y b Q I) Q) I)
 | .cond c x y,_,Q,I=>vh9 P c I (fun b=>RC P G x b Q I) (fun b=>RC P G y b Q I) (opd I c)
 | .block id x,b,Q,I=>RC P G x b (w6d id Q) I
 | .loop x,_,Q,I=>vvr P G x Q I
 | .exit id,b,Q,I=>Q (.exit id) b I
 | .ret,b,Q,I=>Q .ret b I
 | _,_,_,_=>False
end Go.Slot
namespace Go.Slot
open Go Go.RowKit
variable {P:Program} {G:List (Nat×List Gh)}
variable {f:FuncId} {fn:Func} {res out:AV} {j id:Nat} {b c':Bool} {I σ0:List AV} {rd tk:List Nat} {e:List (Nat×AV)} {r l ops:List Oper} {ov:OV} {α:Type} {Q:Exit->Bool->List AV->Prop} {x y K:Bool->List AV->Prop} {A B X Y:Bool->Prop} {o:Oper} {rs:List ResultVar}
theorem RC.sound:∀(c:Code) (b:Bool) (Q:Exit->Bool->List AV->Prop) (I:List AV),RC P G c b Q I->vy2 P c (outQ Q) I:=by
 intro c
 induction c with
 | skip=>intro b Q I h;exact wt7 ⟨b,h⟩
 | region id ops dr=>
  intro b Q I h
  cases dr with
  | false=>exact vy2.le (StLe.ghL _ _) (xls (RunF.run _ b _ _ h))
  | true=>exact vy2.le (StLe.ghL _ _) (we5 h.1 (RunG.runD _ b [] _ _ h.2))
 | seq x y ihx ihy=>
  intro b Q I h;have h:seqF (vre G y) (fun _=>zrn P G x y Q I) (fun _=>RC P G x b (w4w (fun b I=>RC P G y b Q I) Q) I):=h
  cases hj:vre G y with
  | true=>rw [hj] at h;exact h
  | false=>
  rw [hj] at h;have h:RC P G x b (w4w (fun b I=>RC P G y b Q I) Q) I:=h;refine zyx ((ihx b _ I h).mono ?_);intro e I' ⟨b',h'⟩
  cases e with
  | normal=>exact ihy b' Q I' h'
  | _=>exact ⟨b',h'⟩
 | cond c x y ihx ihy=>
  intro b Q I h;unfold RC vh9 at h;split at h
  . rename_i p hp;exact v06 hp (fun hb=>ihx _ _ _ (h.1 hb)) (fun hb=>ihy _ _ _ (h.2 hb))
  . exact h.elim
 | block id x ih=>
  intro b Q I h;refine wnx ((ih b _ I h).mono ?_);intro e I' ⟨b',h'⟩
  cases e with
  | exit j=>
   show xi9 id (outQ Q) (.exit j) I';unfold w6d at h';unfold xi9;simp only at h' ⊢;split at h'
   . rename_i hj;simp only [hj];exact ⟨b',h'⟩
   . rename_i hj;simp only [hj];exact ⟨b',h'⟩
  | _=>exact ⟨b',h'⟩
 | loop x ih=>intro b Q I h;exact h
 | exit id=>intro b Q I h;exact vpl ⟨b,h⟩
 | ret=>intro b Q I h;exact xgm ⟨b,h⟩
 | _=>intro b Q I h;exact h.elim
def retC (P:Program) (rs:List ResultVar) (res:AV):Exit->Bool->List AV->Prop
 | .ret,_,I | .normal,_,I=>∃ av,ylc P I rs=some av/\RLe av res
 | _,_,_=>False
theorem yn2.run (G:List (Nat×List Gh)) {c:Code} {args:List AV} (hf:P.funcs[f]? = some fn) (hb:fn.body=some c) (hname:(fn.name == "runtime.NumGoroutine")=false)
 (h:RC P G c true (retC P fn.results.toList res) (zyh (args++List.replicate (fn.ntmps-args.length) .undef))):yn2 P f args res:=by
 rw [wbd] at h;refine yn2.of hf hb hname ((RC.sound c true _ _ h).mono ?_);intro e I ⟨b,h⟩
 cases e with
 | normal=>exact h
 | ret=>exact h
 | _=>exact h.elim
def v0u (P:Program) (rs:List ResultVar) (j:Nat) (out res:AV):Exit->Bool->List AV->Prop
 | .ret,_,I | .normal,_,I=>retX P rs j out res .ret I
 | _,_,_=>False
theorem wmo.run (G:List (Nat×List Gh)) {c:Code} {args:List AV} (hf:P.funcs[f]? = some fn) (hb:fn.body=some c) (hname:(fn.name == "runtime.NumGoroutine")=false)
 (hnt:∀ t,¬out.vjg t) (h:RC P G c true (v0u P fn.results.toList j out res) (zyh (args++List.replicate (fn.ntmps-args.length) .undef))):wmo P f args j out res:=by
 rw [wbd] at h;refine wmo.of hf hb hname hnt ((RC.sound c true _ _ h).mono ?_);intro e I ⟨b,h⟩
 cases e with
 | normal=>exact h
 | ret=>exact h
 | _=>exact h.elim
theorem yn2.le {f:FuncId} {args:List AV} {res res':AV} (h:yn2 P f args res) (hle:RLe res res'):yn2 P f args res':=
 ⟨h.1,fun M w vs hM hr=>(h.2 M w vs hM hr).mono (fun _ _ ⟨v,h1,h2,h3,h4⟩=>⟨v,h1,h2,h3.le hle,fun hh=>h4 (hle.vy8 hh)⟩)⟩
abbrev U {α:Type} (_:α):Type:=Unit
def hide {α:Type} (f:α) (_:U f):α:=f
theorem y23 {f:Bool->Prop} {u:U f}:hide f u b=f b:=_root_.id rfl
theorem xrm {f:Bool->List AV->Prop} {u:U f}:hide f u b I=f b I:=_root_.id rfl
theorem wqf {f:Bool->List Nat->List Nat->List (Nat×AV)->Prop} {u:U f}:hide f u b rd tk e=f b rd tk e:=_root_.id rfl
theorem yqr {f:Bool->AV->Prop} {u:U f} {r:AV}:hide f u b r=f b r:=_root_.id rfl
theorem xa2 {f:Bool->OV->AV->Prop} {u:U f} {n:OV} {r:AV}:hide f u b n r=f b n r:=_root_.id rfl
def nrm (I:List AV):List AV:=I
theorem wlf {a:AV}:nrm (a::I)=a::I:=_root_.id rfl
theorem xm7 {a0 a1 a2 a3 a4 a5 a6 a7 a8 a9 a10 a11 a12 a13 a14 a15:AV} {r:List AV}:nrm (ch a0 a1 a2 a3 a4 a5 a6 a7 a8 a9 a10 a11 a12 a13 a14 a15 r)=ch a0 a1 a2 a3 a4 a5 a6 a7 a8 a9 a10 a11 a12 a13 a14 a15 r:=_root_.id rfl
def nrmR (l:List SR):List SR:=l
theorem wvl:nrmR []=[]:=_root_.id rfl
theorem xed {a:SR} {l:List SR}:nrmR (a::l)=a::l:=_root_.id rfl
def tick {α:Type} (x:α):α:=x
theorem x3h:tick true=true:=_root_.id rfl
theorem wz7:tick false=false:=_root_.id rfl
theorem yvo:tick GR.plain=GR.plain:=_root_.id rfl
theorem znh {d:Nat} {c:Bool}:tick (GR.when d c b)=GR.when d c b:=_root_.id rfl
theorem z0a {d:Nat}:tick (GR.skip d)=GR.skip d:=_root_.id rfl
theorem y0y:tick (OR.eff rd tk e)=OR.eff rd tk e:=_root_.id rfl
theorem yom {l:List AV}:tick (OR.call f l rd)=OR.call f l rd:=_root_.id rfl
theorem yne {l:List AV} {s:Nat}:tick (OR.own f l j s ov rd)=OR.own f l j s ov rd:=_root_.id rfl
theorem z1e {c:Cell}:tick (AV.one c)=AV.one c:=_root_.id rfl
theorem xyc {c:Code} (ch:α->List (Nat×AV)) (pre:α->Prop) (μ:α->Nat) (x0:α) (h0:pre x0) (hle:StLe I (app (ch x0) I))
 (round:∀ x,pre x->RC P G c true (w4w (hide (fun _ I'=>∃ y,pre y/\μ y<μ x/\StLe I' (app (ch y) I)) ()) Q) (app (ch x) I)):vvr P G c Q I:=
 yd1 (fun x=>app (ch x) I) pre μ x0 h0 hle (fun x hx=>(RC.sound c true _ _ (round x hx)).mono (fun e I' ⟨b,h⟩=>by
  cases e with
  | normal=>exact h
  | _=>exact ⟨b,h⟩))
theorem vxs {c:Code} (keep:List Nat) (ch:α->List (Nat×AV)) (pre:α->Prop) (μ:α->Nat) (x0:α) (h0:pre x0) (hle:StLe I (app (ch x0) (zjk keep I)))
 (round:∀ x,pre x->RC P G c true (w4w (hide (fun _ I'=>∃ y,pre y/\μ y<μ x/\StLe I' (app (ch y) (zjk keep I))) ()) Q) (zyh (app (ch x) (zjk keep I)))):vvr P G c Q I:=
 yd1 (fun x=>app (ch x) (zjk keep I)) pre μ x0 h0 hle (fun x hx=>(RC.sound c true _ _ (wbd (app (ch x) (zjk keep I))▸round x hx)).mono (fun e I' ⟨b,h⟩=>by
  cases e with
  | normal=>exact h
  | _=>exact ⟨b,h⟩))
theorem zu4 {x y:Code} (keep:List Nat) (ch:α->List (Nat×AV)) (pre:α->Prop)
 (hx:RC P G x true (w4w (hide (fun _ I'=>∃ a,pre a/\StLe I' (app (ch a) (zjk keep I))) ()) Q) I)
 (hy:∀ a,pre a->RC P G y true Q (zyh (app (ch a) (zjk keep I)))):zrn P G x y Q I:=
 zyx ((RC.sound x true _ _ hx).mono (fun e I' ⟨b,h⟩=>by
  cases e with
  | normal=>
   obtain ⟨a,h1,h2⟩:=h;exact vy2.le h2 (RC.sound y true _ _ (wbd (app (ch a) (zjk keep I))▸hy a h1))
  | _=>exact ⟨b,h⟩))
def selE (c:Bool) (x y:Bool->List AV->Prop):Bool->List AV->Prop:=match c with
 | true=>x
 | false=>y
theorem v8t:RC P G .skip true Q I=Q .normal true I:=_root_.id rfl
def ltF (c:Bool) (A:Bool->Prop):Prop:=A c
theorem vdg:ltF true A=A true:=_root_.id rfl
theorem y5s:ltF false A=A false:=_root_.id rfl
theorem zrv {c:Bool} (h:c=c'):ltF c A=ltF c' A:=by rw [h]
theorem yxj:RC P G (.region id l.toArray false) true Q I=ltF (tick (wgd (ghOf G id))) (hide (fun lt=>RunF P lt l true l (nrm (ghL (ghOf G id) I)) (Q .normal)) ()):=_root_.id rfl
theorem z2r:RC P G (.region id l.toArray true) true Q I=va1 P (hide (fun _=>ltF (tick (wgd (ghOf G id))) (hide (fun lt=>RunG P lt l (ghL (ghOf G id) I) true l (nrmR []) (nrm (ghL (ghOf G id) I)) (Q .normal)) ())) ()):=_root_.id rfl
theorem vef {x y:Code}:RC P G (.seq x y) true Q I=seqF (tick (vre G y)) (hide (fun _=>zrn P G x y Q I) ()) (hide (fun _=>RC P G x true (w4w (hide (fun b I=>RC P G y b Q I) ()) Q) I) ()):=_root_.id rfl
theorem wen:seqF true A B=A true:=_root_.id rfl
theorem xme:seqF false A B=B true:=_root_.id rfl
theorem yu3 {c:Bool} (h:c=c'):seqF c A B=seqF c' A B:=by rw [h]
theorem wzo {x y:Code} {I':List AV} (h:I=I'):zrn P G x y Q I=zrn P G x y Q I':=by rw [h]
theorem zc6 {c:Operand} {x y:Code}:RC P G (.cond c x y) true Q I=vh9 P c I (hide (fun b=>RC P G x b Q I) ()) (hide (fun b=>RC P G y b Q I) ()) (tick (opd I c)):=_root_.id rfl
theorem xqb {x:Code}:RC P G (.block id x) true Q I=RC P G x true (w6d id Q) I:=_root_.id rfl
theorem x8a {x:Code}:RC P G (.loop x) true Q I=vvr P G x Q I:=_root_.id rfl
theorem wu5:RC P G (.exit id) true Q I=Q (.exit id) true I:=_root_.id rfl
theorem vmw:RC P G .ret true Q I=Q .ret true I:=_root_.id rfl
theorem x5u {lt:Bool}:RunF P lt ops true [] I K=K true I:=_root_.id rfl
theorem wa5 {lt:Bool}:RunF P lt ops true (o::r) I K=gdF P lt (tick (vhy ops I o)) o I true (hide (fun b _ _ e=>RunF P lt ops b r (nrm (app e I)) K) ()):=_root_.id rfl
theorem yvg {lt:Bool} {acc:List SR}:RunG P lt ops σ0 true [] acc I K=IndK ops acc σ0 (hide (fun b=>K b I) ()):=_root_.id rfl
theorem w2d {lt:Bool} {acc:List SR}:RunG P lt ops σ0 true (o::r) acc I K=gdF P lt (tick (vhy ops I o)) o I true (hide (fun b rd tk e=>RunG P lt ops σ0 b r (nrmR (acc++[⟨rd,tk,e⟩])) (nrm (app e I)) K) ()):=_root_.id rfl
section
variable {next:Bool->List AV->Prop} {Q:Exit->Bool->List AV->Prop}
theorem wka:w4w next Q .normal=next:=_root_.id rfl
theorem y24:w4w next Q (.exit id)=Q (.exit id):=_root_.id rfl
theorem wpv:w4w next Q .ret=Q .ret:=_root_.id rfl
theorem zz5:w6d id Q .normal=Q .normal:=_root_.id rfl
theorem x70:w6d id Q (.exit j)=selE (j==id) (Q .normal) (Q (.exit j)):=by
 have h:w6d id Q (.exit j)=if j=id then Q .normal else Q (.exit j):=rfl
 rw [h];unfold selE;by_cases e:j=id
 . rw [if_pos e,show (j==id)=true from by simp [e]]
 . rw [if_neg e,show (j==id)=false from by simp [e]]
theorem ytv:selE true x y=x:=rfl
theorem v8r:selE false x y=y:=rfl
theorem w4y {c:Bool} (h:c=c'):selE c x y=selE c' x y:=by rw [h]
theorem vo0:w6d id Q .ret=Q .ret:=_root_.id rfl
end
section
variable {o:Oper} {I:List AV} {b:Bool} {k:Bool->List Nat->List Nat->List (Nat×AV)->Prop} {rd tk:List Nat} {e:List (Nat×AV)} {f:FuncId} {args:List AV}
theorem z8f:doF P (.eff rd tk e) o I b k=k b rd tk e:=_root_.id rfl
theorem x88:doF P (.call f args rd) o I b k=zqq P f args (hide (fun b res=>k b rd [] (x93 o res)) ()):=_root_.id rfl
theorem xc9 {l:List AV} {s:Nat}:doF P (.own f l j s ov rd) o I b k=OwnK P f l j ov (hide (fun b new res=>ownF o I s rd k b (vpn (gt I s) ov new) (y47 s ov res)) ()):=_root_.id rfl
theorem zgu {s:Nat} {nw r:AV}:ownF o I s rd k b (some nw) (some r)=k b rd [] ((s,nw)::x93 o r):=_root_.id rfl
theorem zb7 {d:Nat}:onD d o I k b rd [] e=k b (d::rd) [] e:=_root_.id rfl
theorem vny {lt:Bool}:gdF P lt .plain o I b k=doF P (tick (opA P lt I o)) o I b k:=_root_.id rfl
theorem zwv {lt:Bool} {d:Nat} {c b':Bool}:gdF P lt (.when d c b') o I b k=x4q c b' (hide (fun b=>doF P (tick (opA P lt I o)) o I b (hide (fun b rd tk e=>onD d o I k b rd tk e) ())) ()) (hide (fun b=>yiq I o d b k) ()):=_root_.id rfl
theorem wwq {lt:Bool} {d:Nat}:gdF P lt (.skip d) o I b k=yiq I o d b k:=_root_.id rfl
end
theorem zfq:x4q true true X Y=X true:=by simp [x4q]
theorem xsl:x4q false false X Y=X true:=by simp [x4q]
theorem wlk:x4q true false X Y=Y true:=by simp [x4q]
theorem vv3:x4q false true X Y=Y true:=by simp [x4q]
theorem zpe:x29 true X Y=X true:=by simp [x29]
theorem vey:x29 false X Y=Y true:=by simp [x29]
theorem xx2 {c:Operand} {p:Bool}:vh9 P c I X Y (.one (.raw (.bool p)))=x29 p X Y:=_root_.id rfl
theorem wu6:retC P rs res .ret b I=∃ av,ylc P I rs=some av/\RLe av res:=_root_.id rfl
theorem yju:v0u P rs j out res .ret b I=retX P rs j out res .ret I:=_root_.id rfl
section
variable {o o':Oper} {I I':List AV} {b:Bool} {k:Bool->List Nat->List Nat->List (Nat×AV)->Prop}
theorem z8u {x x':OR} (h:x=x'):doF P x o I b k=doF P x' o I b k:=by rw [h]
theorem ztp {c:Bool} (h:c=c'):x4q c b X Y=x4q c' b X Y:=by rw [h]
theorem zhc {c:Bool} (h:c=c'):x29 c X Y=x29 c' X Y:=by rw [h]
theorem xkf {s:Nat} {a a' r r':Option AV} (h:a=a') (h2:r=r'):ownF o I s rd k b a r=ownF o I s rd k b a' r':=by rw [h,h2]
theorem ydm {lt:Bool} (h:I=I'):RunF P lt ops b l I K=RunF P lt ops b l I' K:=by rw [h]
theorem xwc {lt:Bool} {acc acc':List SR} (ha:acc=acc') (h:I=I'):RunG P lt ops σ0 b l acc I K=RunG P lt ops σ0 b l acc' I' K:=by rw [h,ha]
end
end Go.Slot
namespace Go.Slot
open Go Go.RowKit
variable {P:Program}
variable {a q:Prop} {I:List AV} {i:Nat} {k:IntKind} {b:Bool} {f:FuncId} {α β:Type} {X Y:Bool->Prop}
theorem z7u {a:AV}:gt (a::I) 0=a:=rfl
theorem x7v {a:AV} {n:Nat}:gt (a::I) (n+1)=gt I n:=rfl
theorem ypr {a:AV}:nh (a::I) 0 = !a.vy8:=rfl
theorem v70 {a:AV} {n:Nat}:nh (a::I) (n+1)=nh I n:=rfl
section
variable {a0 a1 a2 a3 a4 a5 a6 a7 a8 a9 a10 a11 a12 a13 a14 a15 x:AV} {r:List AV} {n:Nat}
theorem xio:gt (ch a0 a1 a2 a3 a4 a5 a6 a7 a8 a9 a10 a11 a12 a13 a14 a15 r) 0=a0:=rfl
theorem znw:nh (ch a0 a1 a2 a3 a4 a5 a6 a7 a8 a9 a10 a11 a12 a13 a14 a15 r) 0 = !a0.vy8:=rfl
theorem xvc:(ch a0 a1 a2 a3 a4 a5 a6 a7 a8 a9 a10 a11 a12 a13 a14 a15 r).set 0 x=ch x a1 a2 a3 a4 a5 a6 a7 a8 a9 a10 a11 a12 a13 a14 a15 r:=rfl
theorem w2z:gt (ch a0 a1 a2 a3 a4 a5 a6 a7 a8 a9 a10 a11 a12 a13 a14 a15 r) 1=a1:=rfl
theorem zly:nh (ch a0 a1 a2 a3 a4 a5 a6 a7 a8 a9 a10 a11 a12 a13 a14 a15 r) 1 = !a1.vy8:=rfl
theorem xgh:(ch a0 a1 a2 a3 a4 a5 a6 a7 a8 a9 a10 a11 a12 a13 a14 a15 r).set 1 x=ch a0 x a2 a3 a4 a5 a6 a7 a8 a9 a10 a11 a12 a13 a14 a15 r:=rfl
theorem wqs:gt (ch a0 a1 a2 a3 a4 a5 a6 a7 a8 a9 a10 a11 a12 a13 a14 a15 r) 2=a2:=rfl
theorem y84:nh (ch a0 a1 a2 a3 a4 a5 a6 a7 a8 a9 a10 a11 a12 a13 a14 a15 r) 2 = !a2.vy8:=rfl
theorem y0x:(ch a0 a1 a2 a3 a4 a5 a6 a7 a8 a9 a10 a11 a12 a13 a14 a15 r).set 2 x=ch a0 a1 x a3 a4 a5 a6 a7 a8 a9 a10 a11 a12 a13 a14 a15 r:=rfl
theorem x3l:gt (ch a0 a1 a2 a3 a4 a5 a6 a7 a8 a9 a10 a11 a12 a13 a14 a15 r) 3=a3:=rfl
theorem z0s:nh (ch a0 a1 a2 a3 a4 a5 a6 a7 a8 a9 a10 a11 a12 a13 a14 a15 r) 3 = !a3.vy8:=rfl
theorem x48:(ch a0 a1 a2 a3 a4 a5 a6 a7 a8 a9 a10 a11 a12 a13 a14 a15 r).set 3 x=ch a0 a1 a2 x a4 a5 a6 a7 a8 a9 a10 a11 a12 a13 a14 a15 r:=rfl
theorem z5g:gt (ch a0 a1 a2 a3 a4 a5 a6 a7 a8 a9 a10 a11 a12 a13 a14 a15 r) 4=a4:=rfl
theorem yrg:nh (ch a0 a1 a2 a3 a4 a5 a6 a7 a8 a9 a10 a11 a12 a13 a14 a15 r) 4 = !a4.vy8:=rfl
theorem vja:(ch a0 a1 a2 a3 a4 a5 a6 a7 a8 a9 a10 a11 a12 a13 a14 a15 r).set 4 x=ch a0 a1 a2 a3 x a5 a6 a7 a8 a9 a10 a11 a12 a13 a14 a15 r:=rfl
theorem yfr:gt (ch a0 a1 a2 a3 a4 a5 a6 a7 a8 a9 a10 a11 a12 a13 a14 a15 r) 5=a5:=rfl
theorem v8p:nh (ch a0 a1 a2 a3 a4 a5 a6 a7 a8 a9 a10 a11 a12 a13 a14 a15 r) 5 = !a5.vy8:=rfl
theorem zg7:(ch a0 a1 a2 a3 a4 a5 a6 a7 a8 a9 a10 a11 a12 a13 a14 a15 r).set 5 x=ch a0 a1 a2 a3 a4 x a6 a7 a8 a9 a10 a11 a12 a13 a14 a15 r:=rfl
theorem w3f:gt (ch a0 a1 a2 a3 a4 a5 a6 a7 a8 a9 a10 a11 a12 a13 a14 a15 r) 6=a6:=rfl
theorem x9x:nh (ch a0 a1 a2 a3 a4 a5 a6 a7 a8 a9 a10 a11 a12 a13 a14 a15 r) 6 = !a6.vy8:=rfl
theorem xb5:(ch a0 a1 a2 a3 a4 a5 a6 a7 a8 a9 a10 a11 a12 a13 a14 a15 r).set 6 x=ch a0 a1 a2 a3 a4 a5 x a7 a8 a9 a10 a11 a12 a13 a14 a15 r:=rfl
theorem vo1:gt (ch a0 a1 a2 a3 a4 a5 a6 a7 a8 a9 a10 a11 a12 a13 a14 a15 r) 7=a7:=rfl
theorem xd5:nh (ch a0 a1 a2 a3 a4 a5 a6 a7 a8 a9 a10 a11 a12 a13 a14 a15 r) 7 = !a7.vy8:=rfl
theorem w5i:(ch a0 a1 a2 a3 a4 a5 a6 a7 a8 a9 a10 a11 a12 a13 a14 a15 r).set 7 x=ch a0 a1 a2 a3 a4 a5 a6 x a8 a9 a10 a11 a12 a13 a14 a15 r:=rfl
theorem zfg:gt (ch a0 a1 a2 a3 a4 a5 a6 a7 a8 a9 a10 a11 a12 a13 a14 a15 r) 8=a8:=rfl
theorem ww3:nh (ch a0 a1 a2 a3 a4 a5 a6 a7 a8 a9 a10 a11 a12 a13 a14 a15 r) 8 = !a8.vy8:=rfl
theorem ym1:(ch a0 a1 a2 a3 a4 a5 a6 a7 a8 a9 a10 a11 a12 a13 a14 a15 r).set 8 x=ch a0 a1 a2 a3 a4 a5 a6 a7 x a9 a10 a11 a12 a13 a14 a15 r:=rfl
theorem zn7:gt (ch a0 a1 a2 a3 a4 a5 a6 a7 a8 a9 a10 a11 a12 a13 a14 a15 r) 9=a9:=rfl
theorem zga:nh (ch a0 a1 a2 a3 a4 a5 a6 a7 a8 a9 a10 a11 a12 a13 a14 a15 r) 9 = !a9.vy8:=rfl
theorem y04:(ch a0 a1 a2 a3 a4 a5 a6 a7 a8 a9 a10 a11 a12 a13 a14 a15 r).set 9 x=ch a0 a1 a2 a3 a4 a5 a6 a7 a8 x a10 a11 a12 a13 a14 a15 r:=rfl
theorem x2d:gt (ch a0 a1 a2 a3 a4 a5 a6 a7 a8 a9 a10 a11 a12 a13 a14 a15 r) 10=a10:=rfl
theorem zzh:nh (ch a0 a1 a2 a3 a4 a5 a6 a7 a8 a9 a10 a11 a12 a13 a14 a15 r) 10 = !a10.vy8:=rfl
theorem xo0:(ch a0 a1 a2 a3 a4 a5 a6 a7 a8 a9 a10 a11 a12 a13 a14 a15 r).set 10 x=ch a0 a1 a2 a3 a4 a5 a6 a7 a8 a9 x a11 a12 a13 a14 a15 r:=rfl
theorem vei:gt (ch a0 a1 a2 a3 a4 a5 a6 a7 a8 a9 a10 a11 a12 a13 a14 a15 r) 11=a11:=rfl
theorem zmn:nh (ch a0 a1 a2 a3 a4 a5 a6 a7 a8 a9 a10 a11 a12 a13 a14 a15 r) 11 = !a11.vy8:=rfl
theorem xy7:(ch a0 a1 a2 a3 a4 a5 a6 a7 a8 a9 a10 a11 a12 a13 a14 a15 r).set 11 x=ch a0 a1 a2 a3 a4 a5 a6 a7 a8 a9 a10 x a12 a13 a14 a15 r:=rfl
theorem zdo:gt (ch a0 a1 a2 a3 a4 a5 a6 a7 a8 a9 a10 a11 a12 a13 a14 a15 r) 12=a12:=rfl
theorem yk8:nh (ch a0 a1 a2 a3 a4 a5 a6 a7 a8 a9 a10 a11 a12 a13 a14 a15 r) 12 = !a12.vy8:=rfl
theorem yx3:(ch a0 a1 a2 a3 a4 a5 a6 a7 a8 a9 a10 a11 a12 a13 a14 a15 r).set 12 x=ch a0 a1 a2 a3 a4 a5 a6 a7 a8 a9 a10 a11 x a13 a14 a15 r:=rfl
theorem xf3:gt (ch a0 a1 a2 a3 a4 a5 a6 a7 a8 a9 a10 a11 a12 a13 a14 a15 r) 13=a13:=rfl
theorem vq7:nh (ch a0 a1 a2 a3 a4 a5 a6 a7 a8 a9 a10 a11 a12 a13 a14 a15 r) 13 = !a13.vy8:=rfl
theorem x26:(ch a0 a1 a2 a3 a4 a5 a6 a7 a8 a9 a10 a11 a12 a13 a14 a15 r).set 13 x=ch a0 a1 a2 a3 a4 a5 a6 a7 a8 a9 a10 a11 a12 x a14 a15 r:=rfl
theorem vy3:gt (ch a0 a1 a2 a3 a4 a5 a6 a7 a8 a9 a10 a11 a12 a13 a14 a15 r) 14=a14:=rfl
theorem xnv:nh (ch a0 a1 a2 a3 a4 a5 a6 a7 a8 a9 a10 a11 a12 a13 a14 a15 r) 14 = !a14.vy8:=rfl
theorem yur:(ch a0 a1 a2 a3 a4 a5 a6 a7 a8 a9 a10 a11 a12 a13 a14 a15 r).set 14 x=ch a0 a1 a2 a3 a4 a5 a6 a7 a8 a9 a10 a11 a12 a13 x a15 r:=rfl
theorem xs3:gt (ch a0 a1 a2 a3 a4 a5 a6 a7 a8 a9 a10 a11 a12 a13 a14 a15 r) 15=a15:=rfl
theorem xgf:nh (ch a0 a1 a2 a3 a4 a5 a6 a7 a8 a9 a10 a11 a12 a13 a14 a15 r) 15 = !a15.vy8:=rfl
theorem wh8:(ch a0 a1 a2 a3 a4 a5 a6 a7 a8 a9 a10 a11 a12 a13 a14 a15 r).set 15 x=ch a0 a1 a2 a3 a4 a5 a6 a7 a8 a9 a10 a11 a12 a13 a14 x r:=rfl
theorem vm8:gt (ch a0 a1 a2 a3 a4 a5 a6 a7 a8 a9 a10 a11 a12 a13 a14 a15 r) (n+16)=gt r n:=rfl
theorem v2u:nh (ch a0 a1 a2 a3 a4 a5 a6 a7 a8 a9 a10 a11 a12 a13 a14 a15 r) (n+16)=nh r n:=rfl
theorem zo1:(ch a0 a1 a2 a3 a4 a5 a6 a7 a8 a9 a10 a11 a12 a13 a14 a15 r).set (n+16) x=ch a0 a1 a2 a3 a4 a5 a6 a7 a8 a9 a10 a11 a12 a13 a14 a15 (r.set n x):=rfl
theorem vn8:zyh (a0::a1::a2::a3::a4::a5::a6::a7::a8::a9::a10::a11::a12::a13::a14::a15::r)=ch a0 a1 a2 a3 a4 a5 a6 a7 a8 a9 a10 a11 a12 a13 a14 a15 (zyh r):=rfl
theorem x7p:zyh (ch a0 a1 a2 a3 a4 a5 a6 a7 a8 a9 a10 a11 a12 a13 a14 a15 r)=ch a0 a1 a2 a3 a4 a5 a6 a7 a8 a9 a10 a11 a12 a13 a14 a15 (zyh r):=rfl
theorem x1y:zyh []=[]:=rfl
theorem xdo:zyh [a0]=[a0]:=rfl
theorem vlj:zyh [a0,a1]=[a0,a1]:=rfl
theorem zt5:zyh [a0,a1,a2]=[a0,a1,a2]:=rfl
theorem xj8:zyh [a0,a1,a2,a3]=[a0,a1,a2,a3]:=rfl
theorem wmp:zyh [a0,a1,a2,a3,a4]=[a0,a1,a2,a3,a4]:=rfl
theorem y69:zyh [a0,a1,a2,a3,a4,a5]=[a0,a1,a2,a3,a4,a5]:=rfl
theorem we7:zyh [a0,a1,a2,a3,a4,a5,a6]=[a0,a1,a2,a3,a4,a5,a6]:=rfl
theorem wop:zyh [a0,a1,a2,a3,a4,a5,a6,a7]=[a0,a1,a2,a3,a4,a5,a6,a7]:=rfl
theorem vcc:zyh [a0,a1,a2,a3,a4,a5,a6,a7,a8]=[a0,a1,a2,a3,a4,a5,a6,a7,a8]:=rfl
theorem vx1:zyh [a0,a1,a2,a3,a4,a5,a6,a7,a8,a9]=[a0,a1,a2,a3,a4,a5,a6,a7,a8,a9]:=rfl
theorem ya8:zyh [a0,a1,a2,a3,a4,a5,a6,a7,a8,a9,a10]=[a0,a1,a2,a3,a4,a5,a6,a7,a8,a9,a10]:=rfl
theorem xb4:zyh [a0,a1,a2,a3,a4,a5,a6,a7,a8,a9,a10,a11]=[a0,a1,a2,a3,a4,a5,a6,a7,a8,a9,a10,a11]:=rfl
theorem won:zyh [a0,a1,a2,a3,a4,a5,a6,a7,a8,a9,a10,a11,a12]=[a0,a1,a2,a3,a4,a5,a6,a7,a8,a9,a10,a11,a12]:=rfl
theorem vsp:zyh [a0,a1,a2,a3,a4,a5,a6,a7,a8,a9,a10,a11,a12,a13]=[a0,a1,a2,a3,a4,a5,a6,a7,a8,a9,a10,a11,a12,a13]:=rfl
theorem xyg:zyh [a0,a1,a2,a3,a4,a5,a6,a7,a8,a9,a10,a11,a12,a13,a14]=[a0,a1,a2,a3,a4,a5,a6,a7,a8,a9,a10,a11,a12,a13,a14]:=rfl
theorem vzx {tk:List Nat}:zrx tk i (ch a0 a1 a2 a3 a4 a5 a6 a7 a8 a9 a10 a11 a12 a13 a14 a15 r)=zrx tk i (a0::a1::a2::a3::a4::a5::a6::a7::a8::a9::a10::a11::a12::a13::a14::a15::r):=rfl
theorem y6c {s:Nat}:w5h s i (ch a0 a1 a2 a3 a4 a5 a6 a7 a8 a9 a10 a11 a12 a13 a14 a15 r)=w5h s i (a0::a1::a2::a3::a4::a5::a6::a7::a8::a9::a10::a11::a12::a13::a14::a15::r):=rfl
theorem w4p {s:Nat} {hv:AV}:ye6 s hv i (ch a0 a1 a2 a3 a4 a5 a6 a7 a8 a9 a10 a11 a12 a13 a14 a15 r)=ye6 s hv i (a0::a1::a2::a3::a4::a5::a6::a7::a8::a9::a10::a11::a12::a13::a14::a15::r):=rfl
theorem x75 {s:Nat}:vgm s i (ch a0 a1 a2 a3 a4 a5 a6 a7 a8 a9 a10 a11 a12 a13 a14 a15 r)=vgm s i (a0::a1::a2::a3::a4::a5::a6::a7::a8::a9::a10::a11::a12::a13::a14::a15::r):=rfl
theorem wfj {ks:List Nat}:z9t ks i (ch a0 a1 a2 a3 a4 a5 a6 a7 a8 a9 a10 a11 a12 a13 a14 a15 r)=z9t ks i (a0::a1::a2::a3::a4::a5::a6::a7::a8::a9::a10::a11::a12::a13::a14::a15::r):=rfl
end
attribute [go_sem] xio znw xvc w2z zly xgh wqs y84 y0x x3l z0s x48 z5g yrg vja yfr v8p zg7 w3f x9x xb5 vo1 xd5 w5i zfg ww3 ym1 zn7 zga y04 x2d zzh xo0 vei zmn xy7 zdo yk8 yx3 xf3 vq7 x26 vy3 xnv yur xs3 xgf wh8 vm8 v2u zo1 vn8 x7p x1y xdo vlj zt5 xj8 wmp y69 we7 wop vcc vx1 ya8 xb4 won vsp xyg vzx y6c w4p x75 wfj
theorem xty:app [] I=I:=rfl
theorem x6l {p:Nat×AV} {r:List (Nat×AV)}:app (p::r) I=app r (I.set p.1 p.2):=rfl
theorem v8n {t:Nat}:opd I (.tmp t)=gt I t:=rfl
theorem wn2 {n:Int}:opd I (.const (.int k n))=.one (.raw (.int k n)):=rfl
theorem vfr:opd I (.const (.bool b))=.one (.raw (.bool b)):=rfl
theorem w2y {s:ByteArray}:opd I (.const (.string s))=.one (.raw (.string s)):=rfl
theorem zbl {a:Option Addr} {l c:Nat}:opd I (.const (.slice a l c))=.one (.raw (.slice a l c)):=rfl
theorem ylu {vs:Array Value}:opd I (.const (.agg vs))=wx7 (.agg vs):=rfl
theorem z09:opd I (.func f)=.one (.raw (.func (.func f) #[] #[])):=rfl
theorem vut {o:Oper} {rd:List Nat} {av:AV}:val I o rd av=match o.dst with
 | some d=>if nh I d then some (d::rd,[(d,av)]) else none
 | none=>none:=rfl
theorem zws {x:List Nat×List (Nat×AV)}:OR.of (some x)=.eff x.1 [] x.2:=rfl
theorem v8q:OR.of none=.bad:=rfl
theorem ykg {s b:Nat} {z:List Cell} {sh:Sh}:TI.many ⟨s,b,z,sh⟩=if sh.agg then some true else if sh.plain then some false else none:=rfl
theorem yqx {t:TypeId} {ti:TI} (h:mkTI P t=some ti) {k:TI->OR}:zl2 P t k=k ti:=by unfold zl2;rw [h]
theorem yim {c:Prop} [Decidable c] {a b:α} (h:c):(if c then a else b)=a:=if_pos h
theorem xrz {c:Prop} [Decidable c] {a b:α} (h:¬c):(if c then a else b)=b:=if_neg h
theorem w64 {n:Int} (h:-9223372036854775808<=n/\n<=9223372036854775807):IntKind.i64.wrap n=n:=by rw [IntKind.wrap_i64];omega
theorem xha (f:α->β) (a:α):(some a).map f=some (f a):=rfl
theorem xpe (f:α->β):(none:Option α).map f=none:=rfl
theorem wjx (f:α->Option β) (a:α):(some a).bind f=f a:=rfl
theorem beqI {a b:Int}:(a==b)=decide (a=b):=rfl
theorem bneI {a b:Int}:(a != b)=decide (a≠b):=by simp [bne,beqI]
theorem z4u {p:Prop} [Decidable p] (hx:p->X true) (hy:¬p->Y true):x4q (decide p) true X Y:=⟨fun h=>hx (of_decide_eq_true h),fun h=>hy (of_decide_eq_false h)⟩
theorem xjr {p:Prop} [Decidable p] (hx:¬p->X true) (hy:p->Y true):x4q (decide p) false X Y:=⟨fun h=>hx (of_decide_eq_false h),fun h=>hy (of_decide_eq_true h)⟩
theorem xdc {a b:α}:(bif true then a else b)=a:=rfl
theorem yov {a b:α}:(bif false then a else b)=b:=rfl
attribute [go_sem 100] yim xrz
attribute [go_sem 10000] if_true if_false
attribute [go_sem] w64
attribute [go_sem] beqI bneI xdc yov
attribute [go_sem ↓] v8t yxj z2r vef zc6 xqb x8a wu5 vmw
attribute [go_sem] x5u wa5 yvg w2d wlf xm7 wvl xed
attribute [go_sem ↓] y23 xrm wqf yqr xa2
attribute [go_sem] x3h wz7 yvo znh z0a y0y yom yne z1e
attribute [go_sem ↓] wka y24 wpv zz5 x70 vo0
attribute [go_sem] ytv v8r
attribute [go_sem] z8f x88 xc9 zgu yju zb7 vny zwv wwq
attribute [go_sem] zfq xsl wlk vv3 zpe vey xx2 wu6
attribute [congr] zrv w4y yu3 wzo xkf z8u ztp zhc ydm xwc
attribute [go_sem] z7u x7v ypr v70 xty x6l v8n wn2 vfr w2y zbl ylu z09 vut zws v8q ykg
attribute [go_sem] xha xpe wjx List.set_cons_zero List.set_cons_succ Option.getD_some Option.getD_none List.getElem?_cons_zero List.getElem?_cons_succ List.getElem?_nil
attribute [go_sem] zzy z2i Cell.y7u vpn y47 ghOf ghL ghA ysb frz ye6 ypi AV.frzd Cell.sub Cell.at Cell.upd Cell.cnt Cell.esz AV.xns AV.zca AV.fresh yla AV.xb8 y42
attribute [go_sem] vdg y5s wen xme vre wu4 wps zjk z9t anyH yr1 vct isK
attribute [go_sem] opA opA0 opL selO litA litB litE isNone wgd yo1 isZc zcAt ownN ysg isX opX nilO nilV tiX valX maxV eqOp vim bbA yj0 vtr xja nilA nilC xd4 x12 xzo hitB xsc vgm wsh mvS AV.rf
attribute [go_sem] vhy yiq opB vofA vofB yy6 y6x xjd cpy v9r zj8 v7m xmq zjj wii wo5 elemAt veh abin binA aun unA xck lenC lenA y3p wlh Cell.isSl natA ytz orrO cutC w6c vzm
attribute [go_sem] wiu vn5 orrs placeOf yzs xdp chunk v8c zi5 xo9 xtc y5i ownC v22 yal wmf wlm argA x1v orrL v9o x93 yro xfw orr AV.vy8 AV.yk7 AV.vfv Sh.agg Sh.plain Cell.bare zcr wx7
attribute [go_sem] xj5 wjv ylc AV.wo7 vpo Cell.wo7 AV.vn9
attribute [go_sem] List.take_succ_cons List.take_zero List.drop_succ_cons List.drop_zero List.drop_nil List.take_nil List.length_cons List.length_nil List.cons_append List.nil_append List.append_nil List.all_cons List.all_nil List.map_cons List.map_nil
theorem bq2:(b==true)=b:=by cases b<;>rfl
theorem bq4:(b==false) = !b:=by cases b<;>rfl
theorem bq6:(b != true) = !b:=by cases b<;>rfl
theorem bq7:(false != b)=b:=by cases b<;>rfl
theorem bq8:(b != false)=b:=by cases b<;>rfl
attribute [go_sem] bq2 bq4 bq6 bq7 bq8 List.foldl_cons List.foldl_nil AV.strip Cell.strip vvn
attribute [go_sem] Bool.not_true Bool.not_false Bool.false_eq_true Bool.true_and Bool.and_true Bool.false_and Bool.and_false true_and and_true and_self cond_true cond_false not_true_eq_false not_false_eq_true
attribute [go_sem] Nat.zero_add Nat.add_zero List.drop_length List.take_length List.length_set List.length_replicate
attribute [go_sem] decide_true decide_false beq_self_eq_true bne_self_eq_false Option.toList Int.toNat_natCast List.toList_toArray
theorem rg {p:Prop} (k:q) (h:p=q:=by conv=>lhs;simp (maxSteps:=2000000) (disch:=omega) only [go_sem,Nat.reduceAdd,Nat.reduceSub,Nat.reduceMul,Int.reduceToNat,Nat.reduceEqDiff,Nat.reduceBEq,Nat.reduceBneDiff]):p:=Eq.mpr h k
theorem rgR {p:Prop} (k:q) (h:p=q:=by conv=>lhs;simp (maxSteps:=2000000) (disch:=omega) only [go_sem,Nat.reduceAdd,Nat.reduceSub,Nat.reduceMul,Int.reduceToNat,Nat.reduceEqDiff,Nat.reduceBEq,Nat.reduceBneDiff,List.replicate]):p:=Eq.mpr h k
theorem rg1 {p:Prop} (ra:a) (k:q) (h:a->p=q:=by intro z1;conv=>lhs;simp (maxSteps:=2000000) (disch:=omega) only [go_sem,Nat.reduceAdd,Nat.reduceSub,Nat.reduceMul,Int.reduceToNat,Nat.reduceEqDiff,Nat.reduceBEq,Nat.reduceBneDiff,z1]):p:=Eq.mpr (h ra) k
theorem rg2 {b p:Prop} (ra:a) (rb:b) (k:q) (h:a->b->p=q:=by intro z1 z2;conv=>lhs;simp (maxSteps:=2000000) (disch:=omega) only [go_sem,Nat.reduceAdd,Nat.reduceSub,Nat.reduceMul,Int.reduceToNat,Nat.reduceEqDiff,Nat.reduceBEq,Nat.reduceBneDiff,z1,z2]):p:=Eq.mpr (h ra rb) k
theorem rg3 {b c p:Prop} (ra:a) (rb:b) (rc:c) (k:q) (h:a->b->c->p=q:=by intro z1 z2 z3;conv=>lhs;simp (maxSteps:=2000000) (disch:=omega) only [go_sem,Nat.reduceAdd,Nat.reduceSub,Nat.reduceMul,Int.reduceToNat,Nat.reduceEqDiff,Nat.reduceBEq,Nat.reduceBneDiff,z1,z2,z3]):p:=Eq.mpr (h ra rb rc) k
theorem yn2.zrt {res:AV} (h:∀ b,yn2 P f [.one (.nn b)] res):yn2 P f [.one (.ints k [])] res:=by
 refine ⟨(h true).1,fun M w vs hM hr=>?_⟩
 match vs,hr with
 | [v],hr=>
  have hv:RdC M w v (.ints k []):=hr.1
  cases hv with
  | @ints a len cap _ _ b off hl hc ha hh=>
   subst hl;exact (h a.isNone).2 M w _ hM ⟨(RdC.nn:RdC M w (.slice a 0 cap) (.nn a.isNone)),trivial⟩
def x41 (s:ByteArray) (i:Nat):Int:=((s.data[i]?).getD 0).toNat
end Go.Slot
namespace Go.Hp
open Go Go.RowKit Go.Slot
variable {o b i:Nat} {w w':World} {α:Type} {P:Program}
inductive HC where
 | any
 | dat (c:Cell)
 | ptr (b off:Nat)
 | pel (b es i f:Nat)
 | sl (b es lo n:Nat)
 | mp (b:Nat)
 | fnr (b:Nat)
inductive SV where
 | any
 | undef
 | one (h:HC)
 | agg (hs:List HC)
 | tup (l:List SV)
 | elt (cs:List Cell)
inductive SB where
 | fresh
 | dead
 | box (hs:List HC) (T:Option TypeId)
 | arr (c:Cell) (k:Nat) (T:Option TypeId)
 | map (es:List (Value×SV))
 | clo (f:FuncId) (caps:List SV)
variable {x x':SB}
def SB.own:SB->Bool
 | .box _ _ | .arr _ _ _ | .map _=>true
 | _=>false
def SB.mut (o:Nat):SB->Prop
 | .box _ _=>True
 | .arr _ k _=>k<=o
 | _=>False
theorem SB.v7h (h:x.mut o):x.own=true:=by cases x<;>first | rfl | exact h.elim
def bk:Value->Nat
 | .map (some b)=>b
 | v=>blk v
def okB (J:List SB) (b:Nat):Prop:=∃ x,J[b]? = some x/\x≠.fresh
def real (v:Value):Prop:=v≠.pointer none
def Xb (ρ:Nat->Value) (J:List SB) (k:Nat):Prop:=∃ i x,J[i]? = some x/\x.own=true/\real (ρ i)/\bk (ρ i)=k
def MX (Mo:Nat->Nat->Prop) (ρ:Nat->Value) (J:List SB) (b o:Nat):Prop:=Mo b o\/∃ i x,J[i]? = some x/\x.mut o/\real (ρ i)/\bk (ρ i)=b
def HRd (J:List SB) (ρ:Nat->Value) (M:Nat->Nat->Prop) (w:World) (v:Value):HC->Prop
 | .any=>v.oneCell'=true
 | .dat c=>RdC M w v c
 | .ptr b off=>okB J b/\v=.pointer (some ⟨bk (ρ b),off,none⟩)
 | .pel b es i f=>okB J b/\v=.pointer (some ⟨bk (ρ b),i*es+f,none⟩)
 | .sl b es lo n=>okB J b/\∃ ad cap,v=.slice ad n cap/\n<=cap/\(cap≠0->real (ρ b)/\ad=some ⟨bk (ρ b),lo*es,none⟩/\∃(arr:Array Value) (T:TypeId) (fz:Nat×Nat),w.heap[bk (ρ b)]? = some (Obj.cells arr T fz)/\(lo+cap)*es<=arr.size)
 | .mp b=>okB J b/\v=ρ b/\v.oneCell'=true
 | .fnr b=>okB J b/\v=ρ b/\v.oneCell'=true
def HRL (J:List SB) (ρ:Nat->Value) (M:Nat->Nat->Prop) (w:World):List Value->List HC->Prop
 | [],[]=>True
 | v::vs,h::hs=>HRd J ρ M w v h/\HRL J ρ M w vs hs
 | _,_=>False
def SVR0 (J:List SB) (ρ:Nat->Value) (M:Nat->Nat->Prop) (w:World) (v:Value):SV->Prop
 | .any=>True
 | .undef=>v=Go.undef
 | .one h=>HRd J ρ M w v h
 | .agg hs=>∃ vs:List Value,v=.agg vs.toArray/\HRL J ρ M w vs hs
 | .elt cs=>∃(b off:Nat) (vs:List Value),v=.pointer (some ⟨b,off,none⟩)/\(∀ j u,vs[j]? = some u->¬M b (off+j)/\w.cell? ⟨b,off+j,none⟩=some u)/\RdD M w vs cs
 | .tup _=>False
def SRL (J:List SB) (ρ:Nat->Value) (M:Nat->Nat->Prop) (w:World):List Value->List SV->Prop
 | [],[]=>True
 | v::vs,x::l=>SVR0 J ρ M w v x/\SRL J ρ M w vs l
 | _,_=>False
def SVR (J:List SB) (ρ:Nat->Value) (M:Nat->Nat->Prop) (w:World) (v:Value):SV->Prop
 | .tup l=>∃ vs:List Value,v=.tuple vs.toArray/\SRL J ρ M w vs l
 | x=>SVR0 J ρ M w v x
def EnR (J:List SB) (ρ:Nat->Value) (M:Nat->Nat->Prop) (w:World):List MapEntry->List (Value×SV)->Prop
 | [],[]=>True
 | e::es,p::l=>(e.key=p.1/\SVR0 J ρ M w e.val p.2)/\EnR J ρ M w es l
 | _,_=>False
def SBR (J:List SB) (ρ:Nat->Value) (M:Nat->Nat->Prop) (w:World) (v:Value):SB->Prop
 | .fresh | .dead=>True
 | .box hs t=>∃(b:Nat) (vs:List Value) (T:TypeId),v=.pointer (some ⟨b,0,none⟩)/\w.heap[b]? = some (.cells vs.toArray T (0,0))/\HRL J ρ M w vs hs/\∀ t',t=some t'->T=t'
 | .arr c k t=>(c.uni/\k<=c.cnt*c.esz)/\((c.cnt=0/\v=.pointer none)\/∃(b:Nat) (vs q:List Value) (T:TypeId),v=.pointer (some ⟨b,0,none⟩)/\w.heap[b]? = some (.cells (vs++q).toArray T (0,0))/\RdD M w vs c.flat/\∀ t',t=some t'->T=t')
 | .map es=>∃(b:Nat) (ents:Array MapEntry) (clk:Nat),v=.map (some b)/\w.heap[b]? = some (.map ents clk)/\EnR J ρ M w ents.toList es
 | .clo f caps=>∃ cv:List Value,v=.func (.func f) #[] cv.toArray/\SRL J ρ M w cv caps
def Grow (w w':World):Prop:=∀(b:Nat) (arr:Array Value) (T:TypeId) (fz:Nat×Nat),w.heap[b]? = some (Obj.cells arr T fz)->∃(arr':Array Value) (T':TypeId) (fz':Nat×Nat),w'.heap[b]? = some (Obj.cells arr' T' fz')/\arr.size<=arr'.size
theorem Grow.refl (w:World):Grow w w:=fun _ arr T fz h=>⟨arr,T,fz,h,Nat.le_refl _⟩
theorem Grow.trans {a b c:World} (h:Grow a b) (k:Grow b c):Grow a c:=fun i arr T fz hi=>by
 obtain ⟨arr',T',fz',h1,h2⟩:=h i arr T fz hi;obtain ⟨arr2,T2,fz2,h3,h4⟩:=k i arr' T' fz' h1;exact ⟨arr2,T2,fz2,h3,Nat.le_trans h2 h4⟩
theorem Grow.below (h:Below w.heap.size w w'):Grow w w':=fun b arr T fz hb=>
 ⟨arr,T,fz,(h.block b (Array.getElem?_eq_some_iff.1 hb).1).trans hb,Nat.le_refl _⟩
structure Mv (J:List SB) (ρ:Nat->Value) (M:Nat->Nat->Prop) (w:World) (J':List SB) (ρ':Nat->Value) (M':Nat->Nat->Prop) (w':World):Prop where
 ok:∀ b,okB J b->okB J' b
 rho:∀ b,okB J b->ρ' b=ρ b
 keep:ya3 M M' w w'
 grow:Grow w w'
section
variable {J J':List SB} {ρ ρ':Nat->Value} {M M':Nat->Nat->Prop} {w w':World}
theorem HRd.mv (m:Mv J ρ M w J' ρ' M' w') {v:Value} {h:HC} (hr:HRd J ρ M w v h):HRd J' ρ' M' w' v h:=by
 cases h with
 | any=>exact hr
 | dat c=>exact RdC.keep m.keep hr
 | ptr b off=>exact ⟨m.ok b hr.1,by rw [m.rho b hr.1];exact hr.2⟩
 | pel b es i f=>exact ⟨m.ok b hr.1,by rw [m.rho b hr.1];exact hr.2⟩
 | sl b es lo n=>
  obtain ⟨ho,ad,cap,hv,hn,hc⟩:=hr;refine ⟨m.ok b ho,ad,cap,hv,hn,fun h0=>?_⟩;obtain ⟨hre,h1,arr,T,fz,h2,h3⟩:=hc h0;rw [m.rho b ho];obtain ⟨arr',T',fz',h4,h5⟩:=m.grow _ _ _ _ h2;exact ⟨hre,h1,arr',T',fz',h4,Nat.le_trans h3 h5⟩
 | mp b=>exact ⟨m.ok b hr.1,by rw [m.rho b hr.1];exact hr.2⟩
 | fnr b=>exact ⟨m.ok b hr.1,by rw [m.rho b hr.1];exact hr.2⟩
theorem HRL.mv (m:Mv J ρ M w J' ρ' M' w'):∀{vs:List Value} {hs:List HC},HRL J ρ M w vs hs->HRL J' ρ' M' w' vs hs
 | [],[],_=>trivial
 | _::_,_::_,h=>⟨h.1.mv m,h.2.mv m⟩
theorem SVR0.mv (m:Mv J ρ M w J' ρ' M' w') {v:Value} {x:SV} (h:SVR0 J ρ M w v x):SVR0 J' ρ' M' w' v x:=by
 cases x with
 | one c=>exact HRd.mv m h
 | agg cs=>obtain ⟨vs,rfl,h⟩:=h;exact ⟨vs,rfl,h.mv m⟩
 | elt cs=>obtain ⟨b,off,vs,rfl,hc,h⟩:=h;exact ⟨b,off,vs,rfl,fun j u hj=>m.keep _ _ _ (hc j u hj).1 (hc j u hj).2,h.keep m.keep⟩
 | _=>exact h
theorem SRL.mv (m:Mv J ρ M w J' ρ' M' w'):∀{vs:List Value} {l:List SV},SRL J ρ M w vs l->SRL J' ρ' M' w' vs l
 | [],[],_=>trivial
 | _::_,_::_,h=>⟨h.1.mv m,h.2.mv m⟩
theorem SVR.of0 {v:Value} {x:SV} (h:SVR0 J ρ M w v x):SVR J ρ M w v x:=by
 cases x<;>first | exact h | exact h.elim
theorem SVR.mv (m:Mv J ρ M w J' ρ' M' w') {v:Value} {x:SV} (h:SVR J ρ M w v x):SVR J' ρ' M' w' v x:=by
 cases x with
 | tup l=>obtain ⟨vs,rfl,h⟩:=h;exact ⟨vs,rfl,h.mv m⟩
 | _=>exact SVR.of0 (SVR0.mv m h)
theorem EnR.mv (m:Mv J ρ M w J' ρ' M' w'):∀{es:List MapEntry} {l:List (Value×SV)},EnR J ρ M w es l->EnR J' ρ' M' w' es l
 | [],[],_=>trivial
 | _::_,_::_,h=>⟨⟨h.1.1,h.1.2.mv m⟩,h.2.mv m⟩
theorem SBR.mv (m:Mv J ρ M w J' ρ' M' w') {v:Value} {x:SB} (hh:x.own=true->real v->w'.heap[bk v]? = w.heap[bk v]?) (h:SBR J ρ M w v x):SBR J' ρ' M' w' v x:=by
 cases x with
 | fresh=>trivial
 | dead=>trivial
 | box hs t=>obtain ⟨b,vs,T,rfl,hb,h,ht⟩:=h;exact ⟨b,vs,T,rfl,(hh rfl (by simp [real])).trans hb,h.mv m,ht⟩
 | arr c k t=>
  obtain ⟨hu,h | ⟨b,vs,q,T,rfl,hb,h,hk⟩⟩:=h
  . exact ⟨hu,.inl h⟩
  . exact ⟨hu,.inr ⟨b,vs,q,T,rfl,(hh rfl (by simp [real])).trans hb,h.keep m.keep,hk⟩⟩
 | map es=>obtain ⟨b,ents,clk,rfl,hb,h⟩:=h;exact ⟨b,ents,clk,rfl,(hh rfl (by simp [real])).trans hb,h.mv m⟩
 | clo f caps=>obtain ⟨cv,rfl,h⟩:=h;exact ⟨cv,rfl,h.mv m⟩
theorem SBR.xeq {v:Value} (h:SBR J ρ M w v x) (ho:x.own=true) (hr:real v):bk v<w.heap.size:=by
 cases x with
 | box hs t=>obtain ⟨b,vs,T,rfl,hb,_⟩:=h;exact (Array.getElem?_eq_some_iff.1 hb).1
 | arr c k t=>
  obtain ⟨_,⟨_,e⟩ | ⟨b,vs,q,T,rfl,hb,_⟩⟩:=h
  . exact absurd e hr
  . exact (Array.getElem?_eq_some_iff.1 hb).1
 | map es=>obtain ⟨b,ents,clk,rfl,hb,_⟩:=h;exact (Array.getElem?_eq_some_iff.1 hb).1
 | _=>cases ho
theorem HRd.one {v:Value} {h:HC} (hr:HRd J ρ M w v h):v.oneCell'=true:=by
 cases h with
 | any=>exact hr
 | dat c=>exact RdC.one hr
 | ptr b off=>rw [hr.2];rfl
 | pel b es i f=>rw [hr.2];rfl
 | sl b es lo n=>obtain ⟨_,ad,cap,rfl,_⟩:=hr;rfl
 | mp b=>exact hr.2.2
 | fnr b=>exact hr.2.2
theorem HRL.ones:∀{vs:List Value} {hs:List HC},HRL J ρ M w vs hs->∀ v∈vs,v.oneCell'=true
 | [],[],_,v,hv=>by simp at hv
 | u::vs,_::_,h,v,hv=>by
  rcases List.mem_cons.1 hv with rfl | hv
  . exact h.1.one
  . exact h.2.ones v hv
theorem HRL.length:∀{vs:List Value} {hs:List HC},HRL J ρ M w vs hs->vs.length=hs.length
 | [],[],_=>rfl
 | _::_,_::_,h=>by simp [h.2.length]
theorem SRL.length:∀{vs:List Value} {l:List SV},SRL J ρ M w vs l->vs.length=l.length
 | [],[],_=>rfl
 | _::_,_::_,h=>by simp [h.2.length]
theorem HRL.drop:∀(n:Nat) {vs:List Value} {cs:List HC},HRL J ρ M w vs cs->HRL J ρ M w (vs.drop n) (cs.drop n)
 | 0,_,_,h=>by simpa using h
 | n+1,[],[],_=>trivial
 | n+1,_::_,_::_,h=>by simpa using h.2.drop n
theorem HRL.take:∀(n:Nat) {vs:List Value} {cs:List HC},HRL J ρ M w vs cs->HRL J ρ M w (vs.take n) (cs.take n)
 | 0,_,_,_=>trivial
 | _n+1,[],[],_=>trivial
 | n+1,_::_,_::_,h=>⟨h.1,h.2.take n⟩
theorem HRL.append:∀{vs:List Value} {cs:List HC} {us:List Value} {ds:List HC},HRL J ρ M w vs cs->HRL J ρ M w us ds->HRL J ρ M w (vs++us) (cs++ds)
 | [],[],_,_,_,h=>h
 | _::_,_::_,_,_,h,h'=>⟨h.1,h.2.append h'⟩
theorem SRL.append:∀{vs:List Value} {cs:List SV} {us:List Value} {ds:List SV},SRL J ρ M w vs cs->SRL J ρ M w us ds->SRL J ρ M w (vs++us) (cs++ds)
 | [],[],_,_,_,h=>h
 | _::_,_::_,_,_,h,h'=>⟨h.1,h.2.append h'⟩
theorem SRL.get:∀{vs:List Value} {cs:List SV},SRL J ρ M w vs cs->∀(j:Nat) (c:SV),cs[j]? = some c->∃ v,vs[j]? = some v/\SVR0 J ρ M w v c
 | [],[],_,j,c,hc=>by simp at hc
 | v::vs,c'::cs,h,0,c,hc=>by simp at hc;subst hc;exact ⟨v,by simp,h.1⟩
 | v::vs,c'::cs,h,j+1,c,hc=>by simpa using h.2.get j c (by simpa using hc)
theorem HRL.get:∀{vs:List Value} {cs:List HC},HRL J ρ M w vs cs->∀(j:Nat) (c:HC),cs[j]? = some c->∃ v,vs[j]? = some v/\HRd J ρ M w v c
 | [],[],_,j,c,hc=>by simp at hc
 | v::vs,c'::cs,h,0,c,hc=>by simp at hc;subst hc;exact ⟨v,by simp,h.1⟩
 | v::vs,c'::cs,h,j+1,c,hc=>by simpa using h.2.get j c (by simpa using hc)
theorem RdD.hrl:∀{vs:List Value} {cs:List Cell},RdD M w vs cs->HRL J ρ M w vs (cs.map .dat)
 | [],[],_=>trivial
 | _::_,_::_,h=>⟨h.1,RdD.hrl h.2⟩
end
def y7g (Γ:List (Nat×List Cell)) (M:Nat->Nat->Prop) (w:World):Prop:=
 ∀ g cs,(g,cs)∈Γ->∃ vs:List Value,(∀ j u,vs[j]? = some u->¬M g j/\w.cell? ⟨g,j,none⟩=some u)/\RdD M w vs cs
theorem y7g.keep {Γ:List (Nat×List Cell)} {M M':Nat->Nat->Prop} {w w':World} (hk:ya3 M M' w w') (h:y7g Γ M w):y7g Γ M' w':=fun g cs hg=>by
 obtain ⟨vs,h1,h2⟩:=h g cs hg;exact ⟨vs,fun j u hj=>hk _ _ _ (h1 j u hj).1 (h1 j u hj).2,h2.keep hk⟩
structure HInv (Γ:List (Nat×List Cell)) (Mo:Nat->Nat->Prop) (ρ:Nat->Value) (J:List SB) (w:World):Prop where
 bnd:∀ b o,Mo b o->b<w.heap.size
 blk:∀ i x,J[i]? = some x->SBR J ρ (MX Mo ρ J) w (ρ i) x
 inj:∀ i j x y,J[i]? = some x->J[j]? = some y->x.own=true->y.own=true->real (ρ i)->real (ρ j)->bk (ρ i)=bk (ρ j)->i=j
 sep:∀ i x,J[i]? = some x->x.own=true->real (ρ i)->∀ o,¬Mo (bk (ρ i)) o
 glob:y7g Γ (MX Mo ρ J) w
structure Went (Γ:List (Nat×List Cell)) (Mo:Nat->Nat->Prop) (ρ:Nat->Value) (J:List SB) (w:World) (ρ':Nat->Value) (J':List SB) (w':World):Prop where
 ok:∀ b,okB J b->okB J' b
 rho:∀ b,okB J b->ρ' b=ρ b
 keep:ya3 (MX Mo ρ J) (MX Mo ρ' J') w w'
 grow:Grow w w'
 inv:HInv Γ Mo ρ' J' w'
 size:w.heap.size<=w'.heap.size
 os:w'.os=w.os
 tape:w'.tape=w.tape
 output:w'.output=w.output
 frame:∀ k,k<w.heap.size->¬Xb ρ J k->w'.heap[k]? = w.heap[k]?
 fresh:∀ k,Xb ρ' J' k->w.heap.size<=k\/Xb ρ J k
section
variable {Γ:List (Nat×List Cell)} {Mo:Nat->Nat->Prop} {J J' J'':List SB} {ρ ρ' ρ'':Nat->Value} {w w' w'':World}
theorem Went.mv (h:Went Γ Mo ρ J w ρ' J' w'):Mv J ρ (MX Mo ρ J) w J' ρ' (MX Mo ρ' J') w':=⟨h.ok,h.rho,h.keep,h.grow⟩
theorem Went.refl (h:HInv Γ Mo ρ J w):Went Γ Mo ρ J w ρ J w:=
 ⟨fun _ h=>h,fun _ _=>rfl,fun _ _ _ h1 h2=>⟨h1,h2⟩,Grow.refl w,h,Nat.le_refl _,rfl,rfl,rfl,fun _ _ _=>rfl,fun _ h=>.inr h⟩
theorem Went.trans (h:Went Γ Mo ρ J w ρ' J' w') (k:Went Γ Mo ρ' J' w' ρ'' J'' w''):Went Γ Mo ρ J w ρ'' J'' w'' where
 ok:=fun b hb=>k.ok b (h.ok b hb)
 rho:=fun b hb=>(k.rho b (h.ok b hb)).trans (h.rho b hb)
 keep:=h.keep.trans k.keep
 grow:=h.grow.trans k.grow
 inv:=k.inv
 size:=Nat.le_trans h.size k.size
 os:=k.os.trans h.os
 tape:=k.tape.trans h.tape
 output:=k.output.trans h.output
 frame:=fun i hi hx=>(k.frame i (Nat.lt_of_lt_of_le hi h.size) (fun h1=>by
  rcases h.fresh i h1 with h2 | h2
  . omega
  . exact hx h2)).trans (h.frame i hi hx)
 fresh:=fun i hx=>by
  rcases k.fresh i hx with h1 | h1
  . exact .inl (Nat.le_trans h.size h1)
  . exact h.fresh i h1
theorem ysk (hx:x≠.fresh) (h:okB J b):okB (J.set i x) b:=by
 obtain ⟨y,h1,h2⟩:=h;unfold okB;rw [List.getElem?_set]
 split
 . rename_i e;subst e;rw [if_pos (List.getElem?_eq_some_iff.1 h1).1];exact ⟨x,rfl,hx⟩
 . exact ⟨y,h1,h2⟩
theorem vsv (l:List SB) (h:okB J b):okB (J++l) b:=by
 obtain ⟨y,h1,h2⟩:=h;exact ⟨y,by rw [List.getElem?_append_left (List.getElem?_eq_some_iff.1 h1).1];exact h1,h2⟩
theorem zr6 {l:List α} {d:Nat} {x y:α} (h:(l.set d x)[i]? = some y):(i=d/\y=x)\/(i≠d/\l[i]? = some y):=getElem?_set_cases h
theorem HInv.below (h:HInv Γ Mo ρ J w) (hb:Below w.heap.size w w'):HInv Γ Mo ρ J w' where
 bnd:=fun b o ho=>Nat.lt_of_lt_of_le (h.bnd b o ho) hb.size
 blk:=fun i x hi=>(h.blk i x hi).mv ⟨fun _ h=>h,fun _ _=>rfl,ya3.below hb,Grow.below hb⟩ (fun ho hr=>hb.block _ ((h.blk i x hi).xeq ho hr))
 inj:=h.inj
 sep:=h.sep
 glob:=h.glob.keep (ya3.below hb)
theorem Went.below (h:HInv Γ Mo ρ J w) (hb:Below w.heap.size w w'):Went Γ Mo ρ J w ρ J w':=
 ⟨fun _ h=>h,fun _ _=>rfl,ya3.below hb,Grow.below hb,h.below hb,hb.size,hb.os,hb.tape,hb.output,fun k hk _=>hb.block k hk,fun _ h=>.inr h⟩
theorem zef (h:HInv Γ Mo ρ J w) (hm:MX Mo ρ J b o):b<w.heap.size:=by
 rcases hm with hm | ⟨i,x,hi,hx,hr,rfl⟩
 . exact h.bnd b o hm
 . exact (h.blk i x hi).xeq (SB.v7h hx) hr
theorem vf4 {n:Nat} (h:(J++List.replicate n .fresh)[i]? = some x):J[i]? = some x\/(J.length<=i/\x=.fresh):=by
 rw [List.getElem?_append] at h;split at h
 . exact .inl h
 . rw [List.getElem?_replicate] at h;split at h
   . cases h;exact .inr ⟨by omega,rfl⟩
   . cases h
theorem Went.extend (h:HInv Γ Mo ρ J w) (n:Nat):Went Γ Mo ρ J w ρ (J++List.replicate n .fresh) w:=by
 have hM:∀ b o,MX Mo ρ (J++List.replicate n .fresh) b o->MX Mo ρ J b o:=by
  rintro b o (hm | ⟨i,x,hi,hx,hr⟩)
  . exact .inl hm
  . rcases vf4 hi with hi | ⟨_,rfl⟩
    . exact .inr ⟨i,x,hi,hx,hr⟩
    . exact hx.elim
 have hk:ya3 (MX Mo ρ J) (MX Mo ρ (J++List.replicate n .fresh)) w w:=fun b o u h1 h2=>⟨fun hm=>h1 (hM b o hm),h2⟩
 refine ⟨fun b hb=>vsv _ hb,fun _ _=>rfl,hk,Grow.refl w,⟨h.bnd,?_,?_,?_,h.glob.keep hk⟩,Nat.le_refl _,rfl,rfl,rfl,fun _ _ _=>rfl,?_⟩
 . intro i x hi
   rcases vf4 hi with hi | ⟨_,rfl⟩
   . exact (h.blk i x hi).mv ⟨fun b hb=>vsv _ hb,fun _ _=>rfl,hk,Grow.refl w⟩ (fun _ _=>rfl)
   . trivial
 . intro i j x y hi hj hx hy
   rcases vf4 hi with hi | ⟨_,rfl⟩
   . rcases vf4 hj with hj | ⟨_,rfl⟩
     . exact h.inj i j x y hi hj hx hy
     . cases hy
   . cases hx
 . intro i x hi hx
   rcases vf4 hi with hi | ⟨_,rfl⟩
   . exact h.sep i x hi hx
   . cases hx
 . rintro k ⟨i,x,hi,hx,hr⟩
   rcases vf4 hi with hi | ⟨_,rfl⟩
   . exact .inr ⟨i,x,hi,hx,hr⟩
   . cases hx
def upd (ρ:Nat->Value) (b:Nat) (v:Value):Nat->Value:=fun i=>if i=b then v else ρ i
theorem vgt {v:Value}:upd ρ b v b=v:=by simp [upd]
theorem wl3 {v:Value} (h:i≠b):upd ρ b v i=ρ i:=by simp [upd,h]
theorem vc7 (h:J[b]? = some .fresh):¬okB J b:=fun ⟨x,h1,h2⟩=>by rw [h] at h1;cases h1;exact h2 rfl
theorem Went.new (h:HInv Γ Mo ρ J w) (hb:Below w.heap.size w w') (hf:J[b]? = some .fresh) {v:Value} (hxf:x≠.fresh)
 (hnew:x.own=true->real v->w.heap.size<=bk v)
 (hok:Mv J ρ (MX Mo ρ J) w (J.set b x) (upd ρ b v) (MX Mo (upd ρ b v) (J.set b x)) w'->SBR (J.set b x) (upd ρ b v) (MX Mo (upd ρ b v) (J.set b x)) w' v x):Went Γ Mo ρ J w (upd ρ b v) (J.set b x) w':=by
 have hne:∀ i,okB J i->i≠b:=fun i hi e=>vc7 hf (e▸hi)
 have hM:∀ c o,MX Mo (upd ρ b v) (J.set b x) c o->MX Mo ρ J c o\/(w.heap.size<=c):=by
  rintro c o (hm | ⟨i,y,hi,hy,hr,e⟩)
  . exact .inl (.inl hm)
  . rcases zr6 hi with ⟨rfl,rfl⟩ | ⟨hn,hi⟩
    . rw [vgt] at hr e;exact .inr (e▸hnew (SB.v7h hy) hr)
    . rw [wl3 hn] at hr e;exact .inl (.inr ⟨i,y,hi,hy,hr,e⟩)
 have hk:ya3 (MX Mo ρ J) (MX Mo (upd ρ b v) (J.set b x)) w w':=fun c o u h1 h2=>by
  have hl:=World.block_lt_of_cell? w _ h2;refine ⟨fun hm=>?_,(ya3.below hb c o u h1 h2).2⟩
  rcases hM c o hm with hm | hm
  . exact h1 hm
  . simp only at hl;omega
 have hm:Mv J ρ (MX Mo ρ J) w (J.set b x) (upd ρ b v) (MX Mo (upd ρ b v) (J.set b x)) w':=⟨fun i hi=>ysk hxf hi,fun i hi=>wl3 (hne i hi),hk,Grow.below hb⟩;refine ⟨hm.ok,hm.rho,hk,hm.grow,⟨fun c o ho=>Nat.lt_of_lt_of_le (h.bnd c o ho) hb.size,?_,?_,?_,h.glob.keep hk⟩,hb.size,hb.os,hb.tape,hb.output,fun k hk _=>hb.block k hk,?_⟩
 . intro i y hi
   rcases zr6 hi with ⟨rfl,rfl⟩ | ⟨hn,hi⟩
   . rw [vgt];exact hok hm
   . rw [wl3 hn];exact (h.blk i y hi).mv hm (fun ho hr=>hb.block _ ((h.blk i y hi).xeq ho hr))
 . intro i j y z hi hj hy hz hri hrj e
   rcases zr6 hi with ⟨ei,ey⟩ | ⟨hn,hi'⟩
   . rcases zr6 hj with ⟨ej,ez⟩ | ⟨hn',hj'⟩
     . rw [ei,ej]
     . subst ei;subst ey;rw [vgt] at hri e;rw [wl3 hn'] at hrj e;have h1:=hnew hy hri;have h2:=(h.blk j z hj').xeq hz hrj;omega
   . rcases zr6 hj with ⟨ej,ez⟩ | ⟨hn',hj'⟩
     . subst ej;subst ez;rw [vgt] at hrj e;rw [wl3 hn] at hri e;have h1:=hnew hz hrj;have h2:=(h.blk i y hi').xeq hy hri;omega
     . rw [wl3 hn] at hri e;rw [wl3 hn'] at hrj e;exact h.inj i j y z hi' hj' hy hz hri hrj e
 . intro i y hi hy hr o ho
   rcases zr6 hi with ⟨rfl,rfl⟩ | ⟨hn,hi⟩
   . rw [vgt] at hr ho;have h1:=hnew hy hr;have h2:=h.bnd _ _ ho;omega
   . rw [wl3 hn] at hr ho;exact h.sep i y hi hy hr o ho
 . rintro k ⟨i,y,hi,hy,hr,e⟩
   rcases zr6 hi with ⟨rfl,rfl⟩ | ⟨hn,hi⟩
   . rw [vgt] at hr e;exact .inl (e▸hnew hy hr)
   . rw [wl3 hn] at hr e;exact .inr ⟨i,y,hi,hy,hr,e⟩
theorem Went.write (h:HInv Γ Mo ρ J w) (hx:J[b]? = some x) (ho:x.own=true) (hr:real (ρ b)) (ho':x'.own=true) (hmut:∀ o,x'.mut o↔x.mut o)
 (hsize:w'.heap.size=w.heap.size) (hos:w'.os=w.os) (htape:w'.tape=w.tape) (hout:w'.output=w.output) (hother:∀ k,k≠bk (ρ b)->w'.heap[k]? = w.heap[k]?) (hgrow:Grow w w')
 (hcell:∀ o u,¬x.mut o->w.cell? ⟨bk (ρ b),o,none⟩=some u->w'.cell? ⟨bk (ρ b),o,none⟩=some u)
 (hok:Mv J ρ (MX Mo ρ J) w (J.set b x') ρ (MX Mo ρ (J.set b x')) w'->SBR (J.set b x') ρ (MX Mo ρ (J.set b x')) w' (ρ b) x'):Went Γ Mo ρ J w ρ (J.set b x') w':=by
 have hxf:x'≠.fresh:=fun e=>by rw [e] at ho';cases ho'
 have hlt:b<J.length:=(List.getElem?_eq_some_iff.1 hx).1
 have hM:∀ c o,MX Mo ρ (J.set b x') c o↔MX Mo ρ J c o:=fun c o=>by
  constructor
  . rintro (hm | ⟨i,y,hi,hy,hr,e⟩)
    . exact .inl hm
    . rcases zr6 hi with ⟨rfl,rfl⟩ | ⟨hn,hi⟩
      . exact .inr ⟨i,x,hx,(hmut o).1 hy,hr,e⟩
      . exact .inr ⟨i,y,hi,hy,hr,e⟩
  . rintro (hm | ⟨i,y,hi,hy,hr,e⟩)
    . exact .inl hm
    . by_cases hn:i=b
      . subst hn;rw [hx] at hi;cases hi;exact .inr ⟨i,x',by simp [hlt],(hmut o).2 hy,hr,e⟩
      . exact .inr ⟨i,y,by rw [List.getElem?_set_ne (Ne.symm hn)];exact hi,hy,hr,e⟩
 have hk:ya3 (MX Mo ρ J) (MX Mo ρ (J.set b x')) w w':=fun c o u h1 h2=>by
  refine ⟨fun hm=>h1 ((hM c o).1 hm),?_⟩;by_cases e:c=bk (ρ b)
  . subst e;exact hcell o u (fun hm=>h1 (.inr ⟨b,x,hx,hm,hr,rfl⟩)) h2
  . unfold World.cell? at h2 ⊢;dsimp only at h2 ⊢;rw [hother c e];exact h2
 have hm:Mv J ρ (MX Mo ρ J) w (J.set b x') ρ (MX Mo ρ (J.set b x')) w':=⟨fun i hi=>ysk hxf hi,fun _ _=>rfl,hk,hgrow⟩;refine ⟨hm.ok,hm.rho,hk,hgrow,⟨fun c o hc=>by rw [hsize];exact h.bnd c o hc,?_,?_,?_,h.glob.keep hk⟩,by omega,hos,htape,hout,?_,?_⟩
 . intro i y hi
   rcases zr6 hi with ⟨rfl,rfl⟩ | ⟨hn,hi⟩
   . exact hok hm
   . exact (h.blk i y hi).mv hm (fun hyo hri=>hother _ (fun e=>hn (h.inj i b y x hi hx hyo ho hri hr e)))
 . intro i j y z hi hj hy hz
   have key:∀(k:Nat) (u:SB),(J.set b x')[k]? = some u->u.own=true->∃ u':SB,J[k]? = some u'/\u'.own=true:=fun k u hk hu=>by
    rcases zr6 hk with ⟨rfl,rfl⟩ | ⟨_,hk⟩
    . exact ⟨x,hx,ho⟩
    . exact ⟨u,hk,hu⟩
   obtain ⟨y',h1,h2⟩:=key i y hi hy;obtain ⟨z',h3,h4⟩:=key j z hj hz;exact h.inj i j y' z' h1 h3 h2 h4
 . intro i y hi hy
   rcases zr6 hi with ⟨rfl,rfl⟩ | ⟨_,hi⟩
   . exact h.sep i x hx ho
   . exact h.sep i y hi hy
 . intro k _ hk;exact hother k (fun e=>hk ⟨b,x,hx,ho,hr,e.symm⟩)
 . rintro k ⟨i,y,hi,hy,hr',e⟩
   rcases zr6 hi with ⟨rfl,rfl⟩ | ⟨_,hi⟩
   . exact .inr ⟨i,x,hx,ho,hr',e⟩
   . exact .inr ⟨i,y,hi,hy,hr',e⟩
theorem Went.less (h:HInv Γ Mo ρ J w) (hx:J[b]? = some x) (hxf:x'≠.fresh) (ho:x'.own=true->x.own=true) (hmut:∀ o,x'.mut o->x.mut o)
 (hok:Mv J ρ (MX Mo ρ J) w (J.set b x') ρ (MX Mo ρ (J.set b x')) w->SBR (J.set b x') ρ (MX Mo ρ (J.set b x')) w (ρ b) x'):Went Γ Mo ρ J w ρ (J.set b x') w:=by
 have hM:∀ c o,MX Mo ρ (J.set b x') c o->MX Mo ρ J c o:=by
  rintro c o (hm | ⟨i,y,hi,hy,hr,e⟩)
  . exact .inl hm
  . rcases zr6 hi with ⟨rfl,rfl⟩ | ⟨_,hi⟩
    . exact .inr ⟨i,x,hx,hmut o hy,hr,e⟩
    . exact .inr ⟨i,y,hi,hy,hr,e⟩
 have hk:ya3 (MX Mo ρ J) (MX Mo ρ (J.set b x')) w w:=fun c o u h1 h2=>⟨fun hm=>h1 (hM c o hm),h2⟩
 have hm:Mv J ρ (MX Mo ρ J) w (J.set b x') ρ (MX Mo ρ (J.set b x')) w:=⟨fun i hi=>ysk hxf hi,fun _ _=>rfl,hk,Grow.refl w⟩
 have key:∀(k:Nat) (u:SB),(J.set b x')[k]? = some u->u.own=true->∃ u':SB,J[k]? = some u'/\u'.own=true:=fun k u hk hu=>by
  rcases zr6 hk with ⟨rfl,rfl⟩ | ⟨_,hk⟩
  . exact ⟨x,hx,ho hu⟩
  . exact ⟨u,hk,hu⟩
 refine ⟨hm.ok,hm.rho,hk,hm.grow,⟨h.bnd,?_,?_,?_,h.glob.keep hk⟩,Nat.le_refl _,rfl,rfl,rfl,fun _ _ _=>rfl,?_⟩
 . intro i y hi
   rcases zr6 hi with ⟨rfl,rfl⟩ | ⟨_,hi⟩
   . exact hok hm
   . exact (h.blk i y hi).mv hm (fun _ _=>rfl)
 . intro i j y z hi hj hy hz;obtain ⟨y',h1,h2⟩:=key i y hi hy;obtain ⟨z',h3,h4⟩:=key j z hj hz;exact h.inj i j y' z' h1 h3 h2 h4
 . intro i y hi hy;obtain ⟨y',h1,h2⟩:=key i y hi hy;exact h.sep i y' h1 h2
 . rintro k ⟨i,y,hi,hy,hr',e⟩;obtain ⟨y',h1,h2⟩:=key i y hi hy;exact .inr ⟨i,y',h1,h2,hr',e⟩
theorem Went.move (h:HInv Γ Mo ρ J w) {nb:Nat} (hx:J[b]? = some x) (ho:x.own=true) (hf:J[nb]? = some .fresh):Went Γ Mo ρ J w (upd ρ nb (ρ b)) ((J.set b .dead).set nb x) w:=by
 have hxf:x≠.fresh:=fun e=>by rw [e] at ho;cases ho
 have hbn:b≠nb:=fun e=>by rw [e,hf] at hx;cases hx;exact hxf rfl
 have hlb:b<J.length:=(List.getElem?_eq_some_iff.1 hx).1;have hln:nb<J.length:=(List.getElem?_eq_some_iff.1 hf).1
 have key:∀(i:Nat) (y:SB),((J.set b .dead).set nb x)[i]? = some y->(i=nb/\y=x)\/(i≠nb/\i=b/\y=.dead)\/(i≠nb/\i≠b/\J[i]? = some y):=fun i y hi=>by
  rcases zr6 hi with h1 | ⟨hn,hi⟩
  . exact .inl h1
  . rcases zr6 hi with ⟨h2,h3⟩ | ⟨hn',hi⟩
    . exact .inr (.inl ⟨hn,h2,h3⟩)
    . exact .inr (.inr ⟨hn,hn',hi⟩)
 have hold:∀(i:Nat) (y:SB),((J.set b .dead).set nb x)[i]? = some y->y.own=true->∃ j,J[j]? = some y/\upd ρ nb (ρ b) i=ρ j/\(i=nb->j=b)/\(i≠nb->j=i):=fun i y hi hy=>by
  rcases key i y hi with ⟨rfl,rfl⟩ | ⟨hn,rfl,rfl⟩ | ⟨hn,hn',hi⟩
  . exact ⟨b,hx,vgt,fun _=>rfl,fun e=>absurd rfl e⟩
  . cases hy
  . exact ⟨i,hi,wl3 hn,fun e=>absurd e hn,fun _=>rfl⟩
 have hM:∀ c o,MX Mo (upd ρ nb (ρ b)) ((J.set b .dead).set nb x) c o->MX Mo ρ J c o:=by
  rintro c o (hm | ⟨i,y,hi,hy,hr,e⟩)
  . exact .inl hm
  . obtain ⟨j,h1,h2,_⟩:=hold i y hi (SB.v7h hy);rw [h2] at hr e;exact .inr ⟨j,y,h1,hy,hr,e⟩
 have hk:ya3 (MX Mo ρ J) (MX Mo (upd ρ nb (ρ b)) ((J.set b .dead).set nb x)) w w:=fun c o u h1 h2=>⟨fun hm=>h1 (hM c o hm),h2⟩
 have hok:∀ i,okB J i->okB ((J.set b .dead).set nb x) i:=fun i hi=>ysk hxf (ysk (by simp) hi)
 have hm:Mv J ρ (MX Mo ρ J) w ((J.set b .dead).set nb x) (upd ρ nb (ρ b)) (MX Mo (upd ρ nb (ρ b)) ((J.set b .dead).set nb x)) w:=
  ⟨hok,fun i hi=>wl3 (fun e=>vc7 hf (e▸hi)),hk,Grow.refl w⟩
 refine ⟨hm.ok,hm.rho,hk,hm.grow,⟨h.bnd,?_,?_,?_,h.glob.keep hk⟩,Nat.le_refl _,rfl,rfl,rfl,fun _ _ _=>rfl,?_⟩
 . intro i y hi
   rcases key i y hi with ⟨rfl,rfl⟩ | ⟨hn,rfl,rfl⟩ | ⟨hn,hn',hi⟩
   . rw [vgt];exact (h.blk b y hx).mv hm (fun _ _=>rfl)
   . trivial
   . rw [wl3 hn];exact (h.blk i y hi).mv hm (fun _ _=>rfl)
 . intro i j y z hi hj hy hz hri hrj e;obtain ⟨i',h1,h2,h3,h4⟩:=hold i y hi hy;obtain ⟨j',h5,h6,h7,h8⟩:=hold j z hj hz;rw [h2] at hri e;rw [h6] at hrj e;have e':=h.inj i' j' y z h1 h5 hy hz hri hrj e;by_cases hin:i=nb
   . by_cases hjn:j=nb
     . rw [hin,hjn]
     . exfalso;rw [h3 hin,h8 hjn] at e'
       rcases key j z hj with ⟨e1,_⟩ | ⟨_,_,rfl⟩ | ⟨_,e1,_⟩
       . exact hjn e1
       . cases hz
       . exact e1 e'.symm
   . by_cases hjn:j=nb
     . exfalso;rw [h7 hjn,h4 hin] at e'
       rcases key i y hi with ⟨e1,_⟩ | ⟨_,_,rfl⟩ | ⟨_,e1,_⟩
       . exact hin e1
       . cases hy
       . exact e1 e'
     . rw [h4 hin,h8 hjn] at e';exact e'
 . intro i y hi hy hr;obtain ⟨j,h1,h2,_⟩:=hold i y hi hy;rw [h2] at hr ⊢;exact h.sep j y h1 hy hr
 . rintro k ⟨i,y,hi,hy,hr,e⟩;obtain ⟨j,h1,h2,_⟩:=hold i y hi hy;rw [h2] at hr e;exact .inr ⟨j,y,h1,hy,hr,e⟩
theorem Went.kill (h:HInv Γ Mo ρ J w) (hx:J[b]? = some x):Went Γ Mo ρ J w ρ (J.set b .dead) w:=
 Went.less h hx (by simp) (by intro h;cases h) (by intro o h;exact h.elim) (fun _=>trivial)
end
structure HEnv where
 w0:World
 Mo:Nat->Nat->Prop
 ρ0:Nat->Value
 η0:List SB
def gtS (I:List SV) (i:Nat):SV:=(I[i]?).getD .any
def gB (J:List SB) (b:Nat):SB:=(J[b]?).getD .dead
structure RI (Γ:List (Nat×List Cell)) (E:HEnv) (ρ:Nat->Value) (I:List SV) (J:List SB) (a:Act) (w:World):Prop where
 hd:a.defers=[]
 hs:a.tmps.size=I.length
 slot:∀(i:Nat) (x:SV),I[i]? = some x->SVR J ρ (MX E.Mo ρ J) w (a.tmps.getD i Go.undef) x
 went:Went Γ E.Mo E.ρ0 E.η0 E.w0 ρ J w
section
variable {Γ:List (Nat×List Cell)} {E:HEnv} {ρ ρ':Nat->Value} {I:List SV} {J J':List SB} {a:Act} {w w':World}
theorem RI.inv (h:RI Γ E ρ I J a w):HInv Γ E.Mo ρ J w:=h.went.inv
theorem RI.go (h:RI Γ E ρ I J a w) (k:Went Γ E.Mo ρ J w ρ' J' w'):RI Γ E ρ' I J' a w':=
 ⟨h.hd,h.hs,fun i x hi=>(h.slot i x hi).mv k.mv,h.went.trans k⟩
theorem RI.put (h:RI Γ E ρ I J a w) {d:Nat} {x:SV} {v:Value} (hx:SVR J ρ (MX E.Mo ρ J) w v x):RI Γ E ρ (I.set d x) J (a.put (some d) v) w:=by
 refine ⟨h.hd,by simpa [Act.put] using h.hs,fun i y hi=>?_,h.went⟩;show SVR J ρ (MX E.Mo ρ J) w ((a.tmps.setIfInBounds d v).getD i Go.undef) y
 have hlen:i<I.length:=by simpa using (List.getElem?_eq_some_iff.1 hi).1
 rcases zr6 hi with ⟨rfl,rfl⟩ | ⟨hn,hi⟩
 . have:i<a.tmps.size:=by rw [h.hs];exact hlen
   rw [show (a.tmps.setIfInBounds i v).getD i Go.undef=v by simp [this]];exact hx
 . rw [Slot.getD_set_ne (Ne.symm hn)];exact h.slot i y hi
theorem RI.gt (h:RI Γ E ρ I J a w) (t:Nat):SVR J ρ (MX E.Mo ρ J) w (a.tmps.getD t Go.undef) (gtS I t):=by
 unfold gtS
 cases ht:I[t]? with
 | none=>exact trivial
 | some x=>exact h.slot t x ht
def zim (v:Value):SV:=match wx7 v with
 | .one c=>.one (.dat c)
 | .agg cs=>.agg (cs.map .dat)
 | _=>.any
def yvk:List (Nat×List Cell)->Nat->SV
 | [],_=>.any
 | (g,cs)::r,i=>if g=i then .elt cs else yvk r i
def opdS (Γ:List (Nat×List Cell)) (I:List SV):Operand->SV
 | .tmp t=>gtS I t
 | .const v=>zim v
 | .func f=>.one (.dat (.raw (.func (.func f) #[] #[])))
 | .global g=>yvk Γ g
theorem zd1:∀(Γ:List (Nat×List Cell)) (i:Nat),yvk Γ i=.any\/∃ cs,yvk Γ i=.elt cs/\(i,cs)∈Γ
 | [],_=>.inl rfl
 | (g,cs)::r,i=>by
  unfold yvk
  split
  . rename_i e;subst e;exact .inr ⟨cs,rfl,by simp⟩
  . rcases zd1 r i with h | ⟨cs',h,hm⟩
    . exact .inl h
    . exact .inr ⟨cs',h,by simp [hm]⟩
theorem xcb {M:Nat->Nat->Prop} (v:Value):SVR J ρ M w v (zim v):=by
 have h:=yjc (M:=M) (w:=w) (τ:=fun _=>⟨Go.undef,0⟩) v;unfold zim
 cases hc:wx7 v with
 | one c=>
  rw [hc] at h;have hb:RdC M w v c.bare:=RdT.bare h
  have hnt:c.bare=c:=by
   unfold wx7 at hc;split at hc
   . split at hc<;>cases hc
   . cases hc
   . cases hc;rfl
  rw [hnt] at hb;exact hb
 | agg cs =>
  rw [hc] at h;obtain ⟨vs,e,hr⟩:=h;refine ⟨vs,e,?_⟩
  have hraw:∃ us:List Value,cs=us.map .raw:=by
   unfold wx7 at hc;split at hc
   . split at hc
     . cases hc;exact ⟨_,rfl⟩
     . cases hc
   . cases hc
   . cases hc
  obtain ⟨us,rfl⟩:=hraw
  have:∀(vs us:List Value),RdL M w (fun _=>⟨Go.undef,0⟩) vs (us.map .raw)->HRL J ρ M w vs ((us.map Cell.raw).map .dat):=by
   intro vs
   induction vs with
   | nil=>intro us h;cases us with
    | nil=>trivial
    | cons _ _=>exact h.elim
   | cons v vs ih=>intro us h;cases us with
    | nil=>exact h.elim
    | cons u us=>exact ⟨h.1,ih us h.2⟩
  exact this vs us hr
 | _=>exact trivial
theorem RI.opd (h:RI Γ E ρ I J a w) (x:Operand):SVR J ρ (MX E.Mo ρ J) w (a.eval x) (opdS Γ I x):=by
 cases x with
 | tmp t=>exact h.gt t
 | const v=>exact xcb v
 | func f=>exact RdC.raw rfl
 | global g=>
  show SVR J ρ (MX E.Mo ρ J) w (a.eval (.global g)) (yvk Γ g)
  rcases zd1 Γ g with e | ⟨cs,e,hm⟩
  . rw [e];exact trivial
  . rw [e];obtain ⟨vs,h1,h2⟩:=h.inv.glob g cs hm;exact ⟨g,0,vs,rfl,fun j u hj=>by rw [Nat.zero_add];exact h1 j u hj,h2⟩
end
def appL {α:Type}:List (Nat×α)->List α->List α
 | [],l=>l
 | (i,x)::r,l=>appL r (l.set i x)
def agS (rd:List Nat) (I I':List SV):Prop:=I'.length=I.length/\∀ r∈rd,gtS I' r=gtS I r
def agB (rh:List Nat) (J J':List SB):Prop:=J'.length=J.length/\∀ r∈rh,J'[r]? = J[r]?
def yvu (Γ:List (Nat×List Cell)) (P:Program) (o:Oper) (I:List SV) (J:List SB) (rd rh:List Nat) (eff:List (Nat×SV)) (heff:List (Nat×SB)):Prop:=
 ∀(E:HEnv) (ρ:Nat->Value) (I':List SV) (J':List SB) (a:Act) (w:World),agS rd I I'->agB rh J J'->RI Γ E ρ I' J' a w->∀(K:Act->World->Prop) (Q:Exit->Act->World->Prop),
  (∀ a' w' ρ',RI Γ E ρ' (appL eff I') (appL heff J') a' w'->K a' w')->o.wp P a w K Q
theorem agS.opd {Γ:List (Nat×List Cell)} {rd:List Nat} {I I':List SV} (h:agS rd I I') {x:Operand} (hx:∀ t∈orr x,t∈rd):opdS Γ I' x=opdS Γ I x:=by
 cases x with
 | tmp t=>exact h.2 t (hx t (by simp [orr]))
 | _=>rfl
theorem agB.gB {rh:List Nat} {J J':List SB} (h:agB rh J J') {b:Nat} (hb:b∈rh):gB J' b=gB J b:=by
 unfold Hp.gB;rw [h.2 b hb]
def datH:HC->Option Cell
 | .dat c=>some c
 | _=>none
def datL:List HC->Option (List Cell)
 | []=>some []
 | .dat c::r=>(datL r).map (c::·)
 | _::_=>none
def vwO:HC->AV
 | .dat c=>.one c
 | _=>.any
def vwG:Option (List Cell)->AV
 | some cs=>.agg cs
 | none=>.any
def vw:SV->AV
 | .one h=>vwO h
 | .agg hs=>vwG (datL hs)
 | .elt cs=>.elt cs
 | .undef=>.undef
 | _=>.any
theorem yy2 {I:List SV} (i:Nat):gt (I.map vw) i=vw (gtS I i):=by
 unfold gt gtS;rw [List.getElem?_map]
 cases I[i]?<;>rfl
theorem vir (x:SV):(vw x).vy8=false:=by
 unfold vw
 cases x with
 | one h=>cases h<;>rfl
 | agg hs=>simp only;cases datL hs<;>rfl
 | _=>rfl
theorem zr3 (x:SV):(vw x).rf=none:=by
 unfold vw
 cases x with
 | one h=>cases h<;>rfl
 | agg hs=>simp only;cases datL hs<;>rfl
 | _=>rfl
section
variable {Γ:List (Nat×List Cell)} {E:HEnv} {ρ ρ':Nat->Value} {I:List SV} {J J':List SB} {a:Act} {w w':World} {M:Nat->Nat->Prop}
theorem HRL.dat:∀{vs:List Value} {hs:List HC} {cs:List Cell},HRL J ρ M w vs hs->datL hs=some cs->RdD M w vs cs
 | [],[],cs,_,hd=>by simp [datL] at hd;subst hd;trivial
 | v::vs,h::hs,cs,hr,hd=>by
  cases h with
  | dat c=>
   simp only [datL,Option.map_eq_some_iff] at hd;obtain ⟨l,hl,rfl⟩:=hd;exact ⟨hr.1,HRL.dat hr.2 hl⟩
  | _=>simp [datL] at hd
theorem RdD.rdl {τ:Nat->TV}:∀{vs:List Value} {cs:List Cell},RdD M w vs cs->RdL M w τ vs cs
 | [],[],_=>trivial
 | _::_,_::_,h=>⟨RdT.of h.1,RdD.rdl h.2⟩
theorem zy1 {τ:Nat->TV} {tm:Array Value} {v:Value} {x:SV} (h:SVR J ρ M w v x):vi6 M w τ tm v (vw x)/\∀ d,¬(vw x).vjg d:=by
 cases x with
 | one c=>
  cases c with
  | dat c=>exact ⟨RdT.of h,fun d hd=>(RdC.wo7 h d) hd⟩
  | _=>exact ⟨trivial,fun d hd=>hd⟩
 | agg hs=>
  obtain ⟨vs,rfl,hr⟩:=h;show vi6 M w τ tm _ (vwG (datL hs))/\∀ d,¬(vwG (datL hs)).vjg d
  cases hd:datL hs with
  | none=>exact ⟨trivial,fun d hd=>hd⟩
  | some cs=>
   have hrd:=HRL.dat hr hd;exact ⟨⟨vs,rfl,RdD.rdl hrd⟩,fun d hd=>hrd.wo7 hd⟩
 | elt cs=>exact ⟨h,fun d hd=>hd⟩
 | undef=>exact ⟨h,fun d hd=>hd⟩
 | any=>exact ⟨trivial,fun d hd=>hd⟩
 | tup l=>exact ⟨trivial,fun d hd=>hd⟩
def x1a (h:RI Γ E ρ I J a w):Env:=⟨w,MX E.Mo ρ J,fun _=>False,#[],fun _ _ hm=>zef h.inv hm⟩
theorem RI.old (h:RI Γ E ρ I J a w):RelI (x1a h) (fun _=>⟨Go.undef,0⟩) (MX E.Mo ρ J) (I.map vw) a w:=by
 have hget:∀(i:Nat) (av:AV),(I.map vw)[i]? = some av->∃ x,I[i]? = some x/\av=vw x:=fun i av hi=>by
  rw [List.getElem?_map] at hi;obtain ⟨x,hx,rfl⟩:=Option.map_eq_some_iff.1 hi;exact ⟨x,hx,rfl⟩
 have hlive:∀ d,¬live (I.map vw) d:=fun d ⟨i,av,hi,ht⟩=>by
  obtain ⟨x,hx,rfl⟩:=hget i av hi;exact (zy1 (τ:=fun _=>⟨Go.undef,0⟩) (tm:=a.tmps) (h.slot i x hx)).2 d ht
 refine ⟨h.hd,by simpa using h.hs,?_,fun _ _ hm=>hm,fun _ _ hm=>zef h.inv hm,?_,?_,?_,fun d hd=>absurd hd (hlive d),fun d _ _ hd=>absurd hd (hlive d),fun d _ _ hd=>absurd hd (hlive d),Nat.le_refl _,rfl,rfl,rfl,fun _ _ _=>rfl⟩
 . intro i av hi;obtain ⟨x,hx,rfl⟩:=hget i av hi;exact (zy1 (h.slot i x hx)).1
 . intro i av hi hh;obtain ⟨x,hx,rfl⟩:=hget i av hi;rw [vir] at hh;cases hh
 . intro i j x y hi hj hx;obtain ⟨x',_,rfl⟩:=hget i x hi;rw [vir] at hx;cases hx
 . intro i av s b hi hr;obtain ⟨x,hx,rfl⟩:=hget i av hi;rw [zr3] at hr;cases hr
end
def valB:Builtin->Bool
 | .len | .cap | .append | .max | .min | .copy | .unsafeSliceData | .unsafeString=>true
 | _=>false
def wjz:Op->Bool
 | .move _ | .assign _ | .pick _ _ _ | .alloc _ | .box _ _ | .build _ _ | .buildSlice _ _ _ | .load _ _ | .binOp _ _ _ _ _ | .unOp _ _ _ | .convert _ _ _ | .makeSlice _ _ _ | .slice _ _ _ _ _ | .fieldAddr _ _ _ | .field _ _ _ | .indexAddr _ _ _
 | .index _ _ _ | .extract _ _=>true
 | .call { callee:=.builtin b,.. }=>valB b
 | _=>false
theorem w5l {f:α->Value} {s:Sem α} {n:Next} (h:(s.bind (fun v=>.pure (.value (f v))):Sem Next).run P w=.ok n w'):∃ v,n=.value v:=by
 induction s generalizing w with
 | pure a=>simp only [Sem.bind,Sem.run,Result.ok.injEq] at h;exact ⟨f a,h.1.symm⟩
 | load m ad k ih=>
  simp only [Sem.bind,Sem.run] at h;split at h
  . exact ih _ h
  . split at h
    . exact ih _ h
    . cases h
 | store m ad v k ih=>
  cases v<;>simp only [Sem.bind,Sem.run] at h<;>first | (cases h;done) | skip
  all_goals
   split at h
   . split at h
     . cases h
     . exact ih h
   . split at h
     . exact ih h
     . cases h
 | new ob k ih=>exact ih _ h
 | shape r k ih=>exact ih _ h
 | freeze ad n k ih=>exact ih h
 | frozen ad k ih=>exact ih _ h
 | getObj r k ih=>
  simp only [Sem.bind,Sem.run] at h;split at h
  . cases h
  . exact ih _ h
  . cases h
 | setObj r ob k ih=>
  simp only [Sem.bind,Sem.run] at h;split at h
  . cases h
  . exact ih h
  . cases h
 | choose q k ih=>
  simp only [Sem.bind,Sem.run] at h;split at h
  . exact ih _ h
  . exact ih _ h
 | sys c k ih=>exact ih _ h
 | program k ih=>exact ih _ h
 | mark m k ih=>exact ih h
 | halt hh=>cases h
theorem vna {s:Sem Value} {n:Next} (h:(do pure (.value (<-s)):Sem Next).run P w=.ok n w'):∃ v,n=.value v:=
 w5l (f:=id) h
theorem yv1 {o:Oper} (hv:wjz o.op=true) {ρ:Operand->Value} {n:Next} (h:(execOp ρ o).run P w=.ok n w'):∃ v,n=.value v:=by
 unfold execOp at h;unfold wjz at hv
 split at hv<;>first | (cases hv;done) | skip
 all_goals (rename_i heq;rw [heq] at h)
 case h_19 b xs ts=>
  have h:(builtin b ts o.type _ (xs.map ρ)).run P w=.ok n w':=h;unfold valB at hv
  split at hv<;>first | (cases hv;done) | skip
  all_goals exact vna h
 all_goals first
  | exact vna h
  | exact w5l (f:=fun b=>if b=true then ρ _ else ρ _) h
  | (simp only [Sem.run_pure,Result.ok.injEq] at h;exact ⟨_,h.1.symm⟩)
end Go.Hp
