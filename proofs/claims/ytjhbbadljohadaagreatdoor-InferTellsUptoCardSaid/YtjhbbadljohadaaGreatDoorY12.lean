/- The proof, part Y12: Mp. -/
import Derived.Test.YtjhbbadljohadaaGreatDoorY11
namespace Go.Slot
open Go Go.RowKit
variable {P:Program}
theorem ymk {σ:List AV} {o:Oper} {F:List AV->AV->Prop} {args:List AV} {rd:List Nat} (h:opB P σ o=.fn (zfy P F) args rd) {res:AV} (hc:F args res):zam P o σ rd [] (zbn o res):=by
 have nb:OR.fn (zfy P F) args rd≠.bad:=by simp
 have no_of:∀ x,OR.of x≠.fn (zfy P F) args rd:=fun x=>by unfold OR.of;split<;>simp
 have no_A:∀ rd0 a,vofA σ o rd0 a≠.fn (zfy P F) args rd:=fun rd0 a=>by unfold vofA;split<;>first | exact no_of _ | simp
 have no_B:∀ a,vofB σ o a≠.fn (zfy P F) args rd:=fun a=>by unfold vofB;split<;>first | exact no_of _ | simp
 unfold opB at h
 split at h
 case h_19=>
  rename_i c ho
  obtain ⟨callee,as,ts⟩:=c
  simp only at h
  split at h
  · split at h
    · obtain ⟨ti,hti,hk⟩:=zae nb h
      split at hk
      · exact absurd hk (no_B _)
      · cases hk
    · cases h
  · split at h
    · split at h
      · obtain ⟨ti,hti,hk⟩:=zae nb h
        split at hk<;>cases hk
      · cases h
    · cases h
  · split at h
    · split at h<;>cases h
    · split at h
      · split at h<;>cases h
      · cases h
  · split at h
    · split at h
      · split at h<;>cases h
      · cases h
    · rename_i p l ht hl
      split at h
      · rename_i hn
        cases h
        exact zw7 (ts:=ts) (by rw [ho]) ht hl hn hc
      · cases h
    · cases h
  · cases h
 all_goals first
  | exact absurd h (no_of _)
  | exact absurd h (no_A _ _)
  | exact absurd h (no_B _)
  | (obtain ⟨ti, hti, hk⟩ := zae nb h
     first
      | exact absurd hk (no_of _)
      | exact absurd hk (no_A _ _)
      | exact absurd hk (no_B _)
      | (obtain ⟨td,htd,hk⟩:=zae nb hk;exact absurd hk (no_A _ _))
      | (split at hk<;>first | exact absurd hk (no_A _ _) | cases hk)
      | (split at hk
         · exact absurd hk (no_B _)
         · split at hk
           · exact absurd hk (no_A _ _)
           · cases hk)
      | (obtain ⟨e,es,eb,ik,te,hs,hte,hk⟩:=zft nb hk;exact absurd hk (no_A _ _)))
  | (split at h
     · first
       | exact absurd h (no_of _)
       | (obtain ⟨ti,hti,hk⟩:=zae nb h;split at hk<;>cases hk)
       | (split at h<;>cases h)
     · cases h)
  | cases h
theorem ylf {σ:List AV} {o:Oper} {f:FuncId} {caps:List AV} {rd:List Nat} (h:opB P σ o=.mk f caps rd) {F:List AV->AV->Prop} (za3:zc1 P f) (hF:∀ args res,F args res->za1 P f (args++caps) res) :
 zam P o σ rd [] (zbn o (.one (.fnp (zfy P F)))):=by
 have nb:OR.mk f caps rd≠.bad:=by simp
 have no_of:∀ x,OR.of x≠.mk f caps rd:=fun x=>by unfold OR.of;split<;>simp
 have no_A:∀ rd0 a,vofA σ o rd0 a≠.mk f caps rd:=fun rd0 a=>by unfold vofA;split<;>first | exact no_of _ | simp
 have no_B:∀ a,vofB σ o a≠.mk f caps rd:=fun a=>by unfold vofB;split<;>first | exact no_of _ | simp
 unfold opB at h
 split at h
 case h_20=>
  rename_i f' fs cs ho
  split at h
  · rename_i l d hfs hl hd
    split at h
    · rename_i hn
      cases h
      have:=zq7 (P:=P) (by rw [ho,zik hfs]) hl za3 hF (r:=(d::orrL cs.toList,[(d,.one (.fnp (zfy P F)))])) (by unfold val;rw [hd];simp [hn])
      simpa [zbn,hd] using this
    · cases h
  · cases h
 case h_19=>
  rename_i c ho
  obtain ⟨callee,as,ts⟩:=c
  simp only at h
  split at h
  · split at h
    · obtain ⟨ti,hti,hk⟩:=zae nb h
      split at hk
      · exact absurd hk (no_B _)
      · cases hk
    · cases h
  · split at h
    · split at h
      · obtain ⟨ti,hti,hk⟩:=zae nb h
        split at hk<;>cases hk
      · cases h
    · cases h
  · split at h
    · split at h<;>cases h
    · split at h
      · split at h<;>cases h
      · cases h
  · split at h
    · split at h
      · split at h<;>cases h
      · cases h
    · split at h<;>cases h
    · cases h
  · cases h
 all_goals first
  | exact absurd h (no_of _)
  | exact absurd h (no_A _ _)
  | exact absurd h (no_B _)
  | (obtain ⟨ti, hti, hk⟩ := zae nb h
     first
      | exact absurd hk (no_of _)
      | exact absurd hk (no_A _ _)
      | exact absurd hk (no_B _)
      | (obtain ⟨td,htd,hk⟩:=zae nb hk;exact absurd hk (no_A _ _))
      | (split at hk<;>first | exact absurd hk (no_A _ _) | cases hk)
      | (split at hk
         · exact absurd hk (no_B _)
         · split at hk
           · exact absurd hk (no_A _ _)
           · cases hk)
      | (obtain ⟨e,es,eb,ik,te,hs,hte,hk⟩:=zft nb hk;exact absurd hk (no_A _ _)))
  | (split at h
     · first
       | exact absurd h (no_of _)
       | (obtain ⟨ti,hti,hk⟩:=zae nb h;split at hk<;>cases hk)
       | (split at h<;>cases h)
     · cases h)
  | cases h
theorem yf0 {σ:List AV} {o:Oper} {f:FuncId} {l:List AV} {j s:Nat} {ov:OV} {rd:List Nat} (h:opB P σ o=.own f l j s ov rd) {new:OV} {res nw res':AV} (hc:zxm P f l j ov new res)
 (hs:zif (gt σ s) ov new=some nw) (hr:zp7 s ov res=some res'):zam P o σ rd [] ((s,nw)::zbn o res'):=by
 have nb:OR.own f l j s ov rd≠.bad:=by simp
 have no_of:∀ x,OR.of x≠.own f l j s ov rd:=fun x=>by unfold OR.of;split<;>simp
 have no_A:∀ rd0 a,vofA σ o rd0 a≠.own f l j s ov rd:=fun rd0 a=>by unfold vofA;split<;>first | exact no_of _ | simp
 have no_B:∀ a,vofB σ o a≠.own f l j s ov rd:=fun a=>by unfold vofB;split<;>first | exact no_of _ | simp
 unfold opB at h
 split at h
 case h_19=>
  rename_i c ho
  obtain ⟨callee,as,ts⟩:=c
  simp only at h
  split at h
  · split at h
    · obtain ⟨ti,hti,hk⟩:=zae nb h
      split at hk
      · exact absurd hk (no_B _)
      · cases hk
    · cases h
  · split at h
    · split at h
      · obtain ⟨ti,hti,hk⟩:=zae nb h
        split at hk<;>cases hk
      · cases h
    · cases h
  · split at h
    · split at h<;>cases h
    · split at h
      · rename_i hx
        split at h
        · rename_i hn
          cases h
          exact zx6 (ts:=ts) (by rw [ho]) hx hn hc hs hr
        · cases h
      · cases h
  · split at h
    · split at h
      · split at h<;>cases h
      · cases h
    · split at h<;>cases h
    · cases h
  · cases h
 all_goals first
  | exact absurd h (no_of _)
  | exact absurd h (no_A _ _)
  | exact absurd h (no_B _)
  | (obtain ⟨ti, hti, hk⟩ := zae nb h
     first
      | exact absurd hk (no_of _)
      | exact absurd hk (no_A _ _)
      | exact absurd hk (no_B _)
      | (obtain ⟨td,htd,hk⟩:=zae nb hk;exact absurd hk (no_A _ _))
      | (split at hk<;>first | exact absurd hk (no_A _ _) | cases hk)
      | (split at hk
         · exact absurd hk (no_B _)
         · split at hk
           · exact absurd hk (no_A _ _)
           · cases hk)
      | (obtain ⟨e,es,eb,ik,te,hs,hte,hk⟩:=zft nb hk;exact absurd hk (no_A _ _)))
  | (split at h
     · first
       | exact absurd h (no_of _)
       | (obtain ⟨ti,hti,hk⟩:=zae nb h;split at hk<;>cases hk)
       | (split at h<;>cases h)
     · cases h)
  | cases h
def litE (σ:List AV) (d:Nat) (rd:List Nat) (se:List (Nat×AV)) (b:Bool):Option AV->OR
 | some (.one c)=>match b,nh σ d with
  | true,true=>.eff (d::(rd++se.map (·.1))) [d] (se++[(d,.one (.tok d c))])
  | _,_=>.bad
 | _=>.bad
def isNone {α:Type}:Option α->Bool
 | none=>true
 | some _=>false
def litA (P:Program) (σ:List AV) (o:Oper) (T:TypeId) (n:Nat) (ps:List (Nat×Operand)):OR:=match o.dst with
 | some d=>zb2 P T fun ti=>zmn P ti fun te=>litE σ d (orrs ps) (zb0 [d] 0 σ) (isNone o.guard) (zdv σ ti te n ps)
 | none=>.bad
theorem zm3 (es:Nat):∀(n:Nat) (cs:List Cell),cs.length=n*es->(chunk es n cs).flatten=cs
 | 0,cs,h=>by
  have:cs=[]:=List.eq_nil_of_length_eq_zero (by simpa using h)
  subst this;rfl
 | n+1,cs,h=>by
  rw [Nat.add_mul,Nat.one_mul] at h
  simp only [chunk,List.flatten_cons]
  rw [zm3 es n (cs.drop es) (by simp;omega),List.take_append_drop]
theorem zow (es:Nat):∀(n:Nat) (cs:List Cell),cs.length=n*es->∀ r∈chunk es n cs,r.length=es
 | 0,cs,_=>fun r hr=>by cases hr
 | n+1,cs,h=>fun r hr=>by
  rw [Nat.add_mul,Nat.one_mul] at h
  simp only [chunk] at hr
  rcases List.mem_cons.1 hr with rfl | hr
  · simp;omega
  · exact zow es n (cs.drop es) (by simp;omega) r hr
theorem z4g {σ:List AV} {o:Oper} {T:TypeId} {n:Nat} {ps:List (Nat×Operand)} (ho:o.op=.buildSlice T n ps.toArray) {rd tk:List Nat} {eff:List (Nat×AV)} (h:litA P σ o T n ps=.eff rd tk eff) :
 zam P o σ rd tk eff/\(∀ t∈tk,∀ i,(gt σ i).za9 t->i∈rd):=by
 have nb:OR.eff rd tk eff≠.bad:=by simp
 unfold litA at h
 split at h
 case h_2=>cases h
 rename_i d hdst
 obtain ⟨ti,hti,hk⟩:=zae nb h
 obtain ⟨e,es,eb,ik,te,hsh,hte,hk⟩:=zft nb hk
 unfold litE at hk
 split at hk
 case h_2=>cases hk
 rename_i c hb
 split at hk
 case h_2=>cases hk
 rename_i hn
 cases hk
 refine ⟨?_,?_⟩
 · intro E σ' a w hag htk ⟨τ,M,hI⟩ K Q hK
   have hok:=zai hti
   obtain ⟨ds,i,z,hd,hi,hz,_,_,_,_,_,hsh'⟩:=hok.ex
   obtain ⟨rfl,j,z',hj,hz',hjs,hjb,hes0,hzs,hik⟩:=zb7 (hsh'.symm.trans hsh)
   obtain ⟨de,je,ze,hde,hje,hze,_,_,_,hone,hzce,_⟩:=(zai hte).ex
   rw [hj] at hje;cases hje
   rw [hz'] at hze;cases hze
   unfold zdv at hb
   rw [hsh] at hb
   dsimp only at hb
   split at hb
   case isFalse=>cases hb
   rename_i hsmall
   split at hb
   · cases hb
   rename_i cs hfill
   have hav:zc6 σ' ps=zc6 σ ps:=zf1 ps (fun x hx=>hag.opd (fun t ht=>by
    have:=hx t ht
    simp [this]))
   have hz0:RdL M w τ (zbb z'.cells.toList n) (zbb te.zc n):=zm0 (by rw [hzce];exact zig hone) n
   have hinit:(Array.range (n*es)).map (z'.cells[· % z'.cells.size]!)=(zbb z'.cells.toList n).toArray:=by
    apply Array.ext
    · simp [zbx,hzs]
    · intro q h1 h2
      simp only [Array.size_map,Array.size_range] at h1
      have hq:=zh0 z'.cells.toList n q (by simpa [hzs] using h1)
      have hlt:q % z'.cells.size<z'.cells.size:=Nat.mod_lt _ (by rw [hzs];omega)
      simp only [Array.getElem_map,Array.getElem_range,List.getElem_toArray]
      simp only [Array.length_toList,Array.getElem?_toList] at hq
      rw [Array.getElem?_eq_getElem hlt,List.getElem?_eq_getElem (by simpa using h2)] at hq
      simp at hq
      rw [hq]
      simp [hlt]
   obtain ⟨cells',hf,hrd⟩:=ztd hI (fun i=>some (i*es,es)) ps (zbb z'.cells.toList n).toArray _ cs (by simpa using hz0) (by rw [hav];exact hfill)
   have hrun:(execOp a.eval o).run P w=.ok (.value (.slice (some ⟨w.heap.size,0,none⟩) n n)) (w.alloc (.cells cells' e)):=by
    have h24:¬(16777216<n*es):=by omega
    have hne:¬(n*es=0):=by
     intro h0
     rcases Nat.mul_eq_zero.1 h0 with h0 | h0
     · exact hsmall.2 h0
     · exact hes0 h0
    have hpe:(Array.map (fun x=>match x with | (i,x)=>(i,a.eval x)) ps.toArray).toList=ps.map fun p=>(p.1,a.eval p.2):=by simp
    simp only [execOp,ho,Instr.buildSlice,Sem.run_bind,za4 hd,Result.andThen_ok,zat hj,hjs]
    rw [if_neg (by simpa using h24),if_neg hne]
    simp only [Sem.run_bind,zc8 hj hz',Result.andThen_ok,Sem.run_pure,hinit]
    rw [hpe,hf]
    simp [newRow]
   have hcl:(zbs cs).length=n*es:=by
    rw [zis,zib _ _ _ hfill,zbx,hzce]
    simp [hzs]
   have hall:cells'.toList.length=n*es:=by rw [hrd.bare.length,hcl]
   have hn1:n<=n*es:=Nat.le_mul_of_pos_right n (Nat.pos_of_ne_zero hes0)
   obtain ⟨old,h1,h2⟩:=zfe (hag.nh (by simp) hn)
   have hfin:app (zb0 [d] 0 σ++[(d,.one (.tok d c))]) σ'=(zaj [d] σ').set d (.one (.tok d c)):=by
    rw [zlq,zmw hag.1 (fun r hr=>hag.2 r (by simp only [List.mem_cons,List.mem_append];exact .inr (.inr hr))) (fun t ht i hi=>hag.2 i (htk t ht i hi))]
    rfl
   have hg:=yci hI.size hI.mb (.slice none 0 0) e es n cells'.toList hall (by simp [maxLen];omega)
   rw [Array.toArray_toList] at hg
   have hv:zin E M w ⟨.slice none 0 0,es⟩:=.inl ⟨none,rfl⟩
   split at hb
   · rename_i k
     split at hb
     · rename_i he1
       subst he1
       simp only [Option.map_eq_some_iff,AV.one.injEq] at hb
       obtain ⟨l,hl,rfl⟩:=hb
       have hvs:=zkz hrd.bare hl
       have hll:l.length=n:=by
        have h1:=congrArg List.length hvs
        have h2:=hrd.bare.length
        simp only [List.length_map] at h1
        omega
       subst hll
       rw [hvs] at hg
       exact zf3 hdst (by simp) hI h1 h2 rfl hg hg.ints hrun hv (fun _ _ _ _=>zgg) (fun _ _ _ _=>zgg) hfin hK
     · cases hb
   · cases hb
     have hfl:(chunk es n (zbs cs)).flatten=zbs cs:=zm3 es n _ hcl
     have hg':Grew E M w (w.alloc (.cells cells' e)) (fun b o=>M b o∨(b=w.heap.size/\n*es<=o)) (.slice none 0 0) (.slice (some ⟨w.heap.size,0,none⟩) n n) es (chunk es n (zbs cs)).length cells'.toList:=by
      rw [zbt];exact hg
     exact zf3 hdst (by simp) hI h1 h2 rfl hg' (hg'.rows (by rw [hfl];exact hrd.bare) (fun r hr=>zow es n _ hcl r hr) (by rw [zbt];exact hall) (Nat.pos_of_ne_zero hes0)) hrun hv (fun _ _ _ _=>zgg) (fun _ _ _ _=>zgg) hfin hK
 · intro t ht i hi
   have hlt:i<σ.length:=by
    rcases Nat.lt_or_ge i σ.length with h | h
    · exact h
    · unfold gt at hi;rw [List.getElem?_eq_none h] at hi;exact hi.elim
   have hf:=zf4 [d] σ 0 i hlt
   simp only [Nat.zero_add] at hf
   rw [if_neg (fun hall=>AV.zc3 ((List.all_eq_true.1 hall) t ht) hi)] at hf
   have:=List.mem_of_find?_eq_some hf
   simp only [List.mem_cons,List.mem_append]
   exact .inr (.inr (List.mem_map.2 ⟨_,by simpa using this,rfl⟩))
def zhc (es:Nat):Option IntKind->Cell
 | some k=>.ints k []
 | none=>.sl es []
def isZc:Cell->Bool
 | .zc=>true
 | .raw (.slice none 0 0)=>true
 | _=>false
def zcAt:AV->Bool
 | .one c=>isZc c
 | _=>false
def ownN:Option Cell->Option AV
 | some c'=>if c'.cnt≠0 then some (.arr [] c' none) else none
 | none=>none
def zns (σ:List AV) (ti:TI) (x y:Operand):Option AV:=match ti.sh with
 | .slice _ es eb ik=>match zcAt (opd σ x) with
  | true=>match opd σ y with
   | .one cy=>ownN (zoi es eb ik (zhc es ik) cy.bare)
   | _=>none
  | false=>none
 | _=>none
theorem zx5 {M:Nat->Nat->Prop} {w:World} {τ:Nat->TV} {v:Value} {c:Cell} (h:isZc c=true) (hr:RdT M w τ v c):∃ ad,v=.slice ad 0 0:=by
 unfold isZc at h
 split at h
 · have hr:RdC M w v .zc:=hr
   cases hr;exact ⟨_,rfl⟩
 · exact ⟨none,RdC.zak hr⟩
 · cases h
theorem zs0 {σ:List AV} {o:Oper} {T:TypeId} {x y:Operand} (ho:o.op=.call { callee:=.builtin .append,args:=#[x,y],argTypes:=#[T,T] }) {ti:TI} (hti:mkTI P T=some ti)
 {av:AV} (hA:zns σ ti x y=some av) {r:List Nat×List (Nat×AV)} (h:val σ o (orr x++orr y) av=some r):zam P o σ r.1 [] r.2:=by
 obtain ⟨d,hdst,hn,rfl⟩:=zcc h
 obtain ⟨ds,i0,z0,hd0,hi0,hz0,_,_,_,_,_,hsh'⟩:=(zai hti).ex
 unfold zns at hA
 split at hA
 case h_2=>cases hA
 rename_i e es eb ik hsh
 split at hA
 case h_2=>cases hA
 rename_i hzc
 split at hA
 case h_2=>cases hA
 rename_i cy hy
 unfold ownN at hA
 split at hA
 case h_2=>cases hA
 rename_i c' zfi
 split at hA
 case isFalse=>cases hA
 rename_i hcnt0
 cases hA
 obtain ⟨rfl,j,z',hj,hz',hjs,hjb,hes0,hzs,hik⟩:=zb7 (hsh'.symm.trans hsh)
 have hes:0<es:=Nat.pos_of_ne_zero hes0
 intro E σ' a w hag _ ⟨τ,M,hI⟩ K Q hK
 have hox:opd σ' x=opd σ x:=hag.opd (fun t ht=>by simp [ht])
 have hoy:opd σ' y=opd σ y:=hag.opd (fun t ht=>by simp [ht])
 have sx:=hI.opd x
 have sy:=hI.opd y
 rw [hox] at sx;rw [hoy,hy] at sy
 have hxv:∃ ad,a.eval x=.slice ad 0 0:=by
  unfold zcAt at hzc
  split at hzc
  · rename_i c hc
    rw [hc] at sx
    exact zx5 hzc sx
  · cases hzc
 obtain ⟨xad,hxv⟩:=hxv
 have sy:RdT M w τ (a.eval y) cy:=sy
 have hu:(zhc es ik).uni:=by
  cases ik with
  | some k=>exact trivial
  | none=>intro r hr;cases hr
 have hc0:(zhc es ik).cnt=0:=by cases ik<;>rfl
 have hf0:(zhc es ik).flat=[]:=by cases ik<;>rfl
 obtain ⟨m,news,fy,⟨yad,ycap,hyv⟩,hnl,hnr,hnc,hu',hcnt',hesz',hesz,hflat',hb1,hb2⟩:=zh6 hes zfi hu sy.bare
 rw [hc0,Nat.zero_add] at hcnt' hb1 hb2
 rw [hf0,List.nil_append] at hflat'
 have hm0:0<m:=by omega
 obtain ⟨old,h1,h2⟩:=zfe (hag.nh (by simp) hn)
 have hn1:∀ u∈news,u.oneCell'=true:=hnr.oneL
 have hnc':news=[]∨∃ b off cap,Value.slice yad m ycap=.slice (some ⟨b,off,none⟩) m cap/\∀ j u,news[j]? = some u->w.drew.cell? ⟨b,off+j,none⟩=some u:=hnc.imp id fun ⟨b',off,cap',e',hh⟩=>⟨b',off,cap',by rw [<-hyv];exact e',fun j u hj=>(hh j u hj).2⟩
 have hfd:(Builtin.firstCells j.size m (.slice yad m ycap)).run P w.drew=.ok news.toArray w.drew:=zag w.drew m _ news ⟨_,_,rfl⟩ (by rw [hjs];exact hnl) hnc'
 have hfo:(Builtin.firstCells j.size 0 (.slice xad 0 0)).run P w.drew=.ok ([]:List Value).toArray w.drew:=zag w.drew 0 _ [] ⟨_,_,rfl⟩ (by simp) (.inl rfl)
 have hrun:=ze7 (P:=P) hd0 hj hz' w o.type hfd hfo (by omega) (by rw [Nat.zero_add,hjb];exact hb1) (by rw [Nat.zero_add];exact hb2)
 rw [Nat.zero_add] at hrun
 generalize hgc:grownCap w m 0 e=gc at hrun
 have hge:m<=gc:=by rw [<-hgc];exact grownCap_ge w m 0 e
 have hrunop:(execOp a.eval o).run P w=.ok (.value (.slice (some ⟨w.heap.size,0,none⟩) m gc)) (w.drew.alloc (.cells (([]++news).toArray++Builtin.zeroCells z'.cells (gc-m)) e)):=by
  have hrun':=hrun
  simp only [List.nil_append] at hrun'
  simp [execOp,ho,resolve,invoke,builtin,hxv,hyv,hrun']
 have hbl:Below w.heap.size w (w.drew.alloc (.cells (([]++news).toArray++Builtin.zeroCells z'.cells (gc-m)) e)):=((Below.refl _ _).drew).alloc (Nat.le_refl _) _
 have hheap':(w.drew.alloc (.cells (([]++news).toArray++Builtin.zeroCells z'.cells (gc-m)) e)).heap[w.heap.size]? = some (.cells (([]++news).toArray++Builtin.zeroCells z'.cells (gc-m)) e (0,0)):=zcb w.drew _
 unfold Oper.wp
 rw [hrunop]
 show K (a.put o.dst _) _
 rw [hdst]
 refine hK _ _ ⟨τ,_,hI.yg3 hbl h1 h2 (.slice (some ⟨w.heap.size,0,none⟩) m gc) (.arr [] c' none) rfl rfl (Nat.le_refl _) (by simp [blk]) ?_ (fun t ht=>ht.elim)⟩
 refine ⟨w.heap.size,e,news,(Builtin.zeroCells z'.cells (gc-m)).toList,gc,by rw [hcnt'];rfl,?_,?_,fun p hp=>(by cases hp),hu',by rw [hcnt'];exact hge,?_⟩
 · rw [hheap']
   congr 2
   apply Array.ext'
   simp
 · rw [hflat']
   refine hnr.keep (fun b' o u hm hc=>?_)
   have hl:=World.block_lt_of_cell? w _ hc
   exact ⟨fun hh=>hh.elim hm (fun hh=>by simp only [blk] at hh;simp only at hl;omega),(zav.below hbl b' o u hm hc).2⟩
 · rw [hesz',hnl,Array.length_toList,size_zeroCells,hzs,<-Nat.add_mul]
   exact Nat.mul_le_mul_right _ (by omega)
def litB (P:Program) (σ:List AV) (o:Oper) (x y:Operand) (T:TypeId):OR:=zb2 P T fun ti=>vofA σ o (orr x++orr y) (zns σ ti x y)
def opL (P : Program) (σ : List AV) (o : Oper) : Option OR := match o.op with
 | .buildSlice T n ps=>match n != 0 with
  | true=>some (litA P σ o T n ps.toList)
  | false=>none
 | .call c=>match c.callee with
  | .builtin .append=>match c.args.toList,c.argTypes.toList with
   | [x,y],[T,U]=>match zcAt (opd σ x) with
    | true=>if T=U then some (litB P σ o x y T) else none
    | false=>none
   | _,_=>none
  | _=>none
 | _=>none
def opA0 (P:Program) (σ:List AV) (o:Oper):OR:=if isX σ o.op=true then .of (opX P σ o) else opB P σ o
def selO:Option OR->OR->OR
 | some r,_=>r
 | none,r=>r
def opA (P:Program) (lt:Bool) (σ:List AV) (o:Oper):OR:=match lt with
 | true=>selO (opL P σ o) (opA0 P σ o)
 | false=>opA0 P σ o
theorem zsq {σ:List AV} {o:Oper} {rd tk:List Nat} {eff:List (Nat×AV)} (h:opA0 P σ o=.eff rd tk eff):zam P o σ rd tk eff/\(∀ t∈tk,∀ i,(gt σ i).za9 t->i∈rd):=by
 unfold opA0 at h
 split at h
 · unfold OR.of at h
   split at h
   · rename_i rd' e hx
     cases h
     exact ⟨ylw hx,fun t ht=>by cases ht⟩
   · cases h
 · exact yf2 h
theorem z7s {σ:List AV} {o:Oper} {f:FuncId} {args:List AV} {rd:List Nat} (h:opA0 P σ o=.call f args rd) {res:AV} (hc:za1 P f args res):zam P o σ rd [] (zbn o res):=by
 unfold opA0 at h
 split at h
 · unfold OR.of at h;split at h<;>cases h
 · exact ycz h hc
theorem yju {σ:List AV} {o:Oper} {F:List AV->AV->Prop} {args:List AV} {rd:List Nat} (h:opA0 P σ o=.fn (zfy P F) args rd) {res:AV} (hc:F args res):zam P o σ rd [] (zbn o res):=by
 unfold opA0 at h
 split at h
 · unfold OR.of at h;split at h<;>cases h
 · exact ymk h hc
theorem yi8 {σ:List AV} {o:Oper} {f:FuncId} {caps:List AV} {rd:List Nat} (h:opA0 P σ o=.mk f caps rd) {F:List AV->AV->Prop} (za3:zc1 P f) (hF:∀ args res,F args res->za1 P f (args++caps) res) :
 zam P o σ rd [] (zbn o (.one (.fnp (zfy P F)))):=by
 unfold opA0 at h
 split at h
 · unfold OR.of at h;split at h<;>cases h
 · exact ylf h za3 hF
theorem z9a {σ:List AV} {o:Oper} {f:FuncId} {l:List AV} {j s:Nat} {ov:OV} {rd:List Nat} (h:opA0 P σ o=.own f l j s ov rd) {new:OV} {res nw res':AV} (hc:zxm P f l j ov new res)
 (hs:zif (gt σ s) ov new=some nw) (hr:zp7 s ov res=some res'):zam P o σ rd [] ((s,nw)::zbn o res'):=by
 unfold opA0 at h
 split at h
 · unfold OR.of at h;split at h<;>cases h
 · exact yf0 h hc hs hr
theorem yiw {σ:List AV} {o:Oper} {rd tk:List Nat} {eff:List (Nat×AV)} (h:opL P σ o=some (.eff rd tk eff)):zam P o σ rd tk eff/\(∀ t∈tk,∀ i,(gt σ i).za9 t->i∈rd):=by
 unfold opL at h
 split at h
 · rename_i T n ps ho
   split at h
   · simp only [Option.some.injEq] at h
     exact z4g (by rw [ho]) h
   · cases h
 · rename_i c ho
   obtain ⟨callee,args,argTypes⟩:=c
   simp only at h
   split at h
   · split at h
     · rename_i x y T U ha ht
       split at h
       · split at h
         · rename_i hTU
           subst hTU
           simp only [Option.some.injEq] at h
           have ea:args=#[x,y]:=by cases args;simp at ha;rw [ha]
           have et:argTypes=#[T,T]:=by cases argTypes;simp at ht;rw [ht]
           rw [ea,et] at ho
           unfold litB at h
           obtain ⟨ti,hti,hk⟩:=zae (by simp) h
           have:=zbq (fun av ha r hr=>zs0 ho hti ha hr) hk
           obtain ⟨h1,h2⟩:=this
           exact ⟨h2,by rw [h1];intro t ht;cases ht⟩
         · cases h
       · cases h
     · cases h
   · cases h
 · cases h
def zwo (r:OR):Prop:=r=.bad∨∃ rd tk eff,r=.eff rd tk eff
theorem zpe {T:TypeId} {k:TI->OR} (h:∀ ti,zwo (k ti)):zwo (zb2 P T k):=by
 unfold zb2;split
 · exact h _
 · exact .inl rfl
theorem z44 {ti:TI} {k:TI->OR} (h:∀ ti,zwo (k ti)):zwo (zmn P ti k):=by
 unfold zmn;split
 · exact zpe h
 · exact .inl rfl
theorem yg7 {σ:List AV} {d:Nat} {rd:List Nat} {se:List (Nat×AV)} {b:Bool} {a:Option AV}:zwo (litE σ d rd se b a):=by
 unfold litE;split
 · split
   · exact .inr ⟨_,_,_,rfl⟩
   · exact .inl rfl
 · exact .inl rfl
theorem yi6 {σ:List AV} {o:Oper} {rd:List Nat} {a:Option AV}:zwo (vofA σ o rd a):=by
 unfold vofA;split
 · unfold OR.of;split
   · exact .inr ⟨_,_,_,rfl⟩
   · exact .inl rfl
 · exact .inl rfl
theorem ylh {σ:List AV} {o:Oper} {r:OR} (h:opL P σ o=some r):zwo r:=by
 unfold opL at h
 split at h
 · split at h
   · cases h
     unfold litA;split
     · exact zpe (fun _=>z44 (fun _=>yg7))
     · exact .inl rfl
   · cases h
 · split at h
   · split at h
     · split at h
       · split at h
         · cases h
           exact zpe (fun _=>yi6)
         · cases h
       · cases h
     · cases h
   · cases h
 · cases h
theorem z3f {lt:Bool} {σ:List AV} {o:Oper} {rd tk:List Nat} {eff:List (Nat×AV)} (h:opA P lt σ o=.eff rd tk eff):zam P o σ rd tk eff/\(∀ t∈tk,∀ i,(gt σ i).za9 t->i∈rd):=by
 unfold opA at h
 split at h
 · unfold selO at h
   split at h
   · rename_i r hr
     subst h
     exact yiw (by assumption)
   · exact zsq h
 · exact zsq h
theorem zsu {lt:Bool} {σ:List AV} {o:Oper} {r:OR} (h:opA P lt σ o=r) (h1:r≠.bad) (h2:∀ rd tk e,r≠.eff rd tk e):opA0 P σ o=r:=by
 unfold opA at h
 split at h
 · unfold selO at h
   split at h
   · subst h
     rcases ylh (P:=P) (σ:=σ) (o:=o) (by assumption) with h3 | ⟨rd,tk,e,h3⟩
     · exact absurd h3 h1
     · exact absurd h3 (h2 _ _ _)
   · exact h
 · exact h
inductive GR where
 | plain
 | when (d:Nat) (c b:Bool)
 | skip (d:Nat)
 | bad
def zjf (ops:List Oper) (σ:List AV) (o:Oper):GR:=match o.guard with
 | none=>.plain
 | some (j,b)=>match (ops[j]?).bind (·.dst) with
  | some d=>match gt σ d with
   | .one (.raw (.bool c))=>.when d c b
   | .undef=>.skip d
   | _=>.bad
  | none=>.bad
def BadK (_o:Op) (_σ:List AV):Prop:=False
def BadC (_c:Operand) (_σ:List AV):Prop:=False
def yig (P:Program) (f:FuncId) (args:List AV) (K:Bool->AV->Prop):Prop:=∃ res,za1 P f args res/\K true res
def FnK (P:Program) (p:(Nat->Nat->Prop)->World->Value->Prop) (args:List AV) (K:Bool->AV->Prop):Prop:=∃ F,p=zfy P F/\∃ res,F args res/\K true res
def MkK (P:Program) (f:FuncId) (caps:List AV) (K:Bool->(List AV->AV->Prop)->Prop):Prop:=∃ F,zc1 P f/\(∀ args res,F args res->za1 P f (args++caps) res)/\K true F
def OwnK (P:Program) (f:FuncId) (l:List AV) (j:Nat) (ov:OV) (k:Bool->OV->AV->Prop):Prop:=∃ new res,zxm P f l j ov new res/\k true new res
theorem ownk {f:FuncId} {l:List AV} {j:Nat} {ov new:OV} {res:AV} {k:Bool->OV->AV->Prop} (h:zxm P f l j ov new res) (hk:k true new res):OwnK P f l j ov k:=⟨new,res,h,hk⟩
def ownF (o:Oper) (σ:List AV) (s:Nat) (rd:List Nat) (k:Bool->List Nat->List Nat->List (Nat×AV)->Prop) (b:Bool) (nw res:Option AV):Prop:=match nw,res with
 | some nw,some r=>k b rd [] ((s,nw)::zbn o r)
 | _,_=>BadK o.op σ
def zcq (c b:Bool) (X Y:Bool->Prop):Prop:=(c=b->X true)/\(c=(!b)->Y true)
def zk6 (c:Bool) (X Y:Bool->Prop):Prop:=(c=true->X true)/\(c=false->Y true)
theorem za7 {f:FuncId} {args:List AV} {K:Bool->AV->Prop} {res:AV} (h:za1 P f args res) (hk:K true res):yig P f args K:=⟨res,h,hk⟩
theorem ykj {c:Bool} {X Y:Bool->Prop} (hx:c=true->X true) (hy:c=false->Y true):zk6 c X Y:=⟨hx,hy⟩
theorem zap {p:Prop} [Decidable p] {X Y:Bool->Prop} (hx:p->X true) (hy:¬p->Y true):zk6 (decide p) X Y:=⟨fun h=>hx (of_decide_eq_true h),fun h=>hy (of_decide_eq_false h)⟩
def doF (P:Program) (x:OR) (o:Oper) (σ:List AV) (b:Bool) (k:Bool->List Nat->List Nat->List (Nat×AV)->Prop):Prop:=match x with
 | .eff rd tk e=>k b rd tk e
 | .call f args rd=>yig P f args (fun b res=>k b rd [] (zbn o res))
 | .fn p args rd=>FnK P p args (fun b res=>k b rd [] (zbn o res))
 | .mk f caps rd=>MkK P f caps (fun b F=>k b rd [] (zbn o (.one (.fnp (zfy P F)))))
 | .own f l j s ov rd=>OwnK P f l j ov (fun b new res=>ownF o σ s rd k b (zif (gt σ s) ov new) (zp7 s ov res))
 | .bad=>BadK o.op σ
def zw5 (σ:List AV) (o:Oper) (d:Nat) (b:Bool) (k:Bool->List Nat->List Nat->List (Nat×AV)->Prop):Prop:=match o.dst with
 | some e=>if nh σ e then k b [d,e] [] [(e,.undef)] else BadK o.op σ
 | none=>BadK o.op σ
def onD (d:Nat) (o:Oper) (σ:List AV) (k:Bool->List Nat->List Nat->List (Nat×AV)->Prop) (b:Bool) (rd tk:List Nat) (e:List (Nat×AV)):Prop:=match tk with
 | []=>k b (d::rd) [] e
 | _=>BadK o.op σ
def gdF (P:Program) (lt:Bool) (g:GR) (o:Oper) (σ:List AV) (b:Bool) (k:Bool->List Nat->List Nat->List (Nat×AV)->Prop):Prop:=match g with
 | .plain=>doF P (opA P lt σ o) o σ b k
 | .when d c b'=>zcq c b' (fun b=>doF P (opA P lt σ o) o σ b (onD d o σ k)) (fun b=>zw5 σ o d b k)
 | .skip d=>zw5 σ o d b k
 | .bad=>BadK o.op σ
theorem zjv {ops:Array Oper} {σ:List AV} {o:Oper} :
 (zjf ops.toList σ o=.plain->o.guard=none)/\
 (∀ d c b,zjf ops.toList σ o=.when d c b->∃ j,o.guard=some (j,b)/\(ops[j]?).bind (·.dst)=some d/\gt σ d=.one (.raw (.bool c)))/\
 (∀ d,zjf ops.toList σ o=.skip d->∃ j b,o.guard=some (j,b)/\(ops[j]?).bind (·.dst)=some d/\gt σ d=.undef):=by
 unfold zjf
 split
 · rename_i hg;exact ⟨fun _=>hg,fun d c b h=>(by cases h),fun d h=>(by cases h)⟩
 · rename_i j b hg
   simp only [Array.getElem?_toList]
   split
   · rename_i d hd
     split
     · rename_i c hc;exact ⟨fun h=>(by cases h),fun d' c' b' h=>by cases h;exact ⟨j,hg,hd,hc⟩,fun d h=>(by cases h)⟩
     · rename_i hc;exact ⟨fun h=>(by cases h),fun d' c' b' h=>(by cases h),fun d' h=>by cases h;exact ⟨j,b,hg,hd,hc⟩⟩
     · exact ⟨fun h=>(by cases h),fun d' c' b' h=>(by cases h),fun d h=>(by cases h)⟩
   · exact ⟨fun h=>(by cases h),fun d' c' b' h=>(by cases h),fun d h=>(by cases h)⟩
theorem zvs {lt:Bool} {o:Oper} {σ:List AV} {b:Bool} {k:Bool->List Nat->List Nat->List (Nat×AV)->Prop} (h:doF P (opA P lt σ o) o σ b k) :
 ∃ b' rd tk e,zam P o σ rd tk e/\(∀ t∈tk,∀ i,(gt σ i).za9 t->i∈rd)/\k b' rd tk e:=by
 unfold doF at h
 split at h
 · rename_i rd tk e he;exact ⟨_,_,_,_,(z3f he).1,(z3f he).2,h⟩
 · rename_i he;obtain ⟨res,h1,h2⟩:=h;exact ⟨_,_,_,_,z7s (zsu he (by simp) (by simp)) h1,by simp,h2⟩
 · rename_i he;obtain ⟨F,rfl,res,h1,h2⟩:=h;exact ⟨_,_,_,_,yju (zsu he (by simp) (by simp)) h1,by simp,h2⟩
 · rename_i he;obtain ⟨F,hc,hF,h2⟩:=h;exact ⟨_,_,_,_,yi8 (zsu he (by simp) (by simp)) hc hF,by simp,h2⟩
 · rename_i he
   obtain ⟨new,res,h1,h2⟩:=h
   unfold ownF at h2
   split at h2
   · rename_i hs hr;exact ⟨_,_,_,_,z9a (zsu he (by simp) (by simp)) h1 hs hr,by simp,h2⟩
   · exact h2.elim
 · exact h.elim
theorem zqv {σ:List AV} {o:Oper} {d:Nat} {b:Bool} {k:Bool->List Nat->List Nat->List (Nat×AV)->Prop} (h:zw5 σ o d b k):∃ e,o.dst=some e/\nh σ e=true/\k b [d,e] [] [(e,.undef)]:=by
 unfold zw5 at h
 split at h
 · rename_i e he
   split at h
   · rename_i hn;exact ⟨e,he,hn,h⟩
   · exact h.elim
 · exact h.elim
theorem zzs {lt:Bool} {ops:Array Oper} {σ:List AV} {o:Oper} {b:Bool} {k:Bool->List Nat->List Nat->List (Nat×AV)->Prop} (h:gdF P lt (zjf ops.toList σ o) o σ b k) :
 ∃ b' rd tk e,GStep P ops o σ rd tk e/\k b' rd tk e:=by
 unfold gdF at h
 split at h
 · rename_i hg
   obtain ⟨b',rd,tk,e,h1,h2,h3⟩:=zvs h
   exact ⟨b',rd,tk,e,GStep.plain (zjv.1 hg) h2 h1,h3⟩
 · rename_i d c b' hg
   obtain ⟨j,h1,h2,h3⟩:=zjv.2.1 d c b' hg
   obtain ⟨hx,hy⟩:=h
   by_cases hcb:c=b'
   · subst hcb
     obtain ⟨b'',rd,tk,e,ha,hb,hk⟩:=zvs (hx rfl)
     unfold onD at hk
     split at hk
     · exact ⟨_,_,_,_,GStep.taken h1 h2 h3 ha,hk⟩
     · exact hk.elim
   · have hn:c = !b':=by cases c<;>cases b'<;>simp_all
     obtain ⟨e,he,hnh,hk⟩:=zqv (hy hn)
     exact ⟨_,_,_,_,GStep.zd9 h1 h2 (.inl (by rw [h3,hn])) he hnh,hk⟩
 · rename_i d hg
   obtain ⟨j,b',h1,h2,h3⟩:=zjv.2.2 d hg
   obtain ⟨e,he,hnh,hk⟩:=zqv h
   exact ⟨_,_,_,_,GStep.zd9 h1 h2 (.inr h3) he hnh,hk⟩
 · exact h.elim
def RunF (P:Program) (lt:Bool) (ops:List Oper):Bool->List Oper->List AV->(Bool->List AV->Prop)->Prop
 | b,[],σ,K=>K b σ
 | b,o::r,σ,K=>gdF P lt (zjf ops σ o) o σ b (fun b _ _ e=>RunF P lt ops b r (app e σ) K)
theorem RunF.run {lt:Bool} {ops:Array Oper}:∀(l:List Oper) (b:Bool) (σ:List AV) (K:Bool->List AV->Prop),RunF P lt ops.toList b l σ K->Run P ops l σ (fun σ=>∃ b,K b σ)
 | [],b,_,_,h=>⟨b,h⟩
 | o::r,b,σ,K,h=>by
  unfold RunF at h
  obtain ⟨b',rd,tk,e,h1,h2⟩:=zzs h
  exact ⟨_,_,_,h1,RunF.run r b' _ K h2⟩
def IndK (ops:List Oper) (acc:List SR) (σ0:List AV) (k:Bool->Prop):Prop:=indep ops acc σ0=true/\k true
theorem indk {ops:List Oper} {acc:List SR} {σ0:List AV} {k:Bool->Prop} (h:indep ops acc σ0=true) (hk:k true):IndK ops acc σ0 k:=⟨h,hk⟩
def RunG (P:Program) (lt:Bool) (ops:List Oper) (σ0:List AV):Bool->List Oper->List SR->List AV->(Bool->List AV->Prop)->Prop
 | _,[],acc,σ,K=>IndK ops acc σ0 (fun b=>K b σ)
 | b,o::r,acc,σ,K=>gdF P lt (zjf ops σ o) o σ b (fun b rd tk e=>RunG P lt ops σ0 b r (acc++[⟨rd,tk,e⟩]) (app e σ) K)
theorem RunG.runD {lt:Bool} {ops:Array Oper} {σ0:List AV}:∀(l:List Oper) (b:Bool) (acc:List SR) (σ:List AV) (K:Bool->List AV->Prop),RunG P lt ops.toList σ0 b l acc σ K->RunD P ops ops.toList σ0 l acc σ (fun σ=>∃ b,K b σ)
 | [],b,_,_,_,h=>⟨h.1,true,h.2⟩
 | o::r,b,acc,σ,K,h=>by
  unfold RunG at h
  obtain ⟨b',rd,tk,e,h1,h2⟩:=zzs h
  exact ⟨_,_,_,h1,RunG.runD r b' _ _ K h2⟩
def zqc (next:Bool->List AV->Prop) (Q:Exit->Bool->List AV->Prop):Exit->Bool->List AV->Prop
 | .normal=>next
 | .exit id=>Q (.exit id)
 | .goto l=>Q (.goto l)
 | .ret=>Q .ret
 | .panic c=>Q (.panic c)
 | .outgrown=>Q .outgrown
def zhl (id:Nat) (Q:Exit->Bool->List AV->Prop):Exit->Bool->List AV->Prop
 | .normal=>Q .normal
 | .exit j=>if j=id then Q .normal else Q (.exit j)
 | .goto l=>Q (.goto l)
 | .ret=>Q .ret
 | .panic c=>Q (.panic c)
 | .outgrown=>Q .outgrown
def outQ (Q:Exit->Bool->List AV->Prop):Exit->List AV->Prop:=fun e σ=>∃ b,Q e b σ
def ydd (P:Program) (_G:List (Nat×List Gh)) (c:Code) (Q:Exit->Bool->List AV->Prop) (σ:List AV):Prop:=zdf P (.loop c) (outQ Q) σ
def yi2 (P:Program) (k:Bool->Prop):Prop:=P.follows .mixedOrders=true/\k true
def ybj (_:Program) (c:Operand) (σ:List AV) (X Y:Bool->Prop):AV->Prop
 | .one (.raw (.bool p))=>zk6 p X Y
 | _=>BadC c σ
def ghOf:List (Nat×List Gh)->Nat->List Gh
 | [],_=>[]
 | (i,l)::r,j=>if i=j then l else ghOf r j
def zqm:Code->Option Nat
 | .region id _ _=>some id
 | .seq x _=>zqm x
 | .block _ x=>zqm x
 | .loop x=>zqm x
 | _=>none
def zm7:List Gh->Bool
 | []=>false
 | .join::_=>true
 | .frz _::r=>zm7 r
 | .any _::r=>zm7 r
 | .mv _ _::r=>zm7 r
 | .lit::r=>zm7 r
def zkq:List Gh->Bool
 | []=>false
 | .lit::_=>true
 | .frz _::r=>zkq r
 | .any _::r=>zkq r
 | .mv _ _::r=>zkq r
 | .join::r=>zkq r
def ztm:List (Nat×List Gh)->Code->Bool
 | [],_=>false
 | g::G,y=>match zqm y with
  | some id=>zm7 (ghOf (g::G) id)
  | none=>false
def z19 (P:Program) (_G:List (Nat×List Gh)) (x y:Code) (Q:Exit->Bool->List AV->Prop) (σ:List AV):Prop:=zdf P (.seq x y) (outQ Q) σ
def seqF (c:Bool) (A B:Bool->Prop):Prop:=match c with
 | true=>A true
 | false=>B true
def RC (P:Program) (G:List (Nat×List Gh)):Code->Bool->(Exit->Bool->List AV->Prop)->List AV->Prop
 | .skip,b,Q,σ=>Q .normal b σ
 | .region id ops false,b,Q,σ=>RunF P (zkq (ghOf G id)) ops.toList b ops.toList (ghL (ghOf G id) σ) (Q .normal)
 | .region id ops true,b,Q,σ=>yi2 P (fun _=>RunG P (zkq (ghOf G id)) ops.toList (ghL (ghOf G id) σ) b ops.toList [] (ghL (ghOf G id) σ) (Q .normal))
 | .seq x y,b,Q,σ=>seqF (ztm G y) (fun _=>z19 P G x y Q σ) (fun _=>RC P G x b (zqc (fun b σ=>RC P G y b Q σ) Q) σ)
 | .cond c x y,_,Q,σ=>ybj P c σ (fun b=>RC P G x b Q σ) (fun b=>RC P G y b Q σ) (opd σ c)
 | .block id x,b,Q,σ=>RC P G x b (zhl id Q) σ
 | .loop x,_,Q,σ=>ydd P G x Q σ
 | .exit id,b,Q,σ=>Q (.exit id) b σ
 | .ret,b,Q,σ=>Q .ret b σ
 | _,_,_,_=>False
end Go.Slot
