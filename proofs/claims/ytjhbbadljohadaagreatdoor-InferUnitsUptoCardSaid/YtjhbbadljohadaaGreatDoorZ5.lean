/- The proof, part Z5: Mp, Mq, Mr, Mx, Ja, Jb, Jd, My. -/
import Derived.Test.YtjhbbadljohadaaGreatDoorZ4
import Derived.Test.YtjhbbadljohadaaGreatDoorZ1
import Derived.WalkKit
import Derived.ProofKit
import Derived.OpenShut
import Derived.JoinedCond
import Derived.ChangeBook
import Derived.ChangeStays
namespace Go.Slot
open Go Go.RowKit
variable {P:Program}
theorem opB_fn {σ:List AV} {o:Oper} {F:List AV→AV→Prop} {args:List AV} {rd:List Nat} (h:opB P σ o=.fn (FnSpec P F) args rd) {res:AV} (hc:F args res):AStep P o σ rd [] (callEff o res):=by
 have nb:OR.fn (FnSpec P F) args rd≠.bad:=by simp
 have no_of:∀ x,OR.of x≠.fn (FnSpec P F) args rd:=fun x=>by unfold OR.of;split<;>simp
 have no_A:∀ rd0 a,vofA σ o rd0 a≠.fn (FnSpec P F) args rd:=fun rd0 a=>by unfold vofA;split<;>first | exact no_of _ | simp
 have no_B:∀ a,vofB σ o a≠.fn (FnSpec P F) args rd:=fun a=>by unfold vofB;split<;>first | exact no_of _ | simp
 unfold opB at h
 split at h
 case h_19=>
  rename_i c ho
  obtain ⟨callee,as,ts⟩:=c
  simp only at h
  split at h
  · split at h
    · obtain ⟨ti,hti,hk⟩:=withTI_eq nb h
      split at hk
      · exact absurd hk (no_B _)
      · cases hk
    · cases h
  · split at h
    · split at h
      · obtain ⟨ti,hti,hk⟩:=withTI_eq nb h
        split at hk<;>cases hk
      · cases h
    · cases h
  · split at h
    · split at h<;>cases h
    · split at h
      · split at h<;>cases h
      · cases h
  · split at h
    · split at h
      · split at h<;>cases h
      · cases h
    · rename_i p l ht hl
      split at h
      · rename_i hn
        cases h
        exact sound_callf (ts:=ts) (by rw [ho]) ht hl hn hc
      · cases h
    · cases h
  · cases h
 all_goals first
  | exact absurd h (no_of _)
  | exact absurd h (no_A _ _)
  | exact absurd h (no_B _)
  | (obtain ⟨ti, hti, hk⟩ := withTI_eq nb h
     first
      | exact absurd hk (no_of _)
      | exact absurd hk (no_A _ _)
      | exact absurd hk (no_B _)
      | (obtain ⟨td,htd,hk⟩:=withTI_eq nb hk;exact absurd hk (no_A _ _))
      | (split at hk<;>first | exact absurd hk (no_A _ _) | cases hk)
      | (split at hk
         · exact absurd hk (no_B _)
         · split at hk
           · exact absurd hk (no_A _ _)
           · cases hk)
      | (obtain ⟨e,es,eb,ik,te,hs,hte,hk⟩:=elemTI_eq nb hk;exact absurd hk (no_A _ _)))
  | (split at h
     · first
       | exact absurd h (no_of _)
       | (obtain ⟨ti,hti,hk⟩:=withTI_eq nb h;split at hk<;>cases hk)
       | (split at h<;>cases h)
     · cases h)
  | cases h
theorem opB_mk {σ:List AV} {o:Oper} {f:FuncId} {caps:List AV} {rd:List Nat} (h:opB P σ o=.mk f caps rd) {F:List AV→AV→Prop} (hcall:Callable P f) (hF:∀ args res,F args res→CallsTo P f (args++caps) res) :
 AStep P o σ rd [] (callEff o (.one (.fnp (FnSpec P F)))):=by
 have nb:OR.mk f caps rd≠.bad:=by simp
 have no_of:∀ x,OR.of x≠.mk f caps rd:=fun x=>by unfold OR.of;split<;>simp
 have no_A:∀ rd0 a,vofA σ o rd0 a≠.mk f caps rd:=fun rd0 a=>by unfold vofA;split<;>first | exact no_of _ | simp
 have no_B:∀ a,vofB σ o a≠.mk f caps rd:=fun a=>by unfold vofB;split<;>first | exact no_of _ | simp
 unfold opB at h
 split at h
 case h_20=>
  rename_i f' fs cs ho
  split at h
  · rename_i l d hfs hl hd
    split at h
    · rename_i hn
      cases h
      have:=sound_makeFunc (P:=P) (by rw [ho,toList_of hfs]) hl hcall hF (r:=(d::orrL cs.toList,[(d,.one (.fnp (FnSpec P F)))])) (by unfold val;rw [hd];simp [hn])
      simpa [callEff,hd] using this
    · cases h
  · cases h
 case h_19=>
  rename_i c ho
  obtain ⟨callee,as,ts⟩:=c
  simp only at h
  split at h
  · split at h
    · obtain ⟨ti,hti,hk⟩:=withTI_eq nb h
      split at hk
      · exact absurd hk (no_B _)
      · cases hk
    · cases h
  · split at h
    · split at h
      · obtain ⟨ti,hti,hk⟩:=withTI_eq nb h
        split at hk<;>cases hk
      · cases h
    · cases h
  · split at h
    · split at h<;>cases h
    · split at h
      · split at h<;>cases h
      · cases h
  · split at h
    · split at h
      · split at h<;>cases h
      · cases h
    · split at h<;>cases h
    · cases h
  · cases h
 all_goals first
  | exact absurd h (no_of _)
  | exact absurd h (no_A _ _)
  | exact absurd h (no_B _)
  | (obtain ⟨ti, hti, hk⟩ := withTI_eq nb h
     first
      | exact absurd hk (no_of _)
      | exact absurd hk (no_A _ _)
      | exact absurd hk (no_B _)
      | (obtain ⟨td,htd,hk⟩:=withTI_eq nb hk;exact absurd hk (no_A _ _))
      | (split at hk<;>first | exact absurd hk (no_A _ _) | cases hk)
      | (split at hk
         · exact absurd hk (no_B _)
         · split at hk
           · exact absurd hk (no_A _ _)
           · cases hk)
      | (obtain ⟨e,es,eb,ik,te,hs,hte,hk⟩:=elemTI_eq nb hk;exact absurd hk (no_A _ _)))
  | (split at h
     · first
       | exact absurd h (no_of _)
       | (obtain ⟨ti,hti,hk⟩:=withTI_eq nb h;split at hk<;>cases hk)
       | (split at h<;>cases h)
     · cases h)
  | cases h
theorem opB_own {σ:List AV} {o:Oper} {f:FuncId} {l:List AV} {j s:Nat} {ov:OV} {rd:List Nat} (h:opB P σ o=.own f l j s ov rd) {new:OV} {res nw res':AV} (hc:CallX P f l j ov new res)
 (hs:newSlot (gt σ s) ov new=some nw) (hr:newRes s ov res=some res'):AStep P o σ rd [] ((s,nw)::callEff o res'):=by
 have nb:OR.own f l j s ov rd≠.bad:=by simp
 have no_of:∀ x,OR.of x≠.own f l j s ov rd:=fun x=>by unfold OR.of;split<;>simp
 have no_A:∀ rd0 a,vofA σ o rd0 a≠.own f l j s ov rd:=fun rd0 a=>by unfold vofA;split<;>first | exact no_of _ | simp
 have no_B:∀ a,vofB σ o a≠.own f l j s ov rd:=fun a=>by unfold vofB;split<;>first | exact no_of _ | simp
 unfold opB at h
 split at h
 case h_19=>
  rename_i c ho
  obtain ⟨callee,as,ts⟩:=c
  simp only at h
  split at h
  · split at h
    · obtain ⟨ti,hti,hk⟩:=withTI_eq nb h
      split at hk
      · exact absurd hk (no_B _)
      · cases hk
    · cases h
  · split at h
    · split at h
      · obtain ⟨ti,hti,hk⟩:=withTI_eq nb h
        split at hk<;>cases hk
      · cases h
    · cases h
  · split at h
    · split at h<;>cases h
    · split at h
      · rename_i hx
        split at h
        · rename_i hn
          cases h
          exact sound_callx (ts:=ts) (by rw [ho]) hx hn hc hs hr
        · cases h
      · cases h
  · split at h
    · split at h
      · split at h<;>cases h
      · cases h
    · split at h<;>cases h
    · cases h
  · cases h
 all_goals first
  | exact absurd h (no_of _)
  | exact absurd h (no_A _ _)
  | exact absurd h (no_B _)
  | (obtain ⟨ti, hti, hk⟩ := withTI_eq nb h
     first
      | exact absurd hk (no_of _)
      | exact absurd hk (no_A _ _)
      | exact absurd hk (no_B _)
      | (obtain ⟨td,htd,hk⟩:=withTI_eq nb hk;exact absurd hk (no_A _ _))
      | (split at hk<;>first | exact absurd hk (no_A _ _) | cases hk)
      | (split at hk
         · exact absurd hk (no_B _)
         · split at hk
           · exact absurd hk (no_A _ _)
           · cases hk)
      | (obtain ⟨e,es,eb,ik,te,hs,hte,hk⟩:=elemTI_eq nb hk;exact absurd hk (no_A _ _)))
  | (split at h
     · first
       | exact absurd h (no_of _)
       | (obtain ⟨ti,hti,hk⟩:=withTI_eq nb h;split at hk<;>cases hk)
       | (split at h<;>cases h)
     · cases h)
  | cases h
def litE (σ:List AV) (d:Nat) (rd:List Nat) (se:List (Nat×AV)) (b:Bool):Option AV→OR
 | some (.one c)=>match b,nh σ d with
  | true,true=>.eff (d::(rd++se.map (·.1))) [d] (se++[(d,.one (.tok d c))])
  | _,_=>.bad
 | _=>.bad
def isNone {α:Type}:Option α→Bool
 | none=>true
 | some _=>false
def litA (P:Program) (σ:List AV) (o:Oper) (T:TypeId) (n:Nat) (ps:List (Nat×Operand)):OR:=match o.dst with
 | some d=>withTI P T fun ti=>elemTI P ti fun te=>litE σ d (orrs ps) (stripEff [d] 0 σ) (isNone o.guard) (buildSliceA σ ti te n ps)
 | none=>.bad
theorem chunk_flat (es:Nat):∀(n:Nat) (cs:List Cell),cs.length=n*es→(chunk es n cs).flatten=cs
 | 0,cs,h=>by
  have:cs=[]:=List.eq_nil_of_length_eq_zero (by simpa using h)
  subst this;rfl
 | n+1,cs,h=>by
  rw [Nat.add_mul,Nat.one_mul] at h
  simp only [chunk,List.flatten_cons]
  rw [chunk_flat es n (cs.drop es) (by simp;omega),List.take_append_drop]
theorem chunk_len (es:Nat):∀(n:Nat) (cs:List Cell),cs.length=n*es→∀ r∈chunk es n cs,r.length=es
 | 0,cs,_=>fun r hr=>by cases hr
 | n+1,cs,h=>fun r hr=>by
  rw [Nat.add_mul,Nat.one_mul] at h
  simp only [chunk] at hr
  rcases List.mem_cons.1 hr with rfl | hr
  · simp;omega
  · exact chunk_len es n (cs.drop es) (by simp;omega) r hr
theorem sound_lit {σ:List AV} {o:Oper} {T:TypeId} {n:Nat} {ps:List (Nat×Operand)} (ho:o.op=.buildSlice T n ps.toArray) {rd tk:List Nat} {eff:List (Nat×AV)} (h:litA P σ o T n ps=.eff rd tk eff) :
 AStep P o σ rd tk eff∧(∀ t∈tk,∀ i,(gt σ i).hasTok t→i∈rd):=by
 have nb:OR.eff rd tk eff≠.bad:=by simp
 unfold litA at h
 split at h
 case h_2=>cases h
 rename_i d hdst
 obtain ⟨ti,hti,hk⟩:=withTI_eq nb h
 obtain ⟨e,es,eb,ik,te,hsh,hte,hk⟩:=elemTI_eq nb hk
 unfold litE at hk
 split at hk
 case h_2=>cases hk
 rename_i c hb
 split at hk
 case h_2=>cases hk
 rename_i hn
 cases hk
 refine ⟨?_,?_⟩
 · intro E σ' a w hag htk ⟨τ,M,hI⟩ K Q hK
   have hok:=mkTI_ok hti
   obtain ⟨ds,i,z,hd,hi,hz,_,_,_,_,_,hsh'⟩:=hok.ex
   obtain ⟨rfl,j,z',hj,hz',hjs,hjb,hes0,hzs,hik⟩:=shOf_slice (hsh'.symm.trans hsh)
   obtain ⟨de,je,ze,hde,hje,hze,_,_,_,hone,hzce,_⟩:=(mkTI_ok hte).ex
   rw [hj] at hje;cases hje
   rw [hz'] at hze;cases hze
   unfold buildSliceA at hb
   rw [hsh] at hb
   dsimp only at hb
   split at hb
   case isFalse=>cases hb
   rename_i hsmall
   split at hb
   · cases hb
   rename_i cs hfill
   have hav:avParts σ' ps=avParts σ ps:=avParts_congr ps (fun x hx=>hag.opd (fun t ht=>by
    have:=hx t ht
    simp [this]))
   have hz0:RdL M w τ (repeatL z'.cells.toList n) (repeatL te.zc n):=repeatL_ok (by rw [hzce];exact zcells_ok hone) n
   have hinit:(Array.range (n*es)).map (z'.cells[· % z'.cells.size]!)=(repeatL z'.cells.toList n).toArray:=by
    apply Array.ext
    · simp [repeatL_length,hzs]
    · intro q h1 h2
      simp only [Array.size_map,Array.size_range] at h1
      have hq:=repeatL_get z'.cells.toList n q (by simpa [hzs] using h1)
      have hlt:q % z'.cells.size<z'.cells.size:=Nat.mod_lt _ (by rw [hzs];omega)
      simp only [Array.getElem_map,Array.getElem_range,List.getElem_toArray]
      simp only [Array.length_toList,Array.getElem?_toList] at hq
      rw [Array.getElem?_eq_getElem hlt,List.getElem?_eq_getElem (by simpa using h2)] at hq
      simp at hq
      rw [hq]
      simp [hlt]
   obtain ⟨cells',hf,hrd⟩:=fill_ok hI (fun i=>some (i*es,es)) ps (repeatL z'.cells.toList n).toArray _ cs (by simpa using hz0) (by rw [hav];exact hfill)
   have hrun:(execOp a.eval o).run P w=.ok (.value (.slice (some ⟨w.heap.size,0,none⟩) n n)) (w.alloc (.cells cells' e)):=by
    have h24:¬(16777216<n*es):=by omega
    have hne:¬(n*es=0):=by
     intro h0
     rcases Nat.mul_eq_zero.1 h0 with h0 | h0
     · exact hsmall.2 h0
     · exact hes0 h0
    have hpe:(Array.map (fun x=>match x with | (i,x)=>(i,a.eval x)) ps.toArray).toList=ps.map fun p=>(p.1,a.eval p.2):=by simp
    simp only [execOp,ho,Instr.buildSlice,Sem.run_bind,run_underlying' hd,Result.andThen_ok,run_sizeOf' hj,hjs]
    rw [if_neg (by simpa using h24),if_neg hne]
    simp only [Sem.run_bind,run_zeroValue' hj hz',Result.andThen_ok,Sem.run_pure,hinit]
    rw [hpe,hf]
    simp [newRow]
   have hcl:(bareL cs).length=n*es:=by
    rw [bareL_length,fillC_length _ _ _ hfill,repeatL_length,hzce]
    simp [hzs]
   have hall:cells'.toList.length=n*es:=by rw [hrd.bare.length,hcl]
   have hn1:n≤n*es:=Nat.le_mul_of_pos_right n (Nat.pos_of_ne_zero hes0)
   obtain ⟨old,h1,h2⟩:=nh_spec (hag.nh (by simp) hn)
   have hfin:app (stripEff [d] 0 σ++[(d,.one (.tok d c))]) σ'=(stripAll [d] σ').set d (.one (.tok d c)):=by
    rw [app_append,app_stripEff hag.1 (fun r hr=>hag.2 r (by simp only [List.mem_cons,List.mem_append];exact .inr (.inr hr))) (fun t ht i hi=>hag.2 i (htk t ht i hi))]
    rfl
   have hg:=grew_lit hI.size hI.mb (.slice none 0 0) e es n cells'.toList hall (by simp [maxLen];omega)
   rw [Array.toArray_toList] at hg
   have hv:TokOk E M w ⟨.slice none 0 0,es⟩:=.inl ⟨none,rfl⟩
   split at hb
   · rename_i k
     split at hb
     · rename_i he1
       subst he1
       simp only [Option.map_eq_some_iff,AV.one.injEq] at hb
       obtain ⟨l,hl,rfl⟩:=hb
       have hvs:=intsOf_ok hrd.bare hl
       have hll:l.length=n:=by
        have h1:=congrArg List.length hvs
        have h2:=hrd.bare.length
        simp only [List.length_map] at h1
        omega
       subst hll
       rw [hvs] at hg
       exact append_finish hdst (by simp) hI h1 h2 rfl hg hg.ints hrun hv (fun _ _ _ _=>tokB_zero) (fun _ _ _ _=>tokB_zero) hfin hK
     · cases hb
   · cases hb
     have hfl:(chunk es n (bareL cs)).flatten=bareL cs:=chunk_flat es n _ hcl
     have hg':Grew E M w (w.alloc (.cells cells' e)) (fun b o=>M b o∨(b=w.heap.size∧n*es≤o)) (.slice none 0 0) (.slice (some ⟨w.heap.size,0,none⟩) n n) es (chunk es n (bareL cs)).length cells'.toList:=by
      rw [chunk_length];exact hg
     exact append_finish hdst (by simp) hI h1 h2 rfl hg' (hg'.rows (by rw [hfl];exact hrd.bare) (fun r hr=>chunk_len es n _ hcl r hr) (by rw [chunk_length];exact hall) (Nat.pos_of_ne_zero hes0)) hrun hv (fun _ _ _ _=>tokB_zero) (fun _ _ _ _=>tokB_zero) hfin hK
 · intro t ht i hi
   have hlt:i<σ.length:=by
    rcases Nat.lt_or_ge i σ.length with h | h
    · exact h
    · unfold gt at hi;rw [List.getElem?_eq_none h] at hi;exact hi.elim
   have hf:=stripEff_find [d] σ 0 i hlt
   simp only [Nat.zero_add] at hf
   rw [if_neg (fun hall=>AV.noTok_spec ((List.all_eq_true.1 hall) t ht) hi)] at hf
   have:=List.mem_of_find?_eq_some hf
   simp only [List.mem_cons,List.mem_append]
   exact .inr (.inr (List.mem_map.2 ⟨_,by simpa using this,rfl⟩))
def emptyOf (es:Nat):Option IntKind→Cell
 | some k=>.ints k []
 | none=>.sl es []
def isZc:Cell→Bool
 | .zc=>true
 | .raw (.slice none 0 0)=>true
 | _=>false
def zcAt:AV→Bool
 | .one c=>isZc c
 | _=>false
def ownN:Option Cell→Option AV
 | some c'=>if c'.cnt≠0 then some (.arr [] c' none) else none
 | none=>none
def appendNA (σ:List AV) (ti:TI) (x y:Operand):Option AV:=match ti.sh with
 | .slice _ es eb ik=>match zcAt (opd σ x) with
  | true=>match opd σ y with
   | .one cy=>ownN (joinC es eb ik (emptyOf es ik) cy.bare)
   | _=>none
  | false=>none
 | _=>none
theorem isZc_ok {M:Nat→Nat→Prop} {w:World} {τ:Nat→TV} {v:Value} {c:Cell} (h:isZc c=true) (hr:RdT M w τ v c):∃ ad,v=.slice ad 0 0:=by
 unfold isZc at h
 split at h
 · have hr:RdC M w v .zc:=hr
   cases hr;exact ⟨_,rfl⟩
 · exact ⟨none,RdC.raw_inv hr⟩
 · cases h
theorem sound_appendN {σ:List AV} {o:Oper} {T:TypeId} {x y:Operand} (ho:o.op=.call { callee:=.builtin .append,args:=#[x,y],argTypes:=#[T,T] }) {ti:TI} (hti:mkTI P T=some ti)
 {av:AV} (hA:appendNA σ ti x y=some av) {r:List Nat×List (Nat×AV)} (h:val σ o (orr x++orr y) av=some r):AStep P o σ r.1 [] r.2:=by
 obtain ⟨d,hdst,hn,rfl⟩:=val_spec h
 obtain ⟨ds,i0,z0,hd0,hi0,hz0,_,_,_,_,_,hsh'⟩:=(mkTI_ok hti).ex
 unfold appendNA at hA
 split at hA
 case h_2=>cases hA
 rename_i e es eb ik hsh
 split at hA
 case h_2=>cases hA
 rename_i hzc
 split at hA
 case h_2=>cases hA
 rename_i cy hy
 unfold ownN at hA
 split at hA
 case h_2=>cases hA
 rename_i c' hjoin
 split at hA
 case isFalse=>cases hA
 rename_i hcnt0
 cases hA
 obtain ⟨rfl,j,z',hj,hz',hjs,hjb,hes0,hzs,hik⟩:=shOf_slice (hsh'.symm.trans hsh)
 have hes:0<es:=Nat.pos_of_ne_zero hes0
 intro E σ' a w hag _ ⟨τ,M,hI⟩ K Q hK
 have hox:opd σ' x=opd σ x:=hag.opd (fun t ht=>by simp [ht])
 have hoy:opd σ' y=opd σ y:=hag.opd (fun t ht=>by simp [ht])
 have sx:=hI.opd x
 have sy:=hI.opd y
 rw [hox] at sx;rw [hoy,hy] at sy
 have hxv:∃ ad,a.eval x=.slice ad 0 0:=by
  unfold zcAt at hzc
  split at hzc
  · rename_i c hc
    rw [hc] at sx
    exact isZc_ok hzc sx
  · cases hzc
 obtain ⟨xad,hxv⟩:=hxv
 have sy:RdT M w τ (a.eval y) cy:=sy
 have hu:(emptyOf es ik).uni:=by
  cases ik with
  | some k=>exact trivial
  | none=>intro r hr;cases hr
 have hc0:(emptyOf es ik).cnt=0:=by cases ik<;>rfl
 have hf0:(emptyOf es ik).flat=[]:=by cases ik<;>rfl
 obtain ⟨m,news,fy,⟨yad,ycap,hyv⟩,hnl,hnr,hnc,hu',hcnt',hesz',hesz,hflat',hb1,hb2⟩:=joinC_cells hes hjoin hu sy.bare
 rw [hc0,Nat.zero_add] at hcnt' hb1 hb2
 rw [hf0,List.nil_append] at hflat'
 have hm0:0<m:=by omega
 obtain ⟨old,h1,h2⟩:=nh_spec (hag.nh (by simp) hn)
 have hn1:∀ u∈news,u.oneCell'=true:=hnr.oneL
 have hnc':news=[]∨∃ b off cap,Value.slice yad m ycap=.slice (some ⟨b,off,none⟩) m cap∧∀ j u,news[j]? = some u→w.drew.cell? ⟨b,off+j,none⟩=some u:=hnc.imp id fun ⟨b',off,cap',e',hh⟩=>⟨b',off,cap',by rw [←hyv];exact e',fun j u hj=>(hh j u hj).2⟩
 have hfd:(Builtin.firstCells j.size m (.slice yad m ycap)).run P w.drew=.ok news.toArray w.drew:=run_firstCells_any w.drew m _ news ⟨_,_,rfl⟩ (by rw [hjs];exact hnl) hnc'
 have hfo:(Builtin.firstCells j.size 0 (.slice xad 0 0)).run P w.drew=.ok ([]:List Value).toArray w.drew:=run_firstCells_any w.drew 0 _ [] ⟨_,_,rfl⟩ (by simp) (.inl rfl)
 have hrun:=run_append_new (P:=P) hd0 hj hz' w o.type hfd hfo (by omega) (by rw [Nat.zero_add,hjb];exact hb1) (by rw [Nat.zero_add];exact hb2)
 rw [Nat.zero_add] at hrun
 generalize hgc:grownCap w m 0 e=gc at hrun
 have hge:m≤gc:=by rw [←hgc];exact grownCap_ge w m 0 e
 have hrunop:(execOp a.eval o).run P w=.ok (.value (.slice (some ⟨w.heap.size,0,none⟩) m gc)) (w.drew.alloc (.cells (([]++news).toArray++Builtin.zeroCells z'.cells (gc-m)) e)):=by
  have hrun':=hrun
  simp only [List.nil_append] at hrun'
  simp [execOp,ho,resolve,invoke,builtin,hxv,hyv,hrun']
 have hbl:Below w.heap.size w (w.drew.alloc (.cells (([]++news).toArray++Builtin.zeroCells z'.cells (gc-m)) e)):=((Below.refl _ _).drew).alloc (Nat.le_refl _) _
 have hheap':(w.drew.alloc (.cells (([]++news).toArray++Builtin.zeroCells z'.cells (gc-m)) e)).heap[w.heap.size]? = some (.cells (([]++news).toArray++Builtin.zeroCells z'.cells (gc-m)) e (0,0)):=heap_new w.drew _
 unfold Oper.wp
 rw [hrunop]
 show K (a.put o.dst _) _
 rw [hdst]
 refine hK _ _ ⟨τ,_,hI.adopt hbl h1 h2 (.slice (some ⟨w.heap.size,0,none⟩) m gc) (.arr [] c' none) rfl rfl (Nat.le_refl _) (by simp [blk]) ?_ (fun t ht=>ht.elim)⟩
 refine ⟨w.heap.size,e,news,(Builtin.zeroCells z'.cells (gc-m)).toList,gc,by rw [hcnt'];rfl,?_,?_,fun p hp=>(by cases hp),hu',by rw [hcnt'];exact hge,?_⟩
 · rw [hheap']
   congr 2
   apply Array.ext'
   simp
 · rw [hflat']
   refine hnr.keep (fun b' o u hm hc=>?_)
   have hl:=World.block_lt_of_cell? w _ hc
   exact ⟨fun hh=>hh.elim hm (fun hh=>by simp only [blk] at hh;simp only at hl;omega),(Keeps.below hbl b' o u hm hc).2⟩
 · rw [hesz',hnl,Array.length_toList,size_zeroCells,hzs,←Nat.add_mul]
   exact Nat.mul_le_mul_right _ (by omega)
def litB (P:Program) (σ:List AV) (o:Oper) (x y:Operand) (T:TypeId):OR:=withTI P T fun ti=>vofA σ o (orr x++orr y) (appendNA σ ti x y)
def opL (P : Program) (σ : List AV) (o : Oper) : Option OR := match o.op with
 | .buildSlice T n ps=>match n != 0 with
  | true=>some (litA P σ o T n ps.toList)
  | false=>none
 | .call c=>match c.callee with
  | .builtin .append=>match c.args.toList,c.argTypes.toList with
   | [x,y],[T,U]=>match zcAt (opd σ x) with
    | true=>if T=U then some (litB P σ o x y T) else none
    | false=>none
   | _,_=>none
  | _=>none
 | _=>none
def opA0 (P:Program) (σ:List AV) (o:Oper):OR:=if isX σ o.op=true then .of (opX P σ o) else opB P σ o
def selO:Option OR→OR→OR
 | some r,_=>r
 | none,r=>r
def opA (P:Program) (lt:Bool) (σ:List AV) (o:Oper):OR:=match lt with
 | true=>selO (opL P σ o) (opA0 P σ o)
 | false=>opA0 P σ o
theorem opA0_eff {σ:List AV} {o:Oper} {rd tk:List Nat} {eff:List (Nat×AV)} (h:opA0 P σ o=.eff rd tk eff):AStep P o σ rd tk eff∧(∀ t∈tk,∀ i,(gt σ i).hasTok t→i∈rd):=by
 unfold opA0 at h
 split at h
 · unfold OR.of at h
   split at h
   · rename_i rd' e hx
     cases h
     exact ⟨opX_ok hx,fun t ht=>by cases ht⟩
   · cases h
 · exact opB_eff h
theorem opA0_call {σ:List AV} {o:Oper} {f:FuncId} {args:List AV} {rd:List Nat} (h:opA0 P σ o=.call f args rd) {res:AV} (hc:CallsTo P f args res):AStep P o σ rd [] (callEff o res):=by
 unfold opA0 at h
 split at h
 · unfold OR.of at h;split at h<;>cases h
 · exact opB_call h hc
theorem opA0_fn {σ:List AV} {o:Oper} {F:List AV→AV→Prop} {args:List AV} {rd:List Nat} (h:opA0 P σ o=.fn (FnSpec P F) args rd) {res:AV} (hc:F args res):AStep P o σ rd [] (callEff o res):=by
 unfold opA0 at h
 split at h
 · unfold OR.of at h;split at h<;>cases h
 · exact opB_fn h hc
theorem opA0_mk {σ:List AV} {o:Oper} {f:FuncId} {caps:List AV} {rd:List Nat} (h:opA0 P σ o=.mk f caps rd) {F:List AV→AV→Prop} (hcall:Callable P f) (hF:∀ args res,F args res→CallsTo P f (args++caps) res) :
 AStep P o σ rd [] (callEff o (.one (.fnp (FnSpec P F)))):=by
 unfold opA0 at h
 split at h
 · unfold OR.of at h;split at h<;>cases h
 · exact opB_mk h hcall hF
theorem opA0_own {σ:List AV} {o:Oper} {f:FuncId} {l:List AV} {j s:Nat} {ov:OV} {rd:List Nat} (h:opA0 P σ o=.own f l j s ov rd) {new:OV} {res nw res':AV} (hc:CallX P f l j ov new res)
 (hs:newSlot (gt σ s) ov new=some nw) (hr:newRes s ov res=some res'):AStep P o σ rd [] ((s,nw)::callEff o res'):=by
 unfold opA0 at h
 split at h
 · unfold OR.of at h;split at h<;>cases h
 · exact opB_own h hc hs hr
theorem opL_eff {σ:List AV} {o:Oper} {rd tk:List Nat} {eff:List (Nat×AV)} (h:opL P σ o=some (.eff rd tk eff)):AStep P o σ rd tk eff∧(∀ t∈tk,∀ i,(gt σ i).hasTok t→i∈rd):=by
 unfold opL at h
 split at h
 · rename_i T n ps ho
   split at h
   · simp only [Option.some.injEq] at h
     exact sound_lit (by rw [ho]) h
   · cases h
 · rename_i c ho
   obtain ⟨callee,args,argTypes⟩:=c
   simp only at h
   split at h
   · split at h
     · rename_i x y T U ha ht
       split at h
       · split at h
         · rename_i hTU
           subst hTU
           simp only [Option.some.injEq] at h
           have ea:args=#[x,y]:=by cases args;simp at ha;rw [ha]
           have et:argTypes=#[T,T]:=by cases argTypes;simp at ht;rw [ht]
           rw [ea,et] at ho
           unfold litB at h
           obtain ⟨ti,hti,hk⟩:=withTI_eq (by simp) h
           have:=vofA_astep (fun av ha r hr=>sound_appendN ho hti ha hr) hk
           obtain ⟨h1,h2⟩:=this
           exact ⟨h2,by rw [h1];intro t ht;cases ht⟩
         · cases h
       · cases h
     · cases h
   · cases h
 · cases h
def effOr (r:OR):Prop:=r=.bad∨∃ rd tk eff,r=.eff rd tk eff
theorem withTI_or {T:TypeId} {k:TI→OR} (h:∀ ti,effOr (k ti)):effOr (withTI P T k):=by
 unfold withTI;split
 · exact h _
 · exact .inl rfl
theorem elemTI_or {ti:TI} {k:TI→OR} (h:∀ ti,effOr (k ti)):effOr (elemTI P ti k):=by
 unfold elemTI;split
 · exact withTI_or h
 · exact .inl rfl
theorem litE_or {σ:List AV} {d:Nat} {rd:List Nat} {se:List (Nat×AV)} {b:Bool} {a:Option AV}:effOr (litE σ d rd se b a):=by
 unfold litE;split
 · split
   · exact .inr ⟨_,_,_,rfl⟩
   · exact .inl rfl
 · exact .inl rfl
theorem vofA_or {σ:List AV} {o:Oper} {rd:List Nat} {a:Option AV}:effOr (vofA σ o rd a):=by
 unfold vofA;split
 · unfold OR.of;split
   · exact .inr ⟨_,_,_,rfl⟩
   · exact .inl rfl
 · exact .inl rfl
theorem opL_or {σ:List AV} {o:Oper} {r:OR} (h:opL P σ o=some r):effOr r:=by
 unfold opL at h
 split at h
 · split at h
   · cases h
     unfold litA;split
     · exact withTI_or (fun _=>elemTI_or (fun _=>litE_or))
     · exact .inl rfl
   · cases h
 · split at h
   · split at h
     · split at h
       · split at h
         · cases h
           exact withTI_or (fun _=>vofA_or)
         · cases h
       · cases h
     · cases h
   · cases h
 · cases h
theorem opA_eff {lt:Bool} {σ:List AV} {o:Oper} {rd tk:List Nat} {eff:List (Nat×AV)} (h:opA P lt σ o=.eff rd tk eff):AStep P o σ rd tk eff∧(∀ t∈tk,∀ i,(gt σ i).hasTok t→i∈rd):=by
 unfold opA at h
 split at h
 · unfold selO at h
   split at h
   · rename_i r hr
     subst h
     exact opL_eff (by assumption)
   · exact opA0_eff h
 · exact opA0_eff h
theorem opA_not {lt:Bool} {σ:List AV} {o:Oper} {r:OR} (h:opA P lt σ o=r) (h1:r≠.bad) (h2:∀ rd tk e,r≠.eff rd tk e):opA0 P σ o=r:=by
 unfold opA at h
 split at h
 · unfold selO at h
   split at h
   · subst h
     rcases opL_or (P:=P) (σ:=σ) (o:=o) (by assumption) with h3 | ⟨rd,tk,e,h3⟩
     · exact absurd h3 h1
     · exact absurd h3 (h2 _ _ _)
   · exact h
 · exact h
inductive GR where
 | plain
 | when (d:Nat) (c b:Bool)
 | skip (d:Nat)
 | bad
def guardA (ops:List Oper) (σ:List AV) (o:Oper):GR:=match o.guard with
 | none=>.plain
 | some (j,b)=>match (ops[j]?).bind (·.dst) with
  | some d=>match gt σ d with
   | .one (.raw (.bool c))=>.when d c b
   | .undef=>.skip d
   | _=>.bad
  | none=>.bad
def BadK (_o:Op) (_σ:List AV):Prop:=False
def BadC (_c:Operand) (_σ:List AV):Prop:=False
def CallK (P:Program) (f:FuncId) (args:List AV) (K:Bool→AV→Prop):Prop:=∃ res,CallsTo P f args res∧K true res
def FnK (P:Program) (p:(Nat→Nat→Prop)→World→Value→Prop) (args:List AV) (K:Bool→AV→Prop):Prop:=∃ F,p=FnSpec P F∧∃ res,F args res∧K true res
def MkK (P:Program) (f:FuncId) (caps:List AV) (K:Bool→(List AV→AV→Prop)→Prop):Prop:=∃ F,Callable P f∧(∀ args res,F args res→CallsTo P f (args++caps) res)∧K true F
def OwnK (P:Program) (f:FuncId) (l:List AV) (j:Nat) (ov:OV) (k:Bool→OV→AV→Prop):Prop:=∃ new res,CallX P f l j ov new res∧k true new res
theorem ownk {f:FuncId} {l:List AV} {j:Nat} {ov new:OV} {res:AV} {k:Bool→OV→AV→Prop} (h:CallX P f l j ov new res) (hk:k true new res):OwnK P f l j ov k:=⟨new,res,h,hk⟩
def ownF (o:Oper) (σ:List AV) (s:Nat) (rd:List Nat) (k:Bool→List Nat→List Nat→List (Nat×AV)→Prop) (b:Bool) (nw res:Option AV):Prop:=match nw,res with
 | some nw,some r=>k b rd [] ((s,nw)::callEff o r)
 | _,_=>BadK o.op σ
def GuardK (c b:Bool) (X Y:Bool→Prop):Prop:=(c=b→X true)∧(c=(!b)→Y true)
def CondK (c:Bool) (X Y:Bool→Prop):Prop:=(c=true→X true)∧(c=false→Y true)
theorem callk {f:FuncId} {args:List AV} {K:Bool→AV→Prop} {res:AV} (h:CallsTo P f args res) (hk:K true res):CallK P f args K:=⟨res,h,hk⟩
theorem condk {c:Bool} {X Y:Bool→Prop} (hx:c=true→X true) (hy:c=false→Y true):CondK c X Y:=⟨hx,hy⟩
theorem condd {p:Prop} [Decidable p] {X Y:Bool→Prop} (hx:p→X true) (hy:¬p→Y true):CondK (decide p) X Y:=⟨fun h=>hx (of_decide_eq_true h),fun h=>hy (of_decide_eq_false h)⟩
def doF (P:Program) (x:OR) (o:Oper) (σ:List AV) (b:Bool) (k:Bool→List Nat→List Nat→List (Nat×AV)→Prop):Prop:=match x with
 | .eff rd tk e=>k b rd tk e
 | .call f args rd=>CallK P f args (fun b res=>k b rd [] (callEff o res))
 | .fn p args rd=>FnK P p args (fun b res=>k b rd [] (callEff o res))
 | .mk f caps rd=>MkK P f caps (fun b F=>k b rd [] (callEff o (.one (.fnp (FnSpec P F)))))
 | .own f l j s ov rd=>OwnK P f l j ov (fun b new res=>ownF o σ s rd k b (newSlot (gt σ s) ov new) (newRes s ov res))
 | .bad=>BadK o.op σ
def skipF (σ:List AV) (o:Oper) (d:Nat) (b:Bool) (k:Bool→List Nat→List Nat→List (Nat×AV)→Prop):Prop:=match o.dst with
 | some e=>if nh σ e then k b [d,e] [] [(e,.undef)] else BadK o.op σ
 | none=>BadK o.op σ
def onD (d:Nat) (o:Oper) (σ:List AV) (k:Bool→List Nat→List Nat→List (Nat×AV)→Prop) (b:Bool) (rd tk:List Nat) (e:List (Nat×AV)):Prop:=match tk with
 | []=>k b (d::rd) [] e
 | _=>BadK o.op σ
def gdF (P:Program) (lt:Bool) (g:GR) (o:Oper) (σ:List AV) (b:Bool) (k:Bool→List Nat→List Nat→List (Nat×AV)→Prop):Prop:=match g with
 | .plain=>doF P (opA P lt σ o) o σ b k
 | .when d c b'=>GuardK c b' (fun b=>doF P (opA P lt σ o) o σ b (onD d o σ k)) (fun b=>skipF σ o d b k)
 | .skip d=>skipF σ o d b k
 | .bad=>BadK o.op σ
theorem guardA_spec {ops:Array Oper} {σ:List AV} {o:Oper} :
 (guardA ops.toList σ o=.plain→o.guard=none)∧
 (∀ d c b,guardA ops.toList σ o=.when d c b→∃ j,o.guard=some (j,b)∧(ops[j]?).bind (·.dst)=some d∧gt σ d=.one (.raw (.bool c)))∧
 (∀ d,guardA ops.toList σ o=.skip d→∃ j b,o.guard=some (j,b)∧(ops[j]?).bind (·.dst)=some d∧gt σ d=.undef):=by
 unfold guardA
 split
 · rename_i hg;exact ⟨fun _=>hg,fun d c b h=>(by cases h),fun d h=>(by cases h)⟩
 · rename_i j b hg
   simp only [Array.getElem?_toList]
   split
   · rename_i d hd
     split
     · rename_i c hc;exact ⟨fun h=>(by cases h),fun d' c' b' h=>by cases h;exact ⟨j,hg,hd,hc⟩,fun d h=>(by cases h)⟩
     · rename_i hc;exact ⟨fun h=>(by cases h),fun d' c' b' h=>(by cases h),fun d' h=>by cases h;exact ⟨j,b,hg,hd,hc⟩⟩
     · exact ⟨fun h=>(by cases h),fun d' c' b' h=>(by cases h),fun d h=>(by cases h)⟩
   · exact ⟨fun h=>(by cases h),fun d' c' b' h=>(by cases h),fun d h=>(by cases h)⟩
theorem doF_plain {lt:Bool} {o:Oper} {σ:List AV} {b:Bool} {k:Bool→List Nat→List Nat→List (Nat×AV)→Prop} (h:doF P (opA P lt σ o) o σ b k) :
 ∃ b' rd tk e,AStep P o σ rd tk e∧(∀ t∈tk,∀ i,(gt σ i).hasTok t→i∈rd)∧k b' rd tk e:=by
 unfold doF at h
 split at h
 · rename_i rd tk e he;exact ⟨_,_,_,_,(opA_eff he).1,(opA_eff he).2,h⟩
 · rename_i he;obtain ⟨res,h1,h2⟩:=h;exact ⟨_,_,_,_,opA0_call (opA_not he (by simp) (by simp)) h1,by simp,h2⟩
 · rename_i he;obtain ⟨F,rfl,res,h1,h2⟩:=h;exact ⟨_,_,_,_,opA0_fn (opA_not he (by simp) (by simp)) h1,by simp,h2⟩
 · rename_i he;obtain ⟨F,hc,hF,h2⟩:=h;exact ⟨_,_,_,_,opA0_mk (opA_not he (by simp) (by simp)) hc hF,by simp,h2⟩
 · rename_i he
   obtain ⟨new,res,h1,h2⟩:=h
   unfold ownF at h2
   split at h2
   · rename_i hs hr;exact ⟨_,_,_,_,opA0_own (opA_not he (by simp) (by simp)) h1 hs hr,by simp,h2⟩
   · exact h2.elim
 · exact h.elim
theorem skipF_spec {σ:List AV} {o:Oper} {d:Nat} {b:Bool} {k:Bool→List Nat→List Nat→List (Nat×AV)→Prop} (h:skipF σ o d b k):∃ e,o.dst=some e∧nh σ e=true∧k b [d,e] [] [(e,.undef)]:=by
 unfold skipF at h
 split at h
 · rename_i e he
   split at h
   · rename_i hn;exact ⟨e,he,hn,h⟩
   · exact h.elim
 · exact h.elim
theorem gdF_step {lt:Bool} {ops:Array Oper} {σ:List AV} {o:Oper} {b:Bool} {k:Bool→List Nat→List Nat→List (Nat×AV)→Prop} (h:gdF P lt (guardA ops.toList σ o) o σ b k) :
 ∃ b' rd tk e,GStep P ops o σ rd tk e∧k b' rd tk e:=by
 unfold gdF at h
 split at h
 · rename_i hg
   obtain ⟨b',rd,tk,e,h1,h2,h3⟩:=doF_plain h
   exact ⟨b',rd,tk,e,GStep.plain (guardA_spec.1 hg) h2 h1,h3⟩
 · rename_i d c b' hg
   obtain ⟨j,h1,h2,h3⟩:=guardA_spec.2.1 d c b' hg
   obtain ⟨hx,hy⟩:=h
   by_cases hcb:c=b'
   · subst hcb
     obtain ⟨b'',rd,tk,e,ha,hb,hk⟩:=doF_plain (hx rfl)
     unfold onD at hk
     split at hk
     · exact ⟨_,_,_,_,GStep.taken h1 h2 h3 ha,hk⟩
     · exact hk.elim
   · have hn:c = !b':=by cases c<;>cases b'<;>simp_all
     obtain ⟨e,he,hnh,hk⟩:=skipF_spec (hy hn)
     exact ⟨_,_,_,_,GStep.skipped h1 h2 (.inl (by rw [h3,hn])) he hnh,hk⟩
 · rename_i d hg
   obtain ⟨j,b',h1,h2,h3⟩:=guardA_spec.2.2 d hg
   obtain ⟨e,he,hnh,hk⟩:=skipF_spec h
   exact ⟨_,_,_,_,GStep.skipped h1 h2 (.inr h3) he hnh,hk⟩
 · exact h.elim
def RunF (P:Program) (lt:Bool) (ops:List Oper):Bool→List Oper→List AV→(Bool→List AV→Prop)→Prop
 | b,[],σ,K=>K b σ
 | b,o::r,σ,K=>gdF P lt (guardA ops σ o) o σ b (fun b _ _ e=>RunF P lt ops b r (app e σ) K)
theorem RunF.run {lt:Bool} {ops:Array Oper}:∀(l:List Oper) (b:Bool) (σ:List AV) (K:Bool→List AV→Prop),RunF P lt ops.toList b l σ K→Run P ops l σ (fun σ=>∃ b,K b σ)
 | [],b,_,_,h=>⟨b,h⟩
 | o::r,b,σ,K,h=>by
  unfold RunF at h
  obtain ⟨b',rd,tk,e,h1,h2⟩:=gdF_step h
  exact ⟨_,_,_,h1,RunF.run r b' _ K h2⟩
def IndK (ops:List Oper) (acc:List SR) (σ0:List AV) (k:Bool→Prop):Prop:=indep ops acc σ0=true∧k true
theorem indk {ops:List Oper} {acc:List SR} {σ0:List AV} {k:Bool→Prop} (h:indep ops acc σ0=true) (hk:k true):IndK ops acc σ0 k:=⟨h,hk⟩
def RunG (P:Program) (lt:Bool) (ops:List Oper) (σ0:List AV):Bool→List Oper→List SR→List AV→(Bool→List AV→Prop)→Prop
 | _,[],acc,σ,K=>IndK ops acc σ0 (fun b=>K b σ)
 | b,o::r,acc,σ,K=>gdF P lt (guardA ops σ o) o σ b (fun b rd tk e=>RunG P lt ops σ0 b r (acc++[⟨rd,tk,e⟩]) (app e σ) K)
theorem RunG.runD {lt:Bool} {ops:Array Oper} {σ0:List AV}:∀(l:List Oper) (b:Bool) (acc:List SR) (σ:List AV) (K:Bool→List AV→Prop),RunG P lt ops.toList σ0 b l acc σ K→RunD P ops ops.toList σ0 l acc σ (fun σ=>∃ b,K b σ)
 | [],b,_,_,_,h=>⟨h.1,true,h.2⟩
 | o::r,b,acc,σ,K,h=>by
  unfold RunG at h
  obtain ⟨b',rd,tk,e,h1,h2⟩:=gdF_step h
  exact ⟨_,_,_,h1,RunG.runD r b' _ _ K h2⟩
def thenC (next:Bool→List AV→Prop) (Q:Exit→Bool→List AV→Prop):Exit→Bool→List AV→Prop
 | .normal=>next
 | .exit id=>Q (.exit id)
 | .goto l=>Q (.goto l)
 | .ret=>Q .ret
 | .panic c=>Q (.panic c)
 | .outgrown=>Q .outgrown
def inBlockC (id:Nat) (Q:Exit→Bool→List AV→Prop):Exit→Bool→List AV→Prop
 | .normal=>Q .normal
 | .exit j=>if j=id then Q .normal else Q (.exit j)
 | .goto l=>Q (.goto l)
 | .ret=>Q .ret
 | .panic c=>Q (.panic c)
 | .outgrown=>Q .outgrown
def outQ (Q:Exit→Bool→List AV→Prop):Exit→List AV→Prop:=fun e σ=>∃ b,Q e b σ
def LoopK (P:Program) (_G:List (Nat×List Gh)) (c:Code) (Q:Exit→Bool→List AV→Prop) (σ:List AV):Prop:=ACode P (.loop c) (outQ Q) σ
def DrawK (P:Program) (k:Bool→Prop):Prop:=P.follows .mixedOrders=true∧k true
def condF (_:Program) (c:Operand) (σ:List AV) (X Y:Bool→Prop):AV→Prop
 | .one (.raw (.bool p))=>CondK p X Y
 | _=>BadC c σ
def ghOf:List (Nat×List Gh)→Nat→List Gh
 | [],_=>[]
 | (i,l)::r,j=>if i=j then l else ghOf r j
def firstR:Code→Option Nat
 | .region id _ _=>some id
 | .seq x _=>firstR x
 | .block _ x=>firstR x
 | .loop x=>firstR x
 | _=>none
def hasJoin:List Gh→Bool
 | []=>false
 | .join::_=>true
 | .frz _::r=>hasJoin r
 | .any _::r=>hasJoin r
 | .mv _ _::r=>hasJoin r
 | .lit::r=>hasJoin r
def hasLit:List Gh→Bool
 | []=>false
 | .lit::_=>true
 | .frz _::r=>hasLit r
 | .any _::r=>hasLit r
 | .mv _ _::r=>hasLit r
 | .join::r=>hasLit r
def joinAt:List (Nat×List Gh)→Code→Bool
 | [],_=>false
 | g::G,y=>match firstR y with
  | some id=>hasJoin (ghOf (g::G) id)
  | none=>false
def JoinK (P:Program) (_G:List (Nat×List Gh)) (x y:Code) (Q:Exit→Bool→List AV→Prop) (σ:List AV):Prop:=ACode P (.seq x y) (outQ Q) σ
def seqF (c:Bool) (A B:Bool→Prop):Prop:=match c with
 | true=>A true
 | false=>B true
def RC (P:Program) (G:List (Nat×List Gh)):Code→Bool→(Exit→Bool→List AV→Prop)→List AV→Prop
 | .skip,b,Q,σ=>Q .normal b σ
 | .region id ops false,b,Q,σ=>RunF P (hasLit (ghOf G id)) ops.toList b ops.toList (ghL (ghOf G id) σ) (Q .normal)
 | .region id ops true,b,Q,σ=>DrawK P (fun _=>RunG P (hasLit (ghOf G id)) ops.toList (ghL (ghOf G id) σ) b ops.toList [] (ghL (ghOf G id) σ) (Q .normal))
 | .seq x y,b,Q,σ=>seqF (joinAt G y) (fun _=>JoinK P G x y Q σ) (fun _=>RC P G x b (thenC (fun b σ=>RC P G y b Q σ) Q) σ)
 | .cond c x y,_,Q,σ=>condF P c σ (fun b=>RC P G x b Q σ) (fun b=>RC P G y b Q σ) (opd σ c)
 | .block id x,b,Q,σ=>RC P G x b (inBlockC id Q) σ
 | .loop x,_,Q,σ=>LoopK P G x Q σ
 | .exit id,b,Q,σ=>Q (.exit id) b σ
 | .ret,b,Q,σ=>Q .ret b σ
 | _,_,_,_=>False
end Go.Slot

namespace Go.Slot
open Go Go.RowKit
variable {P:Program} {G:List (Nat×List Gh)}
theorem RC.sound:∀(c:Code) (b:Bool) (Q:Exit→Bool→List AV→Prop) (σ:List AV),RC P G c b Q σ→ACode P c (outQ Q) σ:=by
 intro c
 induction c with
 | skip=>intro b Q σ h;exact acode_skip ⟨b,h⟩
 | region id ops dr=>
  intro b Q σ h
  cases dr with
  | false=>exact ACode.le (StLe.ghL _ _) (acode_region (RunF.run _ b _ _ h))
  | true=>exact ACode.le (StLe.ghL _ _) (acode_regionD h.1 (RunG.runD _ b [] _ _ h.2))
 | seq x y ihx ihy=>
  intro b Q σ h
  have h:seqF (joinAt G y) (fun _=>JoinK P G x y Q σ) (fun _=>RC P G x b (thenC (fun b σ=>RC P G y b Q σ) Q) σ):=h
  cases hj:joinAt G y with
  | true=>rw [hj] at h;exact h
  | false=>
  rw [hj] at h
  have h:RC P G x b (thenC (fun b σ=>RC P G y b Q σ) Q) σ:=h
  refine acode_seq ((ihx b _ σ h).mono ?_)
  intro e σ' ⟨b',h'⟩
  cases e with
  | normal=>exact ihy b' Q σ' h'
  | _=>exact ⟨b',h'⟩
 | cond c x y ihx ihy=>
  intro b Q σ h
  unfold RC condF at h
  split at h
  · rename_i p hp
    exact acode_cond hp (fun hb=>ihx _ _ _ (h.1 hb)) (fun hb=>ihy _ _ _ (h.2 hb))
  · exact h.elim
 | block id x ih=>
  intro b Q σ h
  refine acode_block ((ih b _ σ h).mono ?_)
  intro e σ' ⟨b',h'⟩
  cases e with
  | exit j=>
   show inBlockA id (outQ Q) (.exit j) σ'
   unfold inBlockC at h'
   unfold inBlockA
   simp only at h' ⊢
   split at h'
   · rename_i hj;simp only [hj];exact ⟨b',h'⟩
   · rename_i hj;simp only [hj];exact ⟨b',h'⟩
  | _=>exact ⟨b',h'⟩
 | loop x ih=>intro b Q σ h;exact h
 | exit id=>intro b Q σ h;exact acode_exit ⟨b,h⟩
 | ret=>intro b Q σ h;exact acode_ret ⟨b,h⟩
 | _=>intro b Q σ h;exact h.elim
def retC (P:Program) (rs:List ResultVar) (res:AV):Exit→Bool→List AV→Prop
 | .ret,_,σ | .normal,_,σ=>∃ av,resAV P σ rs=some av∧RLe av res
 | _,_,_=>False
theorem CallsTo.run (G:List (Nat×List Gh)) {f:FuncId} {fn:Func} {c:Code} {args:List AV} {res:AV} (hf:P.funcs[f]? = some fn) (hb:fn.body=some c) (hname:(fn.name == "runtime.NumGoroutine")=false)
 (h:RC P G c true (retC P fn.results.toList res) (packS (args++List.replicate (fn.ntmps-args.length) .undef))):CallsTo P f args res:=by
 rw [packS_eq] at h
 refine CallsTo.of hf hb hname ((RC.sound c true _ _ h).mono ?_)
 intro e σ ⟨b,h⟩
 cases e with
 | normal=>exact h
 | ret=>exact h
 | _=>exact h.elim
def retCX (P:Program) (rs:List ResultVar) (j:Nat) (out res:AV):Exit→Bool→List AV→Prop
 | .ret,_,σ | .normal,_,σ=>retX P rs j out res .ret σ
 | _,_,_=>False
theorem CallsX.run (G:List (Nat×List Gh)) {f:FuncId} {fn:Func} {c:Code} {args:List AV} {j:Nat} {out res:AV} (hf:P.funcs[f]? = some fn) (hb:fn.body=some c) (hname:(fn.name == "runtime.NumGoroutine")=false)
 (hnt:∀ t,¬out.hasTok t) (h:RC P G c true (retCX P fn.results.toList j out res) (packS (args++List.replicate (fn.ntmps-args.length) .undef))):CallsX P f args j out res:=by
 rw [packS_eq] at h
 refine CallsX.of hf hb hname hnt ((RC.sound c true _ _ h).mono ?_)
 intro e σ ⟨b,h⟩
 cases e with
 | normal=>exact h
 | ret=>exact h
 | _=>exact h.elim
theorem CallsTo.le {f:FuncId} {args:List AV} {res res':AV} (h:CallsTo P f args res) (hle:RLe res res'):CallsTo P f args res':=
 ⟨h.1,fun M w vs hM hr=>(h.2 M w vs hM hr).mono (fun _ _ ⟨v,h1,h2,h3,h4⟩=>⟨v,h1,h2,h3.le hle,fun hh=>h4 (hle.holder hh)⟩)⟩
abbrev U {α:Type} (_:α):Type:=Unit
def hide {α:Type} (f:α) (_:U f):α:=f
theorem hide_1 {f:Bool→Prop} {u:U f} {b:Bool}:hide f u b=f b:=_root_.id rfl
theorem hide_2 {f:Bool→List AV→Prop} {u:U f} {b:Bool} {σ:List AV}:hide f u b σ=f b σ:=_root_.id rfl
theorem hide_4 {f:Bool→List Nat→List Nat→List (Nat×AV)→Prop} {u:U f} {b:Bool} {rd tk:List Nat} {e:List (Nat×AV)}:hide f u b rd tk e=f b rd tk e:=_root_.id rfl
theorem hide_r {f:Bool→AV→Prop} {u:U f} {b:Bool} {r:AV}:hide f u b r=f b r:=_root_.id rfl
theorem hide_o {f:Bool→OV→AV→Prop} {u:U f} {b:Bool} {n:OV} {r:AV}:hide f u b n r=f b n r:=_root_.id rfl
def nrm (σ:List AV):List AV:=σ
theorem nrm_cons {a:AV} {σ:List AV}:nrm (a::σ)=a::σ:=_root_.id rfl
theorem nrm_ch {a0 a1 a2 a3 a4 a5 a6 a7 a8 a9 a10 a11 a12 a13 a14 a15:AV} {r:List AV}:nrm (ch a0 a1 a2 a3 a4 a5 a6 a7 a8 a9 a10 a11 a12 a13 a14 a15 r)=ch a0 a1 a2 a3 a4 a5 a6 a7 a8 a9 a10 a11 a12 a13 a14 a15 r:=_root_.id rfl
def nrmR (l:List SR):List SR:=l
theorem nrmR_nil:nrmR []=[]:=_root_.id rfl
theorem nrmR_cons {a:SR} {l:List SR}:nrmR (a::l)=a::l:=_root_.id rfl
def tick {α:Type} (x:α):α:=x
theorem tick_true:tick true=true:=_root_.id rfl
theorem tick_false:tick false=false:=_root_.id rfl
theorem tick_plain:tick GR.plain=GR.plain:=_root_.id rfl
theorem tick_when {d:Nat} {c b:Bool}:tick (GR.when d c b)=GR.when d c b:=_root_.id rfl
theorem tick_skip {d:Nat}:tick (GR.skip d)=GR.skip d:=_root_.id rfl
theorem tick_eff {rd tk:List Nat} {e:List (Nat×AV)}:tick (OR.eff rd tk e)=OR.eff rd tk e:=_root_.id rfl
theorem tick_call {f:FuncId} {l:List AV} {rd:List Nat}:tick (OR.call f l rd)=OR.call f l rd:=_root_.id rfl
theorem tick_own {f:FuncId} {l:List AV} {j s:Nat} {ov:OV} {rd:List Nat}:tick (OR.own f l j s ov rd)=OR.own f l j s ov rd:=_root_.id rfl
theorem tick_one {c:Cell}:tick (AV.one c)=AV.one c:=_root_.id rfl
theorem loopk {α:Type} {c:Code} {Q:Exit→Bool→List AV→Prop} {σ:List AV} (ch:α→List (Nat×AV)) (pre:α→Prop) (μ:α→Nat) (x0:α) (h0:pre x0) (hle:StLe σ (app (ch x0) σ))
 (round:∀ x,pre x→RC P G c true (thenC (hide (fun _ σ'=>∃ y,pre y∧μ y<μ x∧StLe σ' (app (ch y) σ)) ()) Q) (app (ch x) σ)):LoopK P G c Q σ:=
 acode_loop (fun x=>app (ch x) σ) pre μ x0 h0 hle (fun x hx=>(RC.sound c true _ _ (round x hx)).mono (fun e σ' ⟨b,h⟩=>by
  cases e with
  | normal=>exact h
  | _=>exact ⟨b,h⟩))
theorem loopo {α:Type} {c:Code} {Q:Exit→Bool→List AV→Prop} {σ:List AV} (keep:List Nat) (ch:α→List (Nat×AV)) (pre:α→Prop) (μ:α→Nat) (x0:α) (h0:pre x0) (hle:StLe σ (app (ch x0) (onlyS keep σ)))
 (round:∀ x,pre x→RC P G c true (thenC (hide (fun _ σ'=>∃ y,pre y∧μ y<μ x∧StLe σ' (app (ch y) (onlyS keep σ))) ()) Q) (packS (app (ch x) (onlyS keep σ)))):LoopK P G c Q σ:=
 acode_loop (fun x=>app (ch x) (onlyS keep σ)) pre μ x0 h0 hle (fun x hx=>(RC.sound c true _ _ (packS_eq (app (ch x) (onlyS keep σ))▸round x hx)).mono (fun e σ' ⟨b,h⟩=>by
  cases e with
  | normal=>exact h
  | _=>exact ⟨b,h⟩))
theorem joino {α:Type} {x y:Code} {Q:Exit→Bool→List AV→Prop} {σ:List AV} (keep:List Nat) (ch:α→List (Nat×AV)) (pre:α→Prop)
 (hx:RC P G x true (thenC (hide (fun _ σ'=>∃ a,pre a∧StLe σ' (app (ch a) (onlyS keep σ))) ()) Q) σ)
 (hy:∀ a,pre a→RC P G y true Q (packS (app (ch a) (onlyS keep σ)))):JoinK P G x y Q σ:=
 acode_seq ((RC.sound x true _ _ hx).mono (fun e σ' ⟨b,h⟩=>by
  cases e with
  | normal=>
   obtain ⟨a,h1,h2⟩:=h
   exact ACode.le h2 (RC.sound y true _ _ (packS_eq (app (ch a) (onlyS keep σ))▸hy a h1))
  | _=>exact ⟨b,h⟩))
def selE (c:Bool) (x y:Bool→List AV→Prop):Bool→List AV→Prop:=match c with
 | true=>x
 | false=>y
theorem rc_skip {Q:Exit→Bool→List AV→Prop} {σ:List AV}:RC P G .skip true Q σ=Q .normal true σ:=_root_.id rfl
def ltF (c:Bool) (A:Bool→Prop):Prop:=A c
theorem ltF_f {A:Bool→Prop}:ltF false A=A false:=_root_.id rfl
theorem ltF_congr {c c':Bool} {A:Bool→Prop} (h:c=c'):ltF c A=ltF c' A:=by rw [h]
theorem rc_region {id:Nat} {l:List Oper} {Q:Exit→Bool→List AV→Prop} {σ:List AV}:RC P G (.region id l.toArray false) true Q σ=ltF (tick (hasLit (ghOf G id))) (hide (fun lt=>RunF P lt l true l (nrm (ghL (ghOf G id) σ)) (Q .normal)) ()):=_root_.id rfl
theorem rc_regionD {id:Nat} {l:List Oper} {Q:Exit→Bool→List AV→Prop} {σ:List AV}:RC P G (.region id l.toArray true) true Q σ=DrawK P (hide (fun _=>ltF (tick (hasLit (ghOf G id))) (hide (fun lt=>RunG P lt l (ghL (ghOf G id) σ) true l (nrmR []) (nrm (ghL (ghOf G id) σ)) (Q .normal)) ())) ()):=_root_.id rfl
theorem rc_seq {x y:Code} {Q:Exit→Bool→List AV→Prop} {σ:List AV}:RC P G (.seq x y) true Q σ=seqF (tick (joinAt G y)) (hide (fun _=>JoinK P G x y Q σ) ()) (hide (fun _=>RC P G x true (thenC (hide (fun b σ=>RC P G y b Q σ) ()) Q) σ) ()):=_root_.id rfl
theorem seqF_t {A B:Bool→Prop}:seqF true A B=A true:=_root_.id rfl
theorem seqF_f {A B:Bool→Prop}:seqF false A B=B true:=_root_.id rfl
theorem seqF_congr {c c':Bool} {A B:Bool→Prop} (h:c=c'):seqF c A B=seqF c' A B:=by rw [h]
theorem joinK_congr {x y:Code} {Q:Exit→Bool→List AV→Prop} {σ σ':List AV} (h:σ=σ'):JoinK P G x y Q σ=JoinK P G x y Q σ':=by rw [h]
theorem rc_cond {c:Operand} {x y:Code} {Q:Exit→Bool→List AV→Prop} {σ:List AV}:RC P G (.cond c x y) true Q σ=condF P c σ (hide (fun b=>RC P G x b Q σ) ()) (hide (fun b=>RC P G y b Q σ) ()) (tick (opd σ c)):=_root_.id rfl
theorem rc_block {id:Nat} {x:Code} {Q:Exit→Bool→List AV→Prop} {σ:List AV}:RC P G (.block id x) true Q σ=RC P G x true (inBlockC id Q) σ:=_root_.id rfl
theorem rc_loop {x:Code} {Q:Exit→Bool→List AV→Prop} {σ:List AV}:RC P G (.loop x) true Q σ=LoopK P G x Q σ:=_root_.id rfl
theorem rc_exit {id:Nat} {Q:Exit→Bool→List AV→Prop} {σ:List AV}:RC P G (.exit id) true Q σ=Q (.exit id) true σ:=_root_.id rfl
theorem rc_ret {Q:Exit→Bool→List AV→Prop} {σ:List AV}:RC P G .ret true Q σ=Q .ret true σ:=_root_.id rfl
theorem runF_nil {lt:Bool} {ops:List Oper} {σ:List AV} {K:Bool→List AV→Prop}:RunF P lt ops true [] σ K=K true σ:=_root_.id rfl
theorem runF_cons {lt:Bool} {ops:List Oper} {o:Oper} {r:List Oper} {σ:List AV} {K:Bool→List AV→Prop}:RunF P lt ops true (o::r) σ K=gdF P lt (tick (guardA ops σ o)) o σ true (hide (fun b _ _ e=>RunF P lt ops b r (nrm (app e σ)) K) ()):=_root_.id rfl
theorem runG_nil {lt:Bool} {ops:List Oper} {σ0:List AV} {acc:List SR} {σ:List AV} {K:Bool→List AV→Prop}:RunG P lt ops σ0 true [] acc σ K=IndK ops acc σ0 (hide (fun b=>K b σ) ()):=_root_.id rfl
theorem runG_cons {lt:Bool} {ops:List Oper} {σ0:List AV} {o:Oper} {r:List Oper} {acc:List SR} {σ:List AV} {K:Bool→List AV→Prop}:RunG P lt ops σ0 true (o::r) acc σ K=gdF P lt (tick (guardA ops σ o)) o σ true (hide (fun b rd tk e=>RunG P lt ops σ0 b r (nrmR (acc++[⟨rd,tk,e⟩])) (nrm (app e σ)) K) ()):=_root_.id rfl
section
variable {next:Bool→List AV→Prop} {Q:Exit→Bool→List AV→Prop}
theorem thenC_normal:thenC next Q .normal=next:=_root_.id rfl
theorem thenC_exit {id:Nat}:thenC next Q (.exit id)=Q (.exit id):=_root_.id rfl
theorem thenC_ret:thenC next Q .ret=Q .ret:=_root_.id rfl
theorem inBlockC_normal {id:Nat}:inBlockC id Q .normal=Q .normal:=_root_.id rfl
theorem inBlockC_exit {id j:Nat}:inBlockC id Q (.exit j)=selE (j==id) (Q .normal) (Q (.exit j)):=by
 have h:inBlockC id Q (.exit j)=if j=id then Q .normal else Q (.exit j):=rfl
 rw [h]
 unfold selE
 by_cases e:j=id
 · rw [if_pos e,show (j==id)=true from by simp [e]]
 · rw [if_neg e,show (j==id)=false from by simp [e]]
theorem selE_t {x y:Bool→List AV→Prop}:selE true x y=x:=rfl
theorem selE_f {x y:Bool→List AV→Prop}:selE false x y=y:=rfl
theorem selE_congr {c c':Bool} {x y:Bool→List AV→Prop} (h:c=c'):selE c x y=selE c' x y:=by rw [h]
theorem inBlockC_ret {id:Nat}:inBlockC id Q .ret=Q .ret:=_root_.id rfl
end
section
variable {o:Oper} {σ:List AV} {b:Bool} {k:Bool→List Nat→List Nat→List (Nat×AV)→Prop} {rd tk:List Nat} {e:List (Nat×AV)} {f:FuncId} {args:List AV}
theorem doF_eff:doF P (.eff rd tk e) o σ b k=k b rd tk e:=_root_.id rfl
theorem doF_call:doF P (.call f args rd) o σ b k=CallK P f args (hide (fun b res=>k b rd [] (callEff o res)) ()):=_root_.id rfl
theorem doF_own {l:List AV} {j s:Nat} {ov:OV}:doF P (.own f l j s ov rd) o σ b k=OwnK P f l j ov (hide (fun b new res=>ownF o σ s rd k b (newSlot (gt σ s) ov new) (newRes s ov res)) ()):=_root_.id rfl
theorem ownF_some {s:Nat} {nw r:AV}:ownF o σ s rd k b (some nw) (some r)=k b rd [] ((s,nw)::callEff o r):=_root_.id rfl
theorem onD_nil {d:Nat}:onD d o σ k b rd [] e=k b (d::rd) [] e:=_root_.id rfl
theorem gdF_plain {lt:Bool}:gdF P lt .plain o σ b k=doF P (tick (opA P lt σ o)) o σ b k:=_root_.id rfl
theorem gdF_when {lt:Bool} {d:Nat} {c b':Bool}:gdF P lt (.when d c b') o σ b k=GuardK c b' (hide (fun b=>doF P (tick (opA P lt σ o)) o σ b (hide (fun b rd tk e=>onD d o σ k b rd tk e) ())) ()) (hide (fun b=>skipF σ o d b k) ()):=_root_.id rfl
theorem gdF_skip {lt:Bool} {d:Nat}:gdF P lt (.skip d) o σ b k=skipF σ o d b k:=_root_.id rfl
end
theorem guardK_tt {X Y:Bool→Prop}:GuardK true true X Y=X true:=by simp [GuardK]
theorem guardK_ff {X Y:Bool→Prop}:GuardK false false X Y=X true:=by simp [GuardK]
theorem guardK_tf {X Y:Bool→Prop}:GuardK true false X Y=Y true:=by simp [GuardK]
theorem guardK_ft {X Y:Bool→Prop}:GuardK false true X Y=Y true:=by simp [GuardK]
theorem condK_t {X Y:Bool→Prop}:CondK true X Y=X true:=by simp [CondK]
theorem condK_f {X Y:Bool→Prop}:CondK false X Y=Y true:=by simp [CondK]
theorem condF_bool {c:Operand} {σ:List AV} {X Y:Bool→Prop} {p:Bool}:condF P c σ X Y (.one (.raw (.bool p)))=CondK p X Y:=_root_.id rfl
theorem retC_ret {rs:List ResultVar} {res:AV} {b:Bool} {σ:List AV}:retC P rs res .ret b σ=∃ av,resAV P σ rs=some av∧RLe av res:=_root_.id rfl
theorem retCX_ret {rs:List ResultVar} {j:Nat} {out res:AV} {b:Bool} {σ:List AV}:retCX P rs j out res .ret b σ=retX P rs j out res .ret σ:=_root_.id rfl
section
variable {o o':Oper} {σ σ':List AV} {b:Bool} {k:Bool→List Nat→List Nat→List (Nat×AV)→Prop}
theorem doF_congr {x x':OR} (h:x=x'):doF P x o σ b k=doF P x' o σ b k:=by rw [h]
theorem guardK_congr {c c' b:Bool} {X Y:Bool→Prop} (h:c=c'):GuardK c b X Y=GuardK c' b X Y:=by rw [h]
theorem condK_congr {c c':Bool} {X Y:Bool→Prop} (h:c=c'):CondK c X Y=CondK c' X Y:=by rw [h]
theorem ownF_congr {s:Nat} {rd:List Nat} {a a' r r':Option AV} (h:a=a') (h2:r=r'):ownF o σ s rd k b a r=ownF o σ s rd k b a' r':=by rw [h,h2]
theorem runF_congr {lt:Bool} {ops l:List Oper} {K:Bool→List AV→Prop} (h:σ=σ'):RunF P lt ops b l σ K=RunF P lt ops b l σ' K:=by rw [h]
theorem runG_congr {lt:Bool} {ops l:List Oper} {σ0:List AV} {acc acc':List SR} {K:Bool→List AV→Prop} (ha:acc=acc') (h:σ=σ'):RunG P lt ops σ0 b l acc σ K=RunG P lt ops σ0 b l acc' σ' K:=by rw [h,ha]
end
end Go.Slot

namespace Go.Slot
open Go Go.RowKit
variable {P:Program}
theorem gt_zero {a:AV} {σ:List AV}:gt (a::σ) 0=a:=rfl
theorem gt_succ {a:AV} {σ:List AV} {n:Nat}:gt (a::σ) (n+1)=gt σ n:=rfl
theorem nh_zero {a:AV} {σ:List AV}:nh (a::σ) 0 = !a.holder:=rfl
theorem nh_succ {a:AV} {σ:List AV} {n:Nat}:nh (a::σ) (n+1)=nh σ n:=rfl
section
variable {a0 a1 a2 a3 a4 a5 a6 a7 a8 a9 a10 a11 a12 a13 a14 a15 x:AV} {r:List AV} {n:Nat}
theorem gt_ch0:gt (ch a0 a1 a2 a3 a4 a5 a6 a7 a8 a9 a10 a11 a12 a13 a14 a15 r) 0=a0:=rfl
theorem nh_ch0:nh (ch a0 a1 a2 a3 a4 a5 a6 a7 a8 a9 a10 a11 a12 a13 a14 a15 r) 0 = !a0.holder:=rfl
theorem set_ch0:(ch a0 a1 a2 a3 a4 a5 a6 a7 a8 a9 a10 a11 a12 a13 a14 a15 r).set 0 x=ch x a1 a2 a3 a4 a5 a6 a7 a8 a9 a10 a11 a12 a13 a14 a15 r:=rfl
theorem gt_ch1:gt (ch a0 a1 a2 a3 a4 a5 a6 a7 a8 a9 a10 a11 a12 a13 a14 a15 r) 1=a1:=rfl
theorem nh_ch1:nh (ch a0 a1 a2 a3 a4 a5 a6 a7 a8 a9 a10 a11 a12 a13 a14 a15 r) 1 = !a1.holder:=rfl
theorem set_ch1:(ch a0 a1 a2 a3 a4 a5 a6 a7 a8 a9 a10 a11 a12 a13 a14 a15 r).set 1 x=ch a0 x a2 a3 a4 a5 a6 a7 a8 a9 a10 a11 a12 a13 a14 a15 r:=rfl
theorem gt_ch2:gt (ch a0 a1 a2 a3 a4 a5 a6 a7 a8 a9 a10 a11 a12 a13 a14 a15 r) 2=a2:=rfl
theorem nh_ch2:nh (ch a0 a1 a2 a3 a4 a5 a6 a7 a8 a9 a10 a11 a12 a13 a14 a15 r) 2 = !a2.holder:=rfl
theorem set_ch2:(ch a0 a1 a2 a3 a4 a5 a6 a7 a8 a9 a10 a11 a12 a13 a14 a15 r).set 2 x=ch a0 a1 x a3 a4 a5 a6 a7 a8 a9 a10 a11 a12 a13 a14 a15 r:=rfl
theorem gt_ch3:gt (ch a0 a1 a2 a3 a4 a5 a6 a7 a8 a9 a10 a11 a12 a13 a14 a15 r) 3=a3:=rfl
theorem nh_ch3:nh (ch a0 a1 a2 a3 a4 a5 a6 a7 a8 a9 a10 a11 a12 a13 a14 a15 r) 3 = !a3.holder:=rfl
theorem set_ch3:(ch a0 a1 a2 a3 a4 a5 a6 a7 a8 a9 a10 a11 a12 a13 a14 a15 r).set 3 x=ch a0 a1 a2 x a4 a5 a6 a7 a8 a9 a10 a11 a12 a13 a14 a15 r:=rfl
theorem gt_ch4:gt (ch a0 a1 a2 a3 a4 a5 a6 a7 a8 a9 a10 a11 a12 a13 a14 a15 r) 4=a4:=rfl
theorem nh_ch4:nh (ch a0 a1 a2 a3 a4 a5 a6 a7 a8 a9 a10 a11 a12 a13 a14 a15 r) 4 = !a4.holder:=rfl
theorem set_ch4:(ch a0 a1 a2 a3 a4 a5 a6 a7 a8 a9 a10 a11 a12 a13 a14 a15 r).set 4 x=ch a0 a1 a2 a3 x a5 a6 a7 a8 a9 a10 a11 a12 a13 a14 a15 r:=rfl
theorem gt_ch5:gt (ch a0 a1 a2 a3 a4 a5 a6 a7 a8 a9 a10 a11 a12 a13 a14 a15 r) 5=a5:=rfl
theorem nh_ch5:nh (ch a0 a1 a2 a3 a4 a5 a6 a7 a8 a9 a10 a11 a12 a13 a14 a15 r) 5 = !a5.holder:=rfl
theorem set_ch5:(ch a0 a1 a2 a3 a4 a5 a6 a7 a8 a9 a10 a11 a12 a13 a14 a15 r).set 5 x=ch a0 a1 a2 a3 a4 x a6 a7 a8 a9 a10 a11 a12 a13 a14 a15 r:=rfl
theorem gt_ch6:gt (ch a0 a1 a2 a3 a4 a5 a6 a7 a8 a9 a10 a11 a12 a13 a14 a15 r) 6=a6:=rfl
theorem nh_ch6:nh (ch a0 a1 a2 a3 a4 a5 a6 a7 a8 a9 a10 a11 a12 a13 a14 a15 r) 6 = !a6.holder:=rfl
theorem set_ch6:(ch a0 a1 a2 a3 a4 a5 a6 a7 a8 a9 a10 a11 a12 a13 a14 a15 r).set 6 x=ch a0 a1 a2 a3 a4 a5 x a7 a8 a9 a10 a11 a12 a13 a14 a15 r:=rfl
theorem gt_ch7:gt (ch a0 a1 a2 a3 a4 a5 a6 a7 a8 a9 a10 a11 a12 a13 a14 a15 r) 7=a7:=rfl
theorem nh_ch7:nh (ch a0 a1 a2 a3 a4 a5 a6 a7 a8 a9 a10 a11 a12 a13 a14 a15 r) 7 = !a7.holder:=rfl
theorem set_ch7:(ch a0 a1 a2 a3 a4 a5 a6 a7 a8 a9 a10 a11 a12 a13 a14 a15 r).set 7 x=ch a0 a1 a2 a3 a4 a5 a6 x a8 a9 a10 a11 a12 a13 a14 a15 r:=rfl
theorem gt_ch8:gt (ch a0 a1 a2 a3 a4 a5 a6 a7 a8 a9 a10 a11 a12 a13 a14 a15 r) 8=a8:=rfl
theorem nh_ch8:nh (ch a0 a1 a2 a3 a4 a5 a6 a7 a8 a9 a10 a11 a12 a13 a14 a15 r) 8 = !a8.holder:=rfl
theorem set_ch8:(ch a0 a1 a2 a3 a4 a5 a6 a7 a8 a9 a10 a11 a12 a13 a14 a15 r).set 8 x=ch a0 a1 a2 a3 a4 a5 a6 a7 x a9 a10 a11 a12 a13 a14 a15 r:=rfl
theorem gt_ch9:gt (ch a0 a1 a2 a3 a4 a5 a6 a7 a8 a9 a10 a11 a12 a13 a14 a15 r) 9=a9:=rfl
theorem nh_ch9:nh (ch a0 a1 a2 a3 a4 a5 a6 a7 a8 a9 a10 a11 a12 a13 a14 a15 r) 9 = !a9.holder:=rfl
theorem set_ch9:(ch a0 a1 a2 a3 a4 a5 a6 a7 a8 a9 a10 a11 a12 a13 a14 a15 r).set 9 x=ch a0 a1 a2 a3 a4 a5 a6 a7 a8 x a10 a11 a12 a13 a14 a15 r:=rfl
theorem gt_ch10:gt (ch a0 a1 a2 a3 a4 a5 a6 a7 a8 a9 a10 a11 a12 a13 a14 a15 r) 10=a10:=rfl
theorem nh_ch10:nh (ch a0 a1 a2 a3 a4 a5 a6 a7 a8 a9 a10 a11 a12 a13 a14 a15 r) 10 = !a10.holder:=rfl
theorem set_ch10:(ch a0 a1 a2 a3 a4 a5 a6 a7 a8 a9 a10 a11 a12 a13 a14 a15 r).set 10 x=ch a0 a1 a2 a3 a4 a5 a6 a7 a8 a9 x a11 a12 a13 a14 a15 r:=rfl
theorem gt_ch11:gt (ch a0 a1 a2 a3 a4 a5 a6 a7 a8 a9 a10 a11 a12 a13 a14 a15 r) 11=a11:=rfl
theorem nh_ch11:nh (ch a0 a1 a2 a3 a4 a5 a6 a7 a8 a9 a10 a11 a12 a13 a14 a15 r) 11 = !a11.holder:=rfl
theorem set_ch11:(ch a0 a1 a2 a3 a4 a5 a6 a7 a8 a9 a10 a11 a12 a13 a14 a15 r).set 11 x=ch a0 a1 a2 a3 a4 a5 a6 a7 a8 a9 a10 x a12 a13 a14 a15 r:=rfl
theorem gt_ch12:gt (ch a0 a1 a2 a3 a4 a5 a6 a7 a8 a9 a10 a11 a12 a13 a14 a15 r) 12=a12:=rfl
theorem nh_ch12:nh (ch a0 a1 a2 a3 a4 a5 a6 a7 a8 a9 a10 a11 a12 a13 a14 a15 r) 12 = !a12.holder:=rfl
theorem set_ch12:(ch a0 a1 a2 a3 a4 a5 a6 a7 a8 a9 a10 a11 a12 a13 a14 a15 r).set 12 x=ch a0 a1 a2 a3 a4 a5 a6 a7 a8 a9 a10 a11 x a13 a14 a15 r:=rfl
theorem gt_ch13:gt (ch a0 a1 a2 a3 a4 a5 a6 a7 a8 a9 a10 a11 a12 a13 a14 a15 r) 13=a13:=rfl
theorem nh_ch13:nh (ch a0 a1 a2 a3 a4 a5 a6 a7 a8 a9 a10 a11 a12 a13 a14 a15 r) 13 = !a13.holder:=rfl
theorem set_ch13:(ch a0 a1 a2 a3 a4 a5 a6 a7 a8 a9 a10 a11 a12 a13 a14 a15 r).set 13 x=ch a0 a1 a2 a3 a4 a5 a6 a7 a8 a9 a10 a11 a12 x a14 a15 r:=rfl
theorem gt_ch14:gt (ch a0 a1 a2 a3 a4 a5 a6 a7 a8 a9 a10 a11 a12 a13 a14 a15 r) 14=a14:=rfl
theorem nh_ch14:nh (ch a0 a1 a2 a3 a4 a5 a6 a7 a8 a9 a10 a11 a12 a13 a14 a15 r) 14 = !a14.holder:=rfl
theorem set_ch14:(ch a0 a1 a2 a3 a4 a5 a6 a7 a8 a9 a10 a11 a12 a13 a14 a15 r).set 14 x=ch a0 a1 a2 a3 a4 a5 a6 a7 a8 a9 a10 a11 a12 a13 x a15 r:=rfl
theorem gt_ch15:gt (ch a0 a1 a2 a3 a4 a5 a6 a7 a8 a9 a10 a11 a12 a13 a14 a15 r) 15=a15:=rfl
theorem nh_ch15:nh (ch a0 a1 a2 a3 a4 a5 a6 a7 a8 a9 a10 a11 a12 a13 a14 a15 r) 15 = !a15.holder:=rfl
theorem set_ch15:(ch a0 a1 a2 a3 a4 a5 a6 a7 a8 a9 a10 a11 a12 a13 a14 a15 r).set 15 x=ch a0 a1 a2 a3 a4 a5 a6 a7 a8 a9 a10 a11 a12 a13 a14 x r:=rfl
theorem gt_chS:gt (ch a0 a1 a2 a3 a4 a5 a6 a7 a8 a9 a10 a11 a12 a13 a14 a15 r) (n+16)=gt r n:=rfl
theorem nh_chS:nh (ch a0 a1 a2 a3 a4 a5 a6 a7 a8 a9 a10 a11 a12 a13 a14 a15 r) (n+16)=nh r n:=rfl
theorem set_chS:(ch a0 a1 a2 a3 a4 a5 a6 a7 a8 a9 a10 a11 a12 a13 a14 a15 r).set (n+16) x=ch a0 a1 a2 a3 a4 a5 a6 a7 a8 a9 a10 a11 a12 a13 a14 a15 (r.set n x):=rfl
theorem packS_cons:packS (a0::a1::a2::a3::a4::a5::a6::a7::a8::a9::a10::a11::a12::a13::a14::a15::r)=ch a0 a1 a2 a3 a4 a5 a6 a7 a8 a9 a10 a11 a12 a13 a14 a15 (packS r):=rfl
theorem packS_ch:packS (ch a0 a1 a2 a3 a4 a5 a6 a7 a8 a9 a10 a11 a12 a13 a14 a15 r)=ch a0 a1 a2 a3 a4 a5 a6 a7 a8 a9 a10 a11 a12 a13 a14 a15 (packS r):=rfl
theorem packS_0:packS []=[]:=rfl
theorem packS_1:packS [a0]=[a0]:=rfl
theorem packS_2:packS [a0,a1]=[a0,a1]:=rfl
theorem packS_3:packS [a0,a1,a2]=[a0,a1,a2]:=rfl
theorem packS_4:packS [a0,a1,a2,a3]=[a0,a1,a2,a3]:=rfl
theorem packS_5:packS [a0,a1,a2,a3,a4]=[a0,a1,a2,a3,a4]:=rfl
theorem packS_6:packS [a0,a1,a2,a3,a4,a5]=[a0,a1,a2,a3,a4,a5]:=rfl
theorem packS_7:packS [a0,a1,a2,a3,a4,a5,a6]=[a0,a1,a2,a3,a4,a5,a6]:=rfl
theorem packS_8:packS [a0,a1,a2,a3,a4,a5,a6,a7]=[a0,a1,a2,a3,a4,a5,a6,a7]:=rfl
theorem packS_9:packS [a0,a1,a2,a3,a4,a5,a6,a7,a8]=[a0,a1,a2,a3,a4,a5,a6,a7,a8]:=rfl
theorem packS_10:packS [a0,a1,a2,a3,a4,a5,a6,a7,a8,a9]=[a0,a1,a2,a3,a4,a5,a6,a7,a8,a9]:=rfl
theorem packS_11:packS [a0,a1,a2,a3,a4,a5,a6,a7,a8,a9,a10]=[a0,a1,a2,a3,a4,a5,a6,a7,a8,a9,a10]:=rfl
theorem packS_12:packS [a0,a1,a2,a3,a4,a5,a6,a7,a8,a9,a10,a11]=[a0,a1,a2,a3,a4,a5,a6,a7,a8,a9,a10,a11]:=rfl
theorem packS_13:packS [a0,a1,a2,a3,a4,a5,a6,a7,a8,a9,a10,a11,a12]=[a0,a1,a2,a3,a4,a5,a6,a7,a8,a9,a10,a11,a12]:=rfl
theorem packS_14:packS [a0,a1,a2,a3,a4,a5,a6,a7,a8,a9,a10,a11,a12,a13]=[a0,a1,a2,a3,a4,a5,a6,a7,a8,a9,a10,a11,a12,a13]:=rfl
theorem packS_15:packS [a0,a1,a2,a3,a4,a5,a6,a7,a8,a9,a10,a11,a12,a13,a14]=[a0,a1,a2,a3,a4,a5,a6,a7,a8,a9,a10,a11,a12,a13,a14]:=rfl
theorem stripEff_ch {tk:List Nat} {i:Nat}:stripEff tk i (ch a0 a1 a2 a3 a4 a5 a6 a7 a8 a9 a10 a11 a12 a13 a14 a15 r)=stripEff tk i (a0::a1::a2::a3::a4::a5::a6::a7::a8::a9::a10::a11::a12::a13::a14::a15::r):=rfl
theorem dropEff_ch {s i:Nat}:dropEff s i (ch a0 a1 a2 a3 a4 a5 a6 a7 a8 a9 a10 a11 a12 a13 a14 a15 r)=dropEff s i (a0::a1::a2::a3::a4::a5::a6::a7::a8::a9::a10::a11::a12::a13::a14::a15::r):=rfl
theorem frzFrom_ch {s:Nat} {hv:AV} {i:Nat}:frzFrom s hv i (ch a0 a1 a2 a3 a4 a5 a6 a7 a8 a9 a10 a11 a12 a13 a14 a15 r)=frzFrom s hv i (a0::a1::a2::a3::a4::a5::a6::a7::a8::a9::a10::a11::a12::a13::a14::a15::r):=rfl
theorem dropFrom_ch {s i:Nat}:dropFrom s i (ch a0 a1 a2 a3 a4 a5 a6 a7 a8 a9 a10 a11 a12 a13 a14 a15 r)=dropFrom s i (a0::a1::a2::a3::a4::a5::a6::a7::a8::a9::a10::a11::a12::a13::a14::a15::r):=rfl
theorem onlyFrom_ch {ks:List Nat} {i:Nat}:onlyFrom ks i (ch a0 a1 a2 a3 a4 a5 a6 a7 a8 a9 a10 a11 a12 a13 a14 a15 r)=onlyFrom ks i (a0::a1::a2::a3::a4::a5::a6::a7::a8::a9::a10::a11::a12::a13::a14::a15::r):=rfl
end
attribute [go_sem] gt_ch0 nh_ch0 set_ch0 gt_ch1 nh_ch1 set_ch1 gt_ch2 nh_ch2 set_ch2 gt_ch3 nh_ch3 set_ch3 gt_ch4 nh_ch4 set_ch4 gt_ch5 nh_ch5 set_ch5 gt_ch6 nh_ch6 set_ch6 gt_ch7 nh_ch7 set_ch7 gt_ch8 nh_ch8 set_ch8 gt_ch9 nh_ch9 set_ch9 gt_ch10 nh_ch10 set_ch10 gt_ch11 nh_ch11 set_ch11 gt_ch12 nh_ch12 set_ch12 gt_ch13 nh_ch13 set_ch13 gt_ch14 nh_ch14 set_ch14 gt_ch15 nh_ch15 set_ch15 gt_chS nh_chS set_chS packS_cons packS_ch packS_0 packS_1 packS_2 packS_3 packS_4 packS_5 packS_6 packS_7 packS_8 packS_9 packS_10 packS_11 packS_12 packS_13 packS_14 packS_15 stripEff_ch dropEff_ch frzFrom_ch dropFrom_ch onlyFrom_ch
theorem app_nil {σ:List AV}:app [] σ=σ:=rfl
theorem app_cons {σ:List AV} {p:Nat×AV} {r:List (Nat×AV)}:app (p::r) σ=app r (σ.set p.1 p.2):=rfl
theorem opd_tmp {σ:List AV} {t:Nat}:opd σ (.tmp t)=gt σ t:=rfl
theorem opd_int {σ:List AV} {k:IntKind} {n:Int}:opd σ (.const (.int k n))=.one (.raw (.int k n)):=rfl
theorem opd_bool {σ:List AV} {b:Bool}:opd σ (.const (.bool b))=.one (.raw (.bool b)):=rfl
theorem opd_string {σ:List AV} {s:ByteArray}:opd σ (.const (.string s))=.one (.raw (.string s)):=rfl
theorem opd_slice {σ:List AV} {a:Option Addr} {l c:Nat}:opd σ (.const (.slice a l c))=.one (.raw (.slice a l c)):=rfl
theorem opd_agg {σ:List AV} {vs:Array Value}:opd σ (.const (.agg vs))=constAV (.agg vs):=rfl
theorem opd_func {σ:List AV} {f:FuncId}:opd σ (.func f)=.one (.raw (.func (.func f) #[] #[])):=rfl
theorem val_some {σ:List AV} {o:Oper} {rd:List Nat} {av:AV}:val σ o rd av=match o.dst with
 | some d=>if nh σ d then some (d::rd,[(d,av)]) else none
 | none=>none:=rfl
theorem of_some {x:List Nat×List (Nat×AV)}:OR.of (some x)=.eff x.1 [] x.2:=rfl
theorem of_none:OR.of none=.bad:=rfl
theorem many_agg {s b:Nat} {z:List Cell} {sh:Sh}:TI.many ⟨s,b,z,sh⟩=if sh.agg then some true else if sh.plain then some false else none:=rfl
theorem withTI_of {t:TypeId} {ti:TI} (h:mkTI P t=some ti) {k:TI→OR}:withTI P t k=k ti:=by unfold withTI;rw [h]
theorem ite_t {α:Type} {c:Prop} [Decidable c] {a b:α} (h:c):(if c then a else b)=a:=if_pos h
theorem ite_f {α:Type} {c:Prop} [Decidable c] {a b:α} (h:¬c):(if c then a else b)=b:=if_neg h
theorem w64 {n:Int} (h:-9223372036854775808≤n∧n≤9223372036854775807):IntKind.i64.wrap n=n:=by rw [IntKind.wrap_i64];omega
theorem opt_map_some {α β:Type} (f:α→β) (a:α):(some a).map f=some (f a):=rfl
theorem opt_map_none {α β:Type} (f:α→β):(none:Option α).map f=none:=rfl
theorem opt_bind_some {α β:Type} (f:α→Option β) (a:α):(some a).bind f=f a:=rfl
theorem beqI {a b:Int}:(a==b)=decide (a=b):=rfl
theorem bneI {a b:Int}:(a != b)=decide (a≠b):=by simp [bne,beqI]
theorem guardd {p:Prop} [Decidable p] {X Y:Bool→Prop} (hx:p→X true) (hy:¬p→Y true):GuardK (decide p) true X Y:=⟨fun h=>hx (of_decide_eq_true h),fun h=>hy (of_decide_eq_false h)⟩
theorem guardn {p:Prop} [Decidable p] {X Y:Bool→Prop} (hx:¬p→X true) (hy:p→Y true):GuardK (decide p) false X Y:=⟨fun h=>hx (of_decide_eq_false h),fun h=>hy (of_decide_eq_true h)⟩
theorem bif_t {α:Type} {a b:α}:(bif true then a else b)=a:=rfl
theorem bif_f {α:Type} {a b:α}:(bif false then a else b)=b:=rfl
attribute [go_sem 100] ite_t ite_f
attribute [go_sem 10000] if_true if_false
attribute [go_sem] w64
attribute [go_sem] beqI bneI bif_t bif_f
attribute [go_sem ↓] rc_skip rc_region rc_regionD rc_seq rc_cond rc_block rc_loop rc_exit rc_ret
attribute [go_sem] runF_nil runF_cons runG_nil runG_cons nrm_cons nrm_ch nrmR_nil nrmR_cons
attribute [go_sem ↓] hide_1 hide_2 hide_4 hide_r hide_o
attribute [go_sem] tick_true tick_false tick_plain tick_when tick_skip tick_eff tick_call tick_own tick_one
attribute [go_sem ↓] thenC_normal thenC_exit thenC_ret inBlockC_normal inBlockC_exit inBlockC_ret
attribute [go_sem] selE_t selE_f
attribute [go_sem] doF_eff doF_call doF_own ownF_some retCX_ret onD_nil gdF_plain gdF_when gdF_skip
attribute [go_sem] guardK_tt guardK_ff guardK_tf guardK_ft condK_t condK_f condF_bool retC_ret
attribute [congr] ltF_congr selE_congr seqF_congr joinK_congr ownF_congr doF_congr guardK_congr condK_congr runF_congr runG_congr
attribute [go_sem] gt_zero gt_succ nh_zero nh_succ app_nil app_cons opd_tmp opd_int opd_bool opd_string opd_slice opd_agg opd_func val_some of_some of_none many_agg
attribute [go_sem] opt_map_some opt_map_none opt_bind_some List.set_cons_zero List.set_cons_succ Option.getD_some Option.getD_none List.getElem?_cons_zero List.getElem?_cons_succ List.getElem?_nil
attribute [go_sem] ownView argsXA Cell.splice newSlot newRes ghOf ghL ghA setAny frz frzFrom frzOne AV.frzd Cell.sub Cell.at Cell.upd Cell.cnt Cell.esz AV.boxOf AV.reBox AV.fresh osliceA AV.isOwn ownRes
attribute [go_sem] ltF_f seqF_t seqF_f joinAt firstR hasJoin onlyS onlyFrom anyH nextK pickK isK
attribute [go_sem] opA opA0 opL selO litA litB litE isNone hasLit emptyOf isZc zcAt ownN appendNA isX opX nilO nilV tiX valX maxV eqOp bothB bbA ownAtB ownAt appendOA nilA nilC emptyA dropEff_nil dropEff_cons hitB dropS dropFrom dropOne mvS AV.rf
attribute [go_sem] guardA skipF opB vofA vofB sliceOk elemTI arrOk cpy pickA cellsOfAV loadC loadA storeA fieldAddrA extractA elemAt indexAddrA abin binA aun unA convA lenC lenA lenOk lenFit Cell.isSl natA boundA orrO cutC sliceA makeA
attribute [go_sem] fillC avParts orrs placeOf buildA intsOf chunk repeatL buildSliceA toInts toRows joinC ownC stripEff_nil stripEff_cons consB appendA argA argsA orrL dstRd callEff nhDst plainFn orr AV.holder AV.isBox AV.isArr Sh.agg Sh.plain Cell.bare bareL constAV
attribute [go_sem] resOne resAll resAV AV.noTok noTokL Cell.noTok AV.stripAll
attribute [go_sem] List.take_succ_cons List.take_zero List.drop_succ_cons List.drop_zero List.drop_nil List.take_nil List.length_cons List.length_nil List.cons_append List.nil_append List.append_nil List.all_cons List.all_nil List.map_cons List.map_nil
theorem bq4 {b:Bool}:(b==false) = !b:=by cases b<;>rfl
attribute [go_sem] bq4 List.foldl_cons List.foldl_nil AV.strip Cell.strip stripL
attribute [go_sem] Bool.not_true Bool.not_false Bool.false_eq_true Bool.true_and Bool.and_true Bool.false_and Bool.and_false true_and and_true and_self cond_true cond_false not_true_eq_false not_false_eq_true
attribute [go_sem] Nat.zero_add Nat.add_zero List.drop_length List.take_length List.length_set List.length_replicate
attribute [go_sem] decide_true decide_false beq_self_eq_true bne_self_eq_false Option.toList Int.toNat_natCast List.toList_toArray
theorem rg {p q:Prop} (k:q) (h:p=q:=by conv=>lhs;simp (maxSteps:=2000000) (disch:=omega) only [go_sem,Nat.reduceAdd,Nat.reduceSub,Nat.reduceMul,Int.reduceToNat,Nat.reduceEqDiff,Nat.reduceBEq,Nat.reduceBneDiff]):p:=Eq.mpr h k
end Go.Slot

namespace Go.Slot
open Go Go.RowKit
variable {P:Program}
theorem CallsTo.nilInts {f:FuncId} {k:IntKind} {res:AV} (h:∀ b,CallsTo P f [.one (.nn b)] res):CallsTo P f [.one (.ints k [])] res:=by
 refine ⟨(h true).1,fun M w vs hM hr=>?_⟩
 match vs,hr with
 | [v],hr=>
  have hv:RdC M w v (.ints k []):=hr.1
  cases hv with
  | @ints a len cap _ _ b off hl hc ha hh=>
   subst hl
   exact (h a.isNone).2 M w _ hM ⟨(RdC.nn:RdC M w (.slice a 0 cap) (.nn a.isNone)),trivial⟩
end Go.Slot

namespace Go.Slot
open Go Go.RowKit Go.ChangeShapes
variable {P:Program} {H:Type} {enc:TypeId×Value→H} {w:World} {spare:Nat→Bool} {held:Bool}
inductive Sp where
 | int (k:IntKind)
 | bool
 | str
 | ints (k:IntKind)
 | sl (l:List Sp)
inductive Fit (N:Nat):Sp→Cell→Prop
 | int {k:IntKind} {n:Int} (h:k.min≤n∧n≤k.max):Fit N (.int k) (.raw (.int k n))
 | bool {b:Bool}:Fit N .bool (.raw (.bool b))
 | str {s:ByteArray} (h:s.size≤N):Fit N .str (.raw (.string s))
 | ints {k:IntKind} {L:List Int} (hl:L.length≤N) (h:∀ x∈L,k.min≤x∧x≤k.max):Fit N (.ints k) (.ints k L)
 | sl {l:List Sp} {rows:List (List Cell)} (hl:rows.length≤N) (hlen:∀ r∈rows,r.length=l.length) (h:∀(r:List Cell),r∈rows→∀(i:Nat) (s:Sp) (c:Cell),l[i]? = some s→r[i]? = some c→Fit N s c):Fit N (.sl l) (.sl l.length rows)
def FitL (N:Nat) (l:List Sp) (cs:List Cell):Prop:=cs.length=l.length∧∀(i:Nat) (s:Sp) (c:Cell),l[i]? = some s→cs[i]? = some c→Fit N s c
theorem FitL.cons {N:Nat} {s:Sp} {l:List Sp} {cs:List Cell} (h:FitL N (s::l) cs):∃ c r,cs=c::r∧Fit N s c∧FitL N l r:=by
 obtain ⟨h1,h2⟩:=h
 cases cs with
 | nil=>simp at h1
 | cons c r=>exact ⟨c,r,rfl,h2 0 s c rfl rfl,by simpa using h1,fun i s' c' hs hc=>h2 (i+1) s' c' (by simpa using hs) (by simpa using hc)⟩
theorem FitL.nil {N:Nat} {cs:List Cell} (h:FitL N [] cs):cs=[]:=List.eq_nil_of_length_eq_zero h.1
theorem FitL.one {N:Nat} {s:Sp} {c:Cell} (h:Fit N s c):FitL N [s] [c]:=⟨rfl,fun i s' c' hs hc=>by
 cases i with
 | zero=>simp at hs hc;subst hs hc;exact h
 | succ i=>simp at hs⟩
theorem FitL.append {N:Nat} {l l':List Sp} {cs cs':List Cell} (h:FitL N l cs) (h':FitL N l' cs'):FitL N (l++l') (cs++cs'):=by
 refine ⟨by simp [h.1,h'.1],fun i s c hs hc=>?_⟩
 rcases Nat.lt_or_ge i l.length with hi | hi
 · rw [List.getElem?_append_left hi] at hs
   rw [List.getElem?_append_left (by rw [h.1];exact hi)] at hc
   exact h.2 i s c hs hc
 · rw [List.getElem?_append_right hi] at hs
   rw [List.getElem?_append_right (by rw [h.1];exact hi),h.1] at hc
   exact h'.2 _ s c hs hc
structure Bulk (bk:DataW H→Nat):Prop where
 str:∀ b,b.length≤bk (.lit (.string b))
 elems:∀ l r,l.length≤bk (.slice l r)
 elem:∀ l r d,d∈l→bk d≤bk (.slice l r)
 part:∀ l d,d∈l→bk d≤bk (.agg l)
theorem RdD.app0 {M:Nat→Nat→Prop} {w:World}:∀{vs us:List Value} {cs ds:List Cell},RdD M w vs cs→RdD M w us ds→RdD M w (vs++us) (cs++ds)
 | [],_,[],_,_,h=>h
 | _::_,_,_::_,_,h,h'=>⟨h.1,RdD.app0 h.2 h'⟩
theorem cellAt {a:Addr} {v:Value} (h:w.cell? a=some v):a.spot=none:=by
 unfold World.cell? at h
 split at h
 · split at h
   · cases h
   · rename_i hs;simpa using hs
 · cases h
theorem addrAt {a:Addr} (h:a.spot=none) (n:Nat):a.add n=⟨a.block,a.off+n,none⟩:=by
 unfold Addr.add
 split
 · rename_i e;subst e;cases a;simp at h;subst h;rfl
 · rfl
section
variable {bk:DataW H→Nat} {N:Nat}
end
end Go.Slot

namespace Go.Slot
open Go Go.RowKit Go.ChangeShapes Go.WideShapes
variable {P:Program} {H:Type} {enc:TypeId×Value→H}
def M0:Nat→Nat→Prop:=fun _ _=>False
section
variable {w:World} {spare:Nat→Bool} {held:Bool} {bk:DataW H→Nat} {N:Nat} {r:Reach} {b0:Nat}
end
theorem trods_stay (hl:laidOutB P=true) {W W':World} (hb:Below W.heap.size W W') {sp:Nat→Bool}:∀{ts:List TypeId} {vs:List Value} {ds:List (DataW H)} {ps:List MemPlace},(∀ t∈ts,P.readableRec t=true∧t<P.types.size)→
 DataW.TrodAll enc P W 0 (fun _=>true) true ts vs ds ps→(∀ p∈ps,p.block<W.heap.size)→(∀ p∈ps,sp p.block=true)→DataW.TrodAll enc P W' 0 sp true ts vs ds ps
 | [],vs,ds,ps,_,h,_,_=>by
  obtain ⟨rfl,rfl,rfl⟩:=trodAll_nil h
  exact trodAll_mk0
 | t::ts,vs,ds,ps,hts,h,hlt,hsp=>by
  obtain ⟨v,vs',d,ds',p,q,rfl,rfl,rfl,⟨fuel,h1⟩,h2⟩:=trodAll_cons h
  have ht:=hts t (by simp)
  exact ⟨p,q,⟨fuel,DataW.trod_stays (kids_book hl ht.1) (book_sized ht.1) (fun h=>by cases h) ⟨ht.2,book_self t⟩ h1 (fun x hx=>hb.same (hlt x (by simp [hx]))) (fun x hx=>hsp x (by simp [hx]))⟩,
   trods_stay hl hb (fun u hu=>hts u (by simp [hu])) h2 (fun x hx=>hlt x (by simp [hx])) (fun x hx=>hsp x (by simp [hx])),rfl⟩
theorem keptBut_below {W W':World} {may:MemPlace→Prop} (hb:Below W.heap.size W W'):W.keptBut W' may:=by
 refine ⟨hb.os,hb.output,fun i hi=>?_⟩
 rw [hb.block i hi]
 split
 · rename_i h1 h2
   rw [h1] at h2;cases h2
   exact ⟨rfl,rfl,rfl,fun _ _=>rfl⟩
 · rename_i h1 h2
   rw [h1] at h2;cases h2
   exact .inr ⟨rfl,rfl⟩
 · rfl
theorem frozen_below {W W':World} (hb:Below W.heap.size W W') {a:Addr} (h:a.block<W.heap.size):W'.frozen? a=W.frozen? a:=by
 unfold World.frozen?
 rw [hb.block _ h]
theorem law_post (hl:laidOutB P=true) {f:Func} {s:ChangeSpec} {apart fresh handsOn again:Bool} {W W':World} {args:Array Value} {ds gs:List (DataW H)} {before:List MemPlace} {tb:TypeId}
 (hts:∀ t∈f.params.toList,P.readableRec t=true∧t<P.types.size) (hv:s.vars=[]) (hrt:f.resultTypes=#[tb]) (htb:P.underlying tb=some .bool)
 (hfn:∀ ds gs:List (DataW H),DataW.TrodAll enc P W 0 (fun _=>true) true f.params.toList args.toList ds before→gs=[]→(s.fn H (ds++gs)).results=[.lit (.bool true)]∧(s.fn H (ds++gs)).args=ds∧(s.fn H (ds++gs)).vars=[])
 (hW:DataW.Whole enc P f.params.toList s.vars apart W args.toList ds gs before) (hb:Below W.heap.size W W'):s.post enc P f apart fresh handsOn again W args (.bool true) W':=by
 have hlt:∀ p∈before,p.block<W.heap.size:=fun p hp=>hW.lt p hp
 have hW':=hW
 obtain ⟨p,q,hA,hV,rfl,hfz,hnd⟩:=hW
 rw [hv] at hV
 obtain ⟨rfl,rfl⟩:=trodVars_none hV
 rw [List.append_nil] at hW' hlt hfz hnd hfn
 obtain ⟨e1,e2,e3⟩:=hfn ds [] hA rfl
 have hres:∀(b:Nat) (sp:Nat→Bool) (hd:Bool),DataW.TrodAll enc P W' b sp hd f.resultTypes.toList ((Value.bool true).resultList f.resultTypes.size) (s.fn H (ds++[])).results []:=fun b sp hd=>by
  rw [e1,hrt]
  exact trodAll_cons_mk (shut_bool htb true) trodAll_mk0
 have hargs:∀ sp:Nat→Bool,(∀ x∈p,sp x.block=true)→DataW.TrodAll enc P W' 0 sp true f.params.toList args.toList (s.fn H (ds++[])).args p:=fun sp hsp=>by
  rw [e2]
  exact trods_stay hl hb hts hA hlt hsp
 have hvars:∀ sp:Nat→Bool,DataW.TrodVars enc P W' sp s.vars (s.fn H (ds++[])).vars []:=fun sp=>by
  rw [e3,hv];exact rfl
 refine ⟨ds,[],p,[],p,[],hW',hres _ _ _,hargs _ (fun x hx=>by simpa using hlt x hx),hvars _,keptBut_below hb,fun _=>⟨?_,_,_,([]++p)++[],⟨[]++p,[],trodAll_append (hargs _ (fun _ _=>rfl)) (hres _ _ _),hvars _,rfl,?_,?_⟩,?_⟩⟩
 · exact ok_one hrt rfl (okWide_bool_mk htb true)
 · intro b off hp
   have hp':MemPlace.cell b off∈p:=by simpa using hp
   rw [frozen_below hb (hlt _ hp')]
   exact hfz b off hp'
 · intro ha
   simpa using hnd ha
 · intro x hx _
   simpa using hx
end Go.Slot

namespace Go.Slot
open Go Go.RowKit Go.ChangeShapes
def tightB (P:Program):Nat→List Field→Bool
 | _,[]=>true
 | off,f::r=>f.offset==off&&tightB P (off+P.cellsOf f.type) r
def widthF (P:Program):List Field→Nat
 | []=>0
 | f::r=>P.cellsOf f.type+widthF P r
def typesOk (P:Program) (L:List TypeId):Bool:=L.all fun t=>match P.underlying t with
 | some .bool=>true
 | some (.int _)=>true
 | some .string=>true
 | some (.slice e)=>L.contains e&&(P.cellsOf e != 0)&&(match P.underlying e with | some (.int _)=>P.cellsOf e==1 | _=>true)
 | some (.array n e)=>L.contains e&&(P.cellsOf t==n*P.cellsOf e)
 | some (.struct fs)=>(fs.toList.all fun f=>L.contains f.type)&&tightB P 0 fs.toList&&(P.cellsOf t==widthF P fs.toList)
 | _=>false
inductive FitT (P:Program) (N:Nat):TypeId→List Cell→Prop
 | int {t:TypeId} {k:IntKind} {n:Int} (ht:P.underlying t=some (.int k)) (h:k.min≤n∧n≤k.max):FitT P N t [.raw (.int k n)]
 | bool {t:TypeId} {b:Bool} (ht:P.underlying t=some .bool):FitT P N t [.raw (.bool b)]
 | str {t:TypeId} {s:ByteArray} (ht:P.underlying t=some .string) (h:s.size≤N):FitT P N t [.raw (.string s)]
 | ints {t e:TypeId} {k:IntKind} {l:List Int} (ht:P.underlying t=some (.slice e)) (he:P.underlying e=some (.int k)) (hl:l.length≤N) (h:∀ x∈l,k.min≤x∧x≤k.max):FitT P N t [.ints k l]
 | sl {t e:TypeId} {rows:List (List Cell)} (ht:P.underlying t=some (.slice e)) (he:∀ k,P.underlying e≠some (.int k)) (hl:rows.length≤N) (h:∀ r∈rows,FitT P N e r):FitT P N t [.sl (P.cellsOf e) rows]
 | struct {t:TypeId} {fs:Array Field} {rows:List (List Cell)} (ht:P.underlying t=some (.struct fs)) (hl:rows.length=fs.size) (h:∀(i:Nat) (f:Field) (r:List Cell),fs.toList[i]? = some f→rows[i]? = some r→FitT P N f.type r):FitT P N t rows.flatten
 | array {t e:TypeId} {n:Nat} {rows:List (List Cell)} (ht:P.underlying t=some (.array n e)) (hl:rows.length=n) (h:∀ r∈rows,FitT P N e r):FitT P N t rows.flatten
section
variable {P:Program} {N:Nat} {t:TypeId} {cs:List Cell}
theorem FitT.int_inv (h:FitT P N t cs) {k:IntKind} (ht:P.underlying t=some (.int k)):∃ n,cs=[.raw (.int k n)]∧k.min≤n∧n≤k.max:=by
 cases h with
 | int h1 h2=>rw [ht] at h1;cases h1;exact ⟨_,rfl,h2⟩
 | bool h1=>rw [ht] at h1;cases h1
 | str h1=>rw [ht] at h1;cases h1
 | ints h1=>rw [ht] at h1;cases h1
 | sl h1=>rw [ht] at h1;cases h1
 | struct h1=>rw [ht] at h1;cases h1
 | array h1=>rw [ht] at h1;cases h1
theorem FitT.str_inv (h:FitT P N t cs) (ht:P.underlying t=some .string):∃ s,cs=[.raw (.string s)]∧s.size≤N:=by
 cases h with
 | int h1 h2=>rw [ht] at h1;cases h1
 | bool h1=>rw [ht] at h1;cases h1
 | str h1 h2=>exact ⟨_,rfl,h2⟩
 | ints h1=>rw [ht] at h1;cases h1
 | sl h1=>rw [ht] at h1;cases h1
 | struct h1=>rw [ht] at h1;cases h1
 | array h1=>rw [ht] at h1;cases h1
theorem FitT.sl_inv (h:FitT P N t cs) {e:TypeId} (ht:P.underlying t=some (.slice e)) (he:∀ k,P.underlying e≠some (.int k)):∃ rows,cs=[.sl (P.cellsOf e) rows]∧rows.length≤N∧∀ r∈rows,FitT P N e r:=by
 cases h with
 | int h1 h2=>rw [ht] at h1;cases h1
 | bool h1=>rw [ht] at h1;cases h1
 | str h1 h2=>rw [ht] at h1;cases h1
 | ints h1 h2 h3 h4=>rw [ht] at h1;cases h1;exact absurd h2 (he _)
 | sl h1 h2 h3 h4=>rw [ht] at h1;cases h1;exact ⟨_,rfl,h3,h4⟩
 | struct h1=>rw [ht] at h1;cases h1
 | array h1=>rw [ht] at h1;cases h1
theorem FitT.struct_inv (h:FitT P N t cs) {fs:Array Field} (ht:P.underlying t=some (.struct fs)):∃ rows:List (List Cell),cs=rows.flatten∧rows.length=fs.size∧
 ∀(i:Nat) (f:Field) (r:List Cell),fs.toList[i]? = some f→rows[i]? = some r→FitT P N f.type r:=by
 cases h with
 | int h1 h2=>rw [ht] at h1;cases h1
 | bool h1=>rw [ht] at h1;cases h1
 | str h1 h2=>rw [ht] at h1;cases h1
 | ints h1 h2 h3 h4=>rw [ht] at h1;cases h1
 | sl h1 h2 h3 h4=>rw [ht] at h1;cases h1
 | struct h1 h2 h3=>rw [ht] at h1;cases h1;exact ⟨_,rfl,h2,h3⟩
 | array h1=>rw [ht] at h1;cases h1
theorem FitT.array_inv (h:FitT P N t cs) {e:TypeId} {n:Nat} (ht:P.underlying t=some (.array n e)):∃ rows:List (List Cell),cs=rows.flatten∧rows.length=n∧∀ r∈rows,FitT P N e r:=by
 cases h with
 | int h1 h2=>rw [ht] at h1;cases h1
 | bool h1=>rw [ht] at h1;cases h1
 | str h1 h2=>rw [ht] at h1;cases h1
 | ints h1 h2 h3 h4=>rw [ht] at h1;cases h1
 | sl h1 h2 h3 h4=>rw [ht] at h1;cases h1
 | struct h1 h2 h3=>rw [ht] at h1;cases h1
 | array h1 h2 h3=>rw [ht] at h1;cases h1;exact ⟨_,rfl,h2,h3⟩
end
variable {P:Program} {H:Type} {enc:TypeId×Value→H} {w:World} {spare:Nat→Bool} {held:Bool} {bk:DataW H→Nat} {N:Nat}
theorem RdD.cellD {M:Nat→Nat→Prop}:∀{vs:List Value} {cs:List Cell},RdD M w vs cs→∀ j (hj:j<cs.length),RdC M w (vs.getD j Go.undef) cs[j]
 | [],[],_,j,hj=>by simp at hj
 | _::_,[],h,_,_=>h.elim
 | [],_::_,h,_,_=>h.elim
 | _::_,_::_,h,0,_=>h.1
 | _::vs,_::cs,h,j+1,hj=>by simpa using RdD.cellD (vs:=vs) (cs:=cs) h.2 j (by simpa using hj)
theorem rd_tight {L:List TypeId} {fuel:Nat} (hrec:∀(t:TypeId),t∈L→∀(cs:List Value) (x:DataW H×List MemPlace),DataW.trod enc P w 0 spare held fuel t cs=some x→bk x.1≤N→
 ∃ cells,RdD (fun _ _=>False) w cs cells∧FitT P N t cells) :
 ∀(fs:List Field) (off:Nat) (cs:List Value) (xs:List (DataW H×List MemPlace)),tightB P off fs=true→(∀ f∈fs,f.type∈L)→cs.length=off+widthF P fs→xs.length=fs.length→
  (∀(i:Nat) (f:Field),fs[i]? = some f→DataW.trod enc P w 0 spare held fuel f.type ((cs.drop f.offset).take (P.cellsOf f.type))=xs[i]?)→(∀ x∈xs,bk x.1≤N)→
  ∃ rows:List (List Cell),RdD (fun _ _=>False) w (cs.drop off) rows.flatten∧rows.length=fs.length∧∀(i:Nat) (f:Field) (r:List Cell),fs[i]? = some f→rows[i]? = some r→FitT P N f.type r
 | [],off,cs,xs,_,_,hlen,_,_,_=>by
  refine ⟨[],?_,rfl,fun i f r hf=>by simp at hf⟩
  rw [List.drop_eq_nil_of_le (by simp [widthF] at hlen;omega)]
  exact trivial
 | f::fs,off,cs,xs,ht,hL,hlen,hxs,hx,hb=>by
  simp only [tightB,Bool.and_eq_true,beq_iff_eq] at ht
  obtain ⟨hoff,ht⟩:=ht
  simp only [widthF] at hlen
  cases xs with
  | nil=>simp at hxs
  | cons x xs=>
   have h0:=hx 0 f rfl
   simp only [List.getElem?_cons_zero] at h0
   obtain ⟨c0,r0,f0⟩:=hrec f.type (hL f (by simp)) _ x h0 (hb x (by simp))
   obtain ⟨rows,r1,f1,f2⟩:=rd_tight hrec fs (off+P.cellsOf f.type) cs xs ht (fun g hg=>hL g (by simp [hg])) (by omega) (by simpa using hxs) (fun i f' hf=>by
    have:=hx (i+1) f' (by simpa using hf)
    simpa using this) (fun y hy=>hb y (by simp [hy]))
   refine ⟨c0::rows,?_,by simp [f1],fun i f' r hf hr=>?_⟩
   · have:cs.drop off=(cs.drop f.offset).take (P.cellsOf f.type)++cs.drop (off+P.cellsOf f.type):=by
      rw [hoff,←List.drop_drop,List.take_append_drop]
     rw [this,List.flatten_cons]
     exact r0.app0 r1
   · cases i with
     | zero=>simp at hf hr;subst hf hr;exact f0
     | succ i=>exact f2 i f' r (by simpa using hf) (by simpa using hr)
theorem rd_array {e:TypeId} {fuel:Nat} (hrec:∀(cs:List Value) (x:DataW H×List MemPlace),DataW.trod enc P w 0 spare held fuel e cs=some x→bk x.1≤N→
 ∃ cells,RdD (fun _ _=>False) w cs cells∧FitT P N e cells) (cs:List Value) :
 ∀(n k:Nat) (xs:List (DataW H×List MemPlace)),cs.length=(k+n)*P.cellsOf e→xs.length=k+n→
  (∀(i:Nat),k≤i→i<k+n→DataW.trod enc P w 0 spare held fuel e ((cs.drop (i*P.cellsOf e)).take (P.cellsOf e))=xs[i]?)→(∀ x∈xs,bk x.1≤N)→
  ∃ rows:List (List Cell),RdD (fun _ _=>False) w (cs.drop (k*P.cellsOf e)) rows.flatten∧rows.length=n∧∀ r∈rows,FitT P N e r
 | 0,k,xs,hlen,_,_,_=>by
  refine ⟨[],?_,rfl,fun r hr=>by cases hr⟩
  rw [List.drop_eq_nil_of_le (by rw [hlen];simp)]
  exact trivial
 | n+1,k,xs,hlen,hxs,hx,hb=>by
  have hk:k<xs.length:=by omega
  have h0:=hx k (Nat.le_refl _) (by omega)
  rw [List.getElem?_eq_getElem hk] at h0
  obtain ⟨c0,r0,f0⟩:=hrec _ _ h0 (hb _ (List.getElem_mem hk))
  obtain ⟨rows,r1,f1,f2⟩:=rd_array hrec cs n (k+1) xs (by rw [hlen];congr 1;omega) (by omega) (fun i h1 h2=>hx i (by omega) (by omega)) hb
  refine ⟨c0::rows,?_,by simp [f1],fun r hr=>?_⟩
  · have:cs.drop (k*P.cellsOf e)=(cs.drop (k*P.cellsOf e)).take (P.cellsOf e)++cs.drop ((k+1)*P.cellsOf e):=by
     rw [Nat.add_mul,Nat.one_mul,←List.drop_drop,List.take_append_drop]
    rw [this,List.flatten_cons]
    exact r0.app0 r1
  · cases List.mem_cons.1 hr with
    | inl h=>subst h;exact f0
    | inr h=>exact f2 r h
theorem trod_fit (hB:Bulk bk) {L:List TypeId} (hL:typesOk P L=true):∀(fuel:Nat) (t:TypeId),t∈L→∀(cs:List Value) (x:DataW H×List MemPlace),DataW.trod enc P w 0 spare held fuel t cs=some x→bk x.1≤N→
 ∃ cells,RdD (fun _ _=>False) w cs cells∧FitT P N t cells:=by
 intro fuel
 induction fuel with
 | zero=>intro t _ cs x h;simp [DataW.trod] at h
 | succ fuel ih=>
  intro t htL cs x hx hb
  have hok:=List.all_eq_true.1 hL t htL
  split at hok
  · rename_i ht
    obtain ⟨b,rfl,rfl⟩:=DataW.trod_bool ht hx
    exact ⟨[.raw (.bool b)],⟨.raw rfl,trivial⟩,.bool ht⟩
  · rename_i k ht
    obtain ⟨m,rfl,rfl,hw⟩:=DataW.trod_int ht hx
    exact ⟨[.raw (.int k m)],⟨.raw rfl,trivial⟩,.int ht (by simpa [Lit.wf] using hw)⟩
  · rename_i ht
    obtain ⟨s,rfl,rfl,_⟩:=DataW.trod_string ht hx
    refine ⟨[.raw (.string s)],⟨.raw rfl,trivial⟩,.str ht ?_⟩
    have h1:=hB.str s.data.toList
    have e:s.data.toList.length=s.size:=Array.length_toList
    have hb:bk (.lit (.string s.data.toList))≤N:=hb
    omega
  · rename_i e ht
    simp only [Bool.and_eq_true,bne_iff_ne,ne_eq] at hok
    obtain ⟨⟨heL,hc0⟩,hk⟩:=hok
    have heL:e∈L:=by simpa using heL
    by_cases hint:∃ k,P.underlying e=some (.int k)
    · obtain ⟨k,he⟩:=hint
      rw [he] at hk
      have hc:P.cellsOf e=1:=by simpa using hk
      rcases open_ints ht he hc hx with ⟨rfl,rfl⟩ | ⟨a,len,cap,zs,rfl,_,hlc,_,hzl,rfl,hcell,hwf⟩
      · exact ⟨[.ints k []],⟨.ints 0 0 rfl (Nat.le_refl _) (fun h=>absurd rfl h) (fun i hi=>absurd hi (Nat.not_lt_zero i)),trivial⟩,.ints ht he (Nat.zero_le _) (fun x hx=>by cases hx)⟩
      · have hle:len≤zs.length:=by rw [hzl];split<;>omega
        have htl:(zs.take len).length=len:=by simp;omega
        refine ⟨[.ints k (zs.take len)],⟨.ints a.block a.off htl.symm hlc (fun hne=>?_) (fun i hi=>⟨fun h=>h,?_⟩),trivial⟩,.ints ht he ?_ (fun x hx=>?_)⟩
        · have hpos:0<zs.length:=by
           have:=List.length_pos_iff.2 hne
           omega
          have h0:=cellAt (hcell 0 hpos)
          have h0:a.spot=none:=by simpa [Addr.add] using h0
          cases a;simp at h0;subst h0;rfl
        · have hi':i<zs.length:=by omega
          have h1:=hcell i hi'
          have hs:a.spot=none:=by
           have h0:=cellAt (hcell 0 (by omega))
           simpa [Addr.add] using h0
          rw [addrAt hs] at h1
          rw [h1]
          simp [hi']
        · have:=hB.elems (lits (H:=H) k (zs.take len)) (lits k (zs.drop len))
          have e1:(lits (H:=H) k (zs.take len)).length=len:=by simp [lits];omega
          have hb:bk (.slice (lits k (zs.take len)) (lits k (zs.drop len)))≤N:=hb
          omega
        · have:=hwf x (List.mem_of_mem_take hx)
          simpa [Lit.wf] using this
    · have hint:∀ k,P.underlying e≠some (.int k):=fun k hk=>hint ⟨k,hk⟩
      rcases DataW.trod_slice ht hx with ⟨rfl,rfl⟩ | ⟨a,len,cap,elems,rest,m,hm,rfl,rfl,_,hlc,_,hlen,hel,_,_⟩
      · exact ⟨[.sl (P.cellsOf e) []],⟨.sl 0 0 (fun _ _=>Go.undef) rfl (Nat.le_refl _) (fun h=>absurd rfl h) (fun r hr=>by cases hr) (fun i hi=>absurd hi (Nat.not_lt_zero i)) (fun i hi=>absurd hi (Nat.not_lt_zero i)),trivial⟩,
         .sl ht hint (Nat.zero_le _) (fun r hr=>by cases hr)⟩
      · obtain rfl:fuel=m:=by omega
        have each:∀ i,i<len→∃(vs:List Value) (row:List Cell),vs.length=P.cellsOf e∧(∀ j,j<P.cellsOf e→w.cell? ((a.add (i*P.cellsOf e)).add j)=vs[j]?)∧RdD (fun _ _=>False) w vs row∧FitT P N e row:=fun i hi=>by
         have h1:=hel i hi
         have hi':i<elems.length:=by omega
         rw [List.getElem?_eq_getElem hi'] at h1
         simp only [Option.bind_eq_some_iff] at h1
         obtain ⟨vs,hvs,htr⟩:=h1
         obtain ⟨_,h2,h3⟩:=World.cells?_some hvs
         have hbe:bk elems[i].1≤N:=Nat.le_trans (hB.elem (elems.map (·.1)) (rest.map (·.1)) elems[i].1 (List.mem_map.2 ⟨_,List.getElem_mem hi',rfl⟩)) hb
         obtain ⟨row,r1,r2⟩:=ih e heL vs _ htr hbe
         exact ⟨vs,row,h2,h3,r1,r2⟩
        have hlN:len≤N:=by
         have h1:=hB.elems (elems.map (·.1)) (rest.map (·.1))
         rw [List.length_map] at h1
         have hb:bk (.slice (elems.map (·.1)) (rest.map (·.1)))≤N:=hb
         omega
        have pick:∃(V:Nat→List Value) (R:Nat→List Cell),∀ i,i<len→(V i).length=P.cellsOf e∧(∀ j,j<P.cellsOf e→w.cell? ((a.add (i*P.cellsOf e)).add j)=(V i)[j]?)∧RdD (fun _ _=>False) w (V i) (R i)∧FitT P N e (R i):=by
         refine ⟨fun i=>if h:i<len then Classical.choose (each i h) else [],fun i=>if h:i<len then Classical.choose (Classical.choose_spec (each i h)) else [],fun i hi=>?_⟩
         simp only [dif_pos hi]
         exact Classical.choose_spec (Classical.choose_spec (each i hi))
        obtain ⟨V,R,hVR⟩:=pick
        have hspot:∀ i j,i<len→j<P.cellsOf e→a.spot=none:=fun i j hi hj=>by
         have h0:0<len:=by omega
         have h2:=(hVR 0 h0).2.1 0 (by omega)
         have hl0':0<(V 0).length:=by rw [(hVR 0 h0).1];omega
         rw [List.getElem?_eq_getElem hl0'] at h2
         have:=cellAt h2
         simpa [Addr.add] using this
        have hrl:∀ i,i<len→(R i).length=P.cellsOf e:=fun i hi=>by rw [←(hVR i hi).2.2.1.length];exact (hVR i hi).1
        refine ⟨[.sl (P.cellsOf e) ((List.range len).map R)],⟨.sl a.block a.off (fun i j=>(V i).getD j Go.undef) (by simp) hlc (fun hne=>?_) (fun r hr=>?_) (fun i hi j hj=>⟨fun h=>h,?_⟩) (fun i hi j hj=>?_),trivial⟩,.sl ht hint (by simpa using hlN) (fun r hr=>?_)⟩
        · have h0:0<len:=by
           rcases Nat.eq_zero_or_pos len with h | h
           · subst h;simp at hne
           · exact h
          have h1:=hspot 0 0 h0 (by omega)
          cases a;simp at h1;subst h1;rfl
        · obtain ⟨i,hi,rfl⟩:=List.mem_map.1 hr
          exact hrl i (List.mem_range.1 hi)
        · simp at hi
          have h1:=(hVR i hi).2.1 j hj
          have hjl:j<(V i).length:=by rw [(hVR i hi).1];exact hj
          rw [addrAt (hspot i j hi hj),addrAt rfl] at h1
          simp only at h1
          rw [h1,List.getElem?_eq_getElem hjl]
          simp [hjl]
        · simp at hi
          simp only [List.getElem_map,List.getElem_range] at hj ⊢
          exact RdD.cellD (hVR i hi).2.2.1 j hj
        · obtain ⟨i,hi,rfl⟩:=List.mem_map.1 hr
          exact (hVR i (List.mem_range.1 hi)).2.2.2
  · rename_i n e ht
    simp only [Bool.and_eq_true,beq_iff_eq] at hok
    obtain ⟨heL,hc⟩:=hok
    have heL:e∈L:=by simpa using heL
    obtain ⟨xs,m,hm,rfl,hcl,hxl,hel⟩:=DataW.trod_array ht hx
    obtain rfl:fuel=m:=by omega
    obtain ⟨rows,r1,r2,r3⟩:=rd_array (fun cs' x' h1 h2=>ih e heL cs' x' h1 h2) cs n 0 xs (by rw [hcl,hc,Nat.zero_add]) (by omega) (fun i _ h2=>hel i (by omega)) (fun y hy=>
     Nat.le_trans (hB.part (xs.map (·.1)) y.1 (List.mem_map.2 ⟨y,hy,rfl⟩)) hb)
    exact ⟨rows.flatten,by simpa using r1,.array ht r2 r3⟩
  · rename_i fs ht
    simp only [Bool.and_eq_true,beq_iff_eq] at hok
    obtain ⟨⟨hfL,htt⟩,hc⟩:=hok
    obtain ⟨xs,m,hm,rfl,hcl,hxl,hf⟩:=DataW.trod_struct ht hx
    obtain rfl:fuel=m:=by omega
    obtain ⟨rows,r1,r2,r3⟩:=rd_tight (fun t' hL' cs' x' h1 h2=>ih t' hL' cs' x' h1 h2) fs.toList 0 cs xs htt (fun f hf=>by simpa using List.all_eq_true.1 hfL f hf) (by omega) (by simpa using hxl) (fun i f hf'=>hf i f (by simpa using hf')) (fun y hy=>
     Nat.le_trans (hB.part (xs.map (·.1)) y.1 (List.mem_map.2 ⟨y,hy,rfl⟩)) hb)
    exact ⟨rows.flatten,by simpa using r1,.struct ht (by simpa using r2) r3⟩
  · cases hok
end Go.Slot

namespace Go.Slot
open Go Go.RowKit
variable {P:Program}
def byteAt (s:ByteArray) (i:Nat):Int:=((s.data[i]?).getD 0).toNat
end Go.Slot
