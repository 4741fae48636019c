/- The proof, part Z11: Mw, Mo. -/
import Derived.Test.YtjhbbadljohadaaGreatDoorZ10
namespace Go.Slot
open Go Go.RowKit
variable {P:Program}
def dropEff (s:Nat):Nat→List AV→List (Nat×AV)
 | _,[]=>[]
 | i,av::r=>if hitB s i av=true then (i,.any)::dropEff s (i+1) r else dropEff s (i+1) r
theorem dropEff_ge (s:Nat):∀(σ:List AV) (k:Nat) (p:Nat×AV),p∈dropEff s k σ→k≤p.1
 | [],_,p,h=>by cases h
 | av::r,k,p,h=>by
  have ih:=dropEff_ge s r (k+1) p
  unfold dropEff at h
  split at h
  · rcases List.mem_cons.1 h with rfl | h
    · exact Nat.le_refl _
    · exact Nat.le_of_succ_le (ih h)
  · exact Nat.le_of_succ_le (ih h)
theorem dropEff_find (s:Nat):∀(σ:List AV) (k i:Nat),i<σ.length→
 ((dropEff s k σ).reverse.find? (fun p=>p.1==k+i))=if hitB s (k+i) (gt σ i)=true then some (k+i,AV.any) else none
 | [],_,i,h=>by simp at h
 | av::r,k,i,h=>by
  have none_of:(dropEff s (k+1) r).reverse.find? (fun p=>p.1==k)=none:=by
   rw [List.find?_eq_none]
   intro p hp
   have:=dropEff_ge s r (k+1) p (List.mem_reverse.1 hp)
   simp only [beq_iff_eq];omega
  cases i with
  | zero=>
   have hg:gt (av::r) 0=av:=rfl
   rw [hg,Nat.add_zero]
   unfold dropEff
   split
   · rw [List.reverse_cons,List.find?_append,none_of];simp
   · exact none_of
  | succ i=>
   have ih:=dropEff_find s r (k+1) i (by simpa using h)
   have hg:gt (av::r) (i+1)=gt r i:=rfl
   rw [hg,show k+(i+1)=k+1+i by omega,←ih]
   have hd:dropEff s k (av::r)=if hitB s k av=true then (k,.any)::dropEff s (k+1) r else dropEff s (k+1) r:=rfl
   rw [hd]
   split
   · rw [List.reverse_cons,List.find?_append]
     simp [show ¬k=k+1+i by omega]
   · rfl
theorem app_dropEff (s:Nat) (σ:List AV):app (dropEff s 0 σ) σ=dropS s σ:=by
 apply ext_gt (by rw [app_length,dropS_length])
 intro i hi
 rw [app_length] at hi
 have h1:=gt_app (dropEff s 0 σ) σ i hi
 have h2:=dropEff_find s σ 0 i hi
 simp only [Nat.zero_add] at h2
 have h3:gt (dropS s σ) i=dropOne s i (gt σ i):=by
  unfold dropS Slot.gt
  rw [dropFrom_get]
  cases hh:σ[i]? with
  | none=>rw [List.getElem?_eq_none_iff] at hh;omega
  | some x=>simp
 rw [h1,h2,h3]
 unfold dropOne
 split<;>rfl
def consB {α:Type}:Bool→α→List α→List α
 | true,_,l=>l
 | false,p,l=>p::l
theorem dropEff_nil {s i:Nat}:dropEff s i []=[]:=rfl
theorem dropEff_cons {s i:Nat} {av:AV} {r:List AV}:dropEff s i (av::r)=consB (!hitB s i av) (i,.any) (dropEff s (i+1) r):=by
 have:dropEff s i (av::r)=if hitB s i av=true then (i,.any)::dropEff s (i+1) r else dropEff s (i+1) r:=rfl
 rw [this]
 cases hitB s i av<;>rfl
theorem stripEff_nil {tk:List Nat} {i:Nat}:stripEff tk i []=[]:=rfl
theorem stripEff_cons {tk:List Nat} {i:Nat} {x:AV} {r:List AV}:stripEff tk i (x::r)=consB (tk.all (fun t=>x.noTok t)) (i,x.stripAll tk) (stripEff tk (i+1) r):=by
 have:stripEff tk i (x::r)=if tk.all (fun t=>x.noTok t) then stripEff tk (i+1) r else (i,x.stripAll tk)::stripEff tk (i+1) r:=rfl
 rw [this]
 cases tk.all (fun t=>x.noTok t)<;>rfl
theorem run_append_new {T e:TypeId} {i:TypeInfo} {z:Value} (ht:P.underlying T=some (.slice e)) (hi:P.info? e=some i) (hz:i.zero=some z) (w:World) (ty:TypeId) {ad0:Option Addr} {n old:Nat} {xs:List Value} {yad:Option Addr} {m ycap:Nat} {news:List Value}
 (hfd:(Builtin.firstCells i.size m (.slice yad m ycap)).run P w.drew=.ok news.toArray w.drew) (hfo:(Builtin.firstCells i.size n (.slice ad0 n old)).run P w.drew=.ok xs.toArray w.drew)
 (ho:old<n+m) (hbound:(n+m)*i.bytes≤140737488355328) (h63:n+m≤9223372036854775807) :
 (Builtin.append_ #[T,T] ty #[.slice ad0 n old,.slice yad m ycap]).run P w=.ok (.slice (some ⟨w.heap.size,0,none⟩) (n+m) (grownCap w (n+m) old e))
   (w.drew.alloc (.cells ((xs++news).toArray++Builtin.zeroCells z.cells (grownCap w (n+m) old e-(n+m))) e)):=by
 have hn:¬(n+m≤old):=by omega
 have h63':¬(9223372036854775807<((n:Int)+(m:Int))):=by omega
 have hfit:=growslice_fits (need:=n+m) (old:=old) (bytes:=i.bytes) ho hbound
 have h48':¬(281474976710656<Builtin.nextslicecap (n+m) old*i.bytes):=by omega
 simp [Builtin.append_,run_underlying ht,sizeOf,typeInfo,zeroValue,hi,hz,Builtin.lenOf,hn,h63',h48',Question.forced,hfd,hfo,newRow,grownCap]
 congr 2
 apply Array.ext'
 simp [List.append_assoc]
def ownAt (σ:List AV) (x:Operand):Option (Nat×Cell):=match x with
 | .tmp t=>match gt σ t with
  | .arr [] c none=>some (t,c)
  | .asl s=>match gt σ s with
   | .arr [] c none=>some (s,c)
   | _=>none
  | _=>none
 | _=>none
def appendOA (σ:List AV) (ti:TI) (d:Nat) (x y:Operand):Option (List Nat×List (Nat×AV)):=
 match ti.sh with
 | .slice _ es eb ik=>match ownAt σ x,opd σ y with
  | some (s,c),.one cy=>match joinC es eb ik c cy.bare with
   | some c'=>if nh σ d&&c.isSl then some (List.range σ.length,dropEff s 0 σ++[(d,.arr [] c' none)]) else none
   | none=>none
  | _,_=>none
 | _=>none
theorem joinC_cells {M : Nat → Nat → Prop} {w : World} {es eb : Nat} {ik : Option IntKind} {c cy c' : Cell} (hes : 0 < es) (h : joinC es eb ik c cy = some c') (hu : c.uni) {vy : Value} (hy : RdC M w vy cy) :
 ∃(m:Nat) (news:List Value) (fy:List Cell),(∃ ad cap,vy=.slice ad m cap)∧news.length=m*es∧RdD M w news fy∧(news=[]∨∃ b off cap,vy=.slice (some ⟨b,off,none⟩) m cap∧∀ j u,news[j]? = some u→¬M b (off+j)∧w.cell? ⟨b,off+j,none⟩=some u)∧
  c'.uni∧c'.cnt=c.cnt+m∧c'.esz=es∧c.esz=es∧c'.flat=c.flat++fy∧(c.cnt+m)*eb≤140737488355328∧c.cnt+m≤9223372036854775807:=by
 unfold joinC at h
 split at h
 · rename_i k
   split at h
   · rename_i l l' hl hl'
     split at h
     · rename_i hc
       obtain ⟨rfl,hb1,hb2⟩:=hc
       cases h
       have hcc:c=.ints k l:=by
        cases c with
        | ints k' l0=>simp only [toInts] at hl;split at hl<;>first | (rename_i e;subst e;cases hl;rfl) | cases hl
        | sl=>cases hl
        | _=>exact hu.elim
       subst hcc
       obtain ⟨hyl,hyc⟩:=hy.ints_cells hl'
       exact ⟨l'.length,l'.map (Value.int k),l'.map fun n=>.raw (.int k n),hyl,by simp,raws_rd k l',hyc,trivial,by simp [Cell.cnt],rfl,rfl,by simp [Cell.flat],hb1,hb2⟩
     · cases h
   · cases h
 · split at h
   · rename_i l l' hl hl'
     split at h
     · rename_i hc
       obtain ⟨hb1,hb2⟩:=hc
       cases h
       have hcc:c=.sl es l:=by
        cases c with
        | sl n0 l0=>simp only [toRows] at hl;split at hl<;>first | (rename_i e;subst e;cases hl;rfl) | cases hl
        | ints=>cases hl
        | _=>exact hu.elim
       subst hcc
       obtain ⟨hyl,hyn,us,hul,hur,hyc⟩:=hy.rows_cells hes hl'
       refine ⟨l'.length,us,l'.flatten,hyl,hul,hur,hyc,fun r hr=>?_,by simp [Cell.cnt],rfl,rfl,by simp [Cell.flat],hb1,hb2⟩
       rcases List.mem_append.1 hr with h | h
       · exact hu r h
       · exact hyn r h
     · cases h
   · cases h
theorem ownAt_ok {E:Env} {τ:Nat→TV} {M:Nat→Nat→Prop} {σ:List AV} {a:Act} {w:World} (hI:RelI E τ M σ a w) {x:Operand} {s:Nat} {c:Cell} (h:ownAt σ x=some (s,c)) :
 σ[s]? = some (.arr [] c none)∧a.eval x=a.tmps.getD s Go.undef:=by
 unfold ownAt at h
 split at h
 case h_2=>cases h
 rename_i t
 split at h
 · rename_i c0 hg
   cases h
   exact ⟨gt_some hg (by simp),rfl⟩
 · rename_i s0 hg0
   split at h
   · rename_i c0 hg
     cases h
     have:=hI.gt t
     rw [hg0] at this
     exact ⟨gt_some hg (by simp),this⟩
   · cases h
 · cases h
theorem sound_appendO {σ:List AV} {o:Oper} {T:TypeId} {x y:Operand} (ho:o.op=.call { callee:=.builtin .append,args:=#[x,y],argTypes:=#[T,T] }) {d:Nat} (hdst:o.dst=some d) {ti:TI} (hti:mkTI P T=some ti)
 {rd:List Nat} {eff:List (Nat×AV)} (hA:appendOA σ ti d x y=some (rd,eff)):AStep P o σ rd [] eff:=by
 obtain ⟨ds,i0,z0,hd0,hi0,hz0,_,_,_,_,_,hsh'⟩:=(mkTI_ok hti).ex
 unfold appendOA at hA
 split at hA
 case h_2=>cases hA
 rename_i e es eb ik hsh
 split at hA
 case h_2=>cases hA
 rename_i s c cy hx hy
 split at hA
 case h_2=>cases hA
 rename_i c' hjoin
 split at hA
 case isFalse=>cases hA
 rename_i hn
 simp only [Bool.and_eq_true] at hn
 simp only [Option.some.injEq,Prod.mk.injEq] at hA
 obtain ⟨rfl,rfl⟩:=hA
 obtain ⟨rfl,j,z',hj,hz',hjs,hjb,hes0,hzs,hik⟩:=shOf_slice (hsh'.symm.trans hsh)
 have hes:0<es:=Nat.pos_of_ne_zero hes0
 intro E σ' a w hag _ ⟨τ,M,hI⟩ K Q hK
 have hσ:σ'=σ:=ext_gt hag.1 (fun i hi=>hag.2 i (List.mem_range.2 (by rw [←hag.1];exact hi)))
 subst hσ
 obtain ⟨hs,hev⟩:=ownAt_ok hI hx
 have sy:=hI.opd y
 rw [hy] at sy
 have sy:RdT M w τ (a.eval y) cy:=sy
 obtain ⟨b,Tb,vs,q,cap,e1,hheap,hr,_,hu,hcap,hcap'⟩:=hI.slot s _ hs
 simp only [List.length_nil,List.nil_append] at e1 hheap
 obtain ⟨m,news,fy,⟨yad,ycap,hyv⟩,hnl,hnr,hnc,hu',hcnt',hesz',hesz,hflat',hb1,hb2⟩:=joinC_cells hes hjoin hu sy.bare
 have hold:=hI.hold s _ hs rfl
 have hblk:blk (a.tmps.getD s Go.undef)=b:=by rw [e1];rfl
 rw [hblk] at hold
 have hvl:vs.length=c.cnt*es:=by rw [hr.length,Cell.flat_len hu,hesz]
 rw [hesz] at hcap'
 obtain ⟨old,h1,h2⟩:=nh_spec hn.1
 have hne:d≠s:=fun e=>by subst e;rw [hs] at h1;cases h1;cases h2
 have hfin:app (dropEff s 0 σ'++[(d,.arr [] c' none)]) σ'=(dropS s σ').set d (.arr [] c' none):=by
  rw [app_append,app_dropEff];rfl
 have hd1:∃ old1,(dropS s σ')[d]? = some old1∧old1.holder=false:=by
  unfold dropS
  rw [dropFrom_get,h1]
  refine ⟨_,rfl,?_⟩
  rcases dropOne_cases s (0+d) old with e | ⟨e,_⟩
  · rw [e];rfl
  · rw [e];exact h2
 obtain ⟨old1,hd1,hd2⟩:=hd1
 have hfree:∀(i:Nat) (x:AV),(dropS s σ')[i]? = some x→x.holder=true→blk (a.tmps.getD i Go.undef)≠b:=fun i x hi hx e=>by
  obtain ⟨y,hy,rfl⟩:=dropS_get hi
  rcases dropOne_cases s i y with e' | ⟨e',hne',_⟩
  · rw [e'] at hx;cases hx
  · rw [e'] at hx
    exact hne' (hI.inj i s y _ hy hs hx rfl (e.trans hblk.symm))
 have hfreet:∀ t,live (dropS s σ') t→tokB (τ t).v≠some b:=fun t ⟨i,y,hi,hy⟩=>by
  obtain ⟨x,hx,rfl⟩:=dropS_get hi
  rcases dropOne_cases s i x with e' | ⟨e',_⟩
  · rw [e'] at hy;exact hy.elim
  · rw [e'] at hy
    have:=hI.tbox t s _ ⟨i,x,hx,hy⟩ hs rfl
    rw [hblk] at this
    exact this
 have hrunop:∀ v' w',(Builtin.append_ #[T,T] o.type #[.slice (some ⟨b,0,none⟩) c.cnt cap,.slice yad m ycap]).run P w=.ok v' w'→(execOp a.eval o).run P w=.ok (.value v') w':=fun v' w' hr'=>by
  simp [execOp,ho,resolve,invoke,builtin,hev,e1,hyv,hr']
 have hn1:∀ u∈news,u.oneCell'=true:=hnr.oneL
 have hnc':news=[]∨∃ b off cap,Value.slice yad m ycap=.slice (some ⟨b,off,none⟩) m cap∧∀ j u,news[j]? = some u→w.cell? ⟨b,off+j,none⟩=some u:=hnc.imp id fun ⟨b',off,cap',e',hh⟩=>⟨b',off,cap',by rw [←hyv];exact e',fun j u hj=>(hh j u hj).2⟩
 have put:∀ v' w' (E':Env) (M':Nat→Nat→Prop),(execOp a.eval o).run P w=.ok (.value v') w'→RelI E τ M' ((dropS s σ').set d (.arr [] c' none)) (a.put (some d) v') w'→o.wp P a w K Q:=fun v' w' _ M' hr' hR=>by
  unfold Oper.wp
  rw [hr']
  show K (a.put o.dst v') w'
  rw [hdst]
  exact hK _ _ ⟨τ,M',by rw [hfin];exact hR⟩
 by_cases hroom:c.cnt+m≤cap
 ·
  have hf:(Builtin.firstCells j.size m (.slice yad m ycap)).run P w=.ok news.toArray w:=run_firstCells_any w m _ news ⟨_,_,rfl⟩ (by rw [hjs];exact hnl) hnc'
  have hfit:c.cnt*es+news.length≤(vs++q).length:=by
   rw [hnl,←Nat.add_mul]
   refine Nat.le_trans (Nat.mul_le_mul_right _ hroom) ?_
   rw [List.length_append];exact hcap'
  have hrun:=run_append_in (P:=P) hd0 hj w o.type b Tb c.cnt cap _ hheap m (.slice yad m ycap) news ⟨_,_,rfl⟩ (by rw [hjs];exact hnl) hf hn1 hroom (by rw [hjs];simpa using hfit)
  rw [hjs] at hrun
  simp only at hrun
  generalize hnew:((vs++q).take (c.cnt*es)++news++(vs++q).drop (c.cnt*es+news.length)).toArray=new at hrun
  have hnew':new=(([]:List Value)++((vs++news)++(vs++q).drop (c.cnt*es+news.length))).toArray:=by
   rw [←hnew,←hvl,List.take_left];simp
  have hb0:b<w.heap.size:=(Array.getElem?_eq_some_iff.1 hheap).1
  have hbx:BelowX b w (w.setRow b new):=⟨rfl,rfl,rfl,by simp,fun k _ hk=>setRow_other w b k _ hk⟩
  have hI':RelI E τ M σ' a (w.setRow b new):=by
   have h3:=hI.turn (new:=.arr [] c none) hs rfl rfl (fun _ h=>h) rfl (by rw [hblk];exact hbx) (by
    refine ⟨b,Tb,vs,news++(vs++q).drop (c.cnt*es+news.length),cap,e1,?_,hr.keep (hbx.keeps hold.1),fun p hp=>(by cases hp),hu,hcap,?_⟩
    · rw [setRow_heap w b _ new Tb (0,0) hheap,hnew'];simp
    · rw [hesz]
      simp only [List.length_append,List.length_drop]
      omega) (fun t ht=>ht.elim)
   have:σ'.set s (.arr [] c none)=σ':=by
    apply List.ext_getElem?
    intro i
    rw [List.getElem?_set]
    split
    · rename_i e;subst e;rw [hs];simp [(List.getElem?_eq_some_iff.1 hs).1]
    · rfl
   rwa [this] at h3
  refine put _ _ E _ (hrunop _ _ hrun) ((hI'.dropS s).take hd1 hd2 (.slice (some ⟨b,0,none⟩) (c.cnt+m) cap) (.arr [] c' none) rfl rfl (hold.2.2.1 rfl) hold.1 hfree hfreet ?_ (fun t ht=>ht.elim))
  refine ⟨b,Tb,vs++news,(vs++q).drop (c.cnt*es+news.length),cap,by rw [hcnt'];rfl,?_,?_,fun p hp=>(by cases hp),hu',by rw [hcnt'];exact hroom,?_⟩
  · rw [setRow_heap w b _ new Tb (0,0) hheap,hnew']
  · rw [hflat']
    exact (hr.app hnr).keep (hbx.keeps hold.1)
  · rw [hesz']
    simp only [List.length_append,List.length_drop] at hfit ⊢
    omega
 ·
  have hfd:(Builtin.firstCells j.size m (.slice yad m ycap)).run P w.drew=.ok news.toArray w.drew:=run_firstCells_any w.drew m _ news ⟨_,_,rfl⟩ (by rw [hjs];exact hnl) hnc'
  have hfo:(Builtin.firstCells j.size c.cnt (.slice (some ⟨b,0,none⟩) c.cnt cap)).run P w.drew=.ok vs.toArray w.drew:=run_firstCells_any w.drew c.cnt _ vs ⟨_,_,rfl⟩ (by rw [hjs];exact hvl) (.inr ⟨b,0,cap,rfl,fun j u hj=>by
   rw [Nat.zero_add]
   have hlt:j<vs.length:=(List.getElem?_eq_some_iff.1 hj).1
   have:w.drew.heap[b]? = some (.cells (vs++q).toArray Tb (0,0)):=hheap
   simp only [World.cell?,this,List.getElem?_toArray]
   rw [List.getElem?_append_left hlt];exact hj⟩)
  have hrun:=run_append_new (P:=P) hd0 hj hz' w o.type hfd hfo (by omega) (by rw [hjb];exact hb1) hb2
  generalize hgc:grownCap w (c.cnt+m) cap e=gc at hrun
  have hge:c.cnt+m≤gc:=by rw [←hgc];exact grownCap_ge w (c.cnt+m) cap e
  have hbl:Below w.heap.size w (w.drew.alloc (.cells ((vs++news).toArray++Builtin.zeroCells z'.cells (gc-(c.cnt+m))) e)):=((Below.refl _ _).drew).alloc (Nat.le_refl _) _
  have hheap':(w.drew.alloc (.cells ((vs++news).toArray++Builtin.zeroCells z'.cells (gc-(c.cnt+m))) e)).heap[w.heap.size]? = some (.cells ((vs++news).toArray++Builtin.zeroCells z'.cells (gc-(c.cnt+m))) e (0,0)):=heap_new w.drew _
  refine put _ _ E _ (hrunop _ _ hrun) ((hI.dropS s).adopt hbl hd1 hd2 (.slice (some ⟨w.heap.size,0,none⟩) (c.cnt+m) gc) (.arr [] c' none) rfl rfl (Nat.le_refl _) (by simp [blk]) ?_ (fun t ht=>ht.elim))
  refine ⟨w.heap.size,e,vs++news,(Builtin.zeroCells z'.cells (gc-(c.cnt+m))).toList,gc,by rw [hcnt'];rfl,?_,?_,fun p hp=>(by cases hp),hu',by rw [hcnt'];exact hge,?_⟩
  · rw [hheap']
    congr 2
    apply Array.ext'
    simp
  · rw [hflat']
    refine (hr.app hnr).keep (fun b' o u hm hc=>?_)
    have hl:=World.block_lt_of_cell? w _ hc
    exact ⟨fun hh=>hh.elim hm (fun hh=>by simp only [blk] at hh;simp only at hl;omega),(Keeps.below hbl b' o u hm hc).2⟩
  · rw [hesz',List.length_append,hvl,hnl,Array.length_toList,size_zeroCells,hzs,←Nat.add_mul,←Nat.add_mul]
    exact Nat.mul_le_mul_right _ (by omega)
def nilV:Value→Bool
 | .slice none 0 0=>true
 | _=>false
def nilO:Operand→Bool
 | .const v=>nilV v
 | .tmp _=>false
 | .global _=>false
 | .func _=>false
theorem nilO_spec {x:Operand} (h:nilO x=true):x=.const (.slice none 0 0):=by
 cases x with
 | const v=>
  simp only [nilO] at h
  unfold nilV at h
  split at h
  · rfl
  · cases h
 | _=>cases h
def tiX {α:Type} (P:Program) (t:TypeId) (k:TI→Option α):Option α:=match mkTI P t with
 | some ti=>k ti
 | none=>none
theorem tiX_eq {α:Type} {t:TypeId} {k:TI→Option α} {r:α} (h:tiX P t k=some r):∃ ti,mkTI P t=some ti∧k ti=some r:=by
 unfold tiX at h
 split at h
 · rename_i ti hti;exact ⟨ti,hti,h⟩
 · cases h
def ownAtB (σ:List AV) (x:Operand):Bool:=match x with
 | .tmp t=>match gt σ t with
  | .arr _ _ _ | .asl _=>true
  | _=>false
 | _=>false
def eqOp:BinOp→Bool
 | .eql=>true
 | .neq=>true
 | _=>false
def bothB:AV→AV→Bool
 | .one (.raw (.bool _)),.one (.raw (.bool _))=>true
 | _,_=>false
def bbA (ti:TI) (op:BinOp) (x y:AV):Option AV:=match ti.sh with
 | .bool=>match x,y with
  | .one (.raw (.bool a)),.one (.raw (.bool b))=>match op with
   | .eql=>some (.one (.raw (.bool (a==b))))
   | .neq=>some (.one (.raw (.bool (a != b))))
   | _=>none
  | _,_=>none
 | _=>none
theorem shOf_bool {d:TypeDesc} (h:shOf P d=.bool):d=.bool:=by
 cases d with
 | bool=>rfl
 | slice e=>
  exfalso;revert h;unfold shOf;dsimp only
  split
  · split
    · split<;>simp
    · simp
  · simp
 | struct fl=>
  exfalso;revert h;unfold shOf;dsimp only;split<;>simp
 | _=>simp [shOf] at h
theorem sound_bb {σ:List AV} {o:Oper} {op:BinOp} {T U:TypeId} {x y:Operand} (ho:o.op=.binOp op T x y U) {ti:TI} (hti:mkTI P T=some ti) {av:AV} (hb:bbA ti op (opd σ x) (opd σ y)=some av) {r:List Nat×List (Nat×AV)}
 (h:val σ o (orr x++orr y) av=some r):AStep P o σ r.1 [] r.2:=by
 unfold bbA at hb
 split at hb
 case h_2=>cases hb
 rename_i hsh
 split at hb
 case h_2=>cases hb
 rename_i u v hx hy
 obtain ⟨d,i,z,hd,hi,hz,_,_,_,_,_,hsh'⟩:=(mkTI_ok hti).ex
 obtain rfl:=shOf_bool (hsh'.symm.trans hsh)
 have heq:∀ w:World,(Op.equal T (.bool u) (.bool v)).run P w=.ok (u==v) w:=fun w=>by
  show (Op.equalIn (9999+1) T (.bool u) (.bool v)).run P w=_
  unfold Op.equalIn
  simp [run_underlying' hd]
 have eva:∀(E:Env) (τ:Nat→TV) (M:Nat→Nat→Prop) (σ':List AV) (a:Act) (w:World),(∀ x':Operand,(∀ t∈orr x',t∈orr x++orr y)→opd σ' x'=opd σ x')→RelI E τ M σ' a w→a.eval x=.bool u∧a.eval y=.bool v:=fun E τ M σ' a w hop hI=>by
  have sx:=hI.opd x
  have sy:=hI.opd y
  rw [hop x (fun t ht=>by simp [ht]),hx] at sx
  rw [hop y (fun t ht=>by simp [ht]),hy] at sy
  exact ⟨RdC.raw_inv sx,RdC.raw_inv sy⟩
 split at hb
 · cases hb
   refine AStep.pure h rfl rfl (fun E τ M σ' a w hop _ hI=>⟨.bool (u==v),?_,RdC.raw rfl,fun t ht=>ht.elim⟩)
   obtain ⟨ex,ey⟩:=eva E τ M σ' a w hop hI
   simp [execOp,ho,ex,ey,eqGuard,binOp,heq]
 · cases hb
   refine AStep.pure h rfl rfl (fun E τ M σ' a w hop _ hI=>⟨.bool (u != v),?_,RdC.raw rfl,fun t ht=>ht.elim⟩)
   obtain ⟨ex,ey⟩:=eva E τ M σ' a w hop hI
   simp [execOp,ho,ex,ey,eqGuard,binOp,heq,bne]
 · cases hb
def isX (σ:List AV):Op→Bool
 | .binOp op _ x y _=>match nilO y with
  | true=>true
  | false=>match eqOp op with
   | true=>bothB (opd σ x) (opd σ y)
   | false=>false
 | .buildSlice _ n _=>n==0
 | .call c=>match c.callee with
  | .builtin .append=>match c.args.toList with
   | [x,_]=>ownAtB σ x
   | _=>false
  | .builtin .max=>true
  | .builtin .min=>true
  | _=>false
 | _=>false
def maxV (b:Bool):AV→AV→Option AV
 | .one (.raw (.int k x)),.one (.raw (.int k' y))=>if k=k' then some (.one (.raw (.int k (match b with | true=>max x y | false=>min x y)))) else none
 | _,_=>none
theorem sound_max {σ:List AV} {o:Oper} {b:Bool} {x y:Operand} {ts:Array TypeId} (ho:o.op=.call { callee:=.builtin (match b with | true=>.max | false=>.min),args:=#[x,y],argTypes:=ts }) {av:AV} (hb:maxV b (opd σ x) (opd σ y)=some av)
 {r:List Nat×List (Nat×AV)} (h:val σ o (orr x++orr y) av=some r):AStep P o σ r.1 [] r.2:=by
 unfold maxV at hb
 split at hb
 · rename_i k u k' v hx hy
   split at hb
   · rename_i hkk
     subst hkk
     cases hb
     refine AStep.pure h rfl rfl (fun E τ M σ' a w hop hgt hI=>⟨_,?_,RdC.raw rfl,fun t ht=>ht.elim⟩)
     have sx:=hI.opd x
     rw [hop x (fun t ht=>List.mem_append.2 (.inl ht)),hx] at sx
     have sy:=hI.opd y
     rw [hop y (fun t ht=>List.mem_append.2 (.inr ht)),hy] at sy
     have ex:a.eval x=.int k u:=RdC.raw_inv sx
     have ey:a.eval y=.int k v:=RdC.raw_inv sy
     cases b with
     | true=>
      have:(if v > u then v else u)=max u v:=by split<;>omega
      simp [execOp,ho,resolve,invoke,builtin,Builtin.max_,Builtin.max2,ex,ey,this]
     | false=>
      have:(if v<u then v else u)=min u v:=by split<;>omega
      simp [execOp,ho,resolve,invoke,builtin,Builtin.min_,Builtin.min2,ex,ey,this]
   · cases hb
 · cases hb
def valX (σ:List AV) (o:Oper) (rd:List Nat) (a:Option AV):Option (List Nat×List (Nat×AV)):=match a with
 | some av=>val σ o rd av
 | none=>none
def opX (P:Program) (σ:List AV) (o:Oper):Option (List Nat×List (Nat×AV)):=
 match o.op with
 | .binOp op T x y _=>match nilO y with
  | true=>tiX P T fun ti=>valX σ o (orr x) (nilA σ ti op x)
  | false=>tiX P T fun ti=>valX σ o (orr x++orr y) (bbA ti op (opd σ x) (opd σ y))
 | .buildSlice T n ps=>if n=0 then tiX P T fun ti=>valX σ o [] (emptyA ti ps.toList) else none
 | .call c=>match c.callee with
  | .builtin .append=>match c.args.toList,c.argTypes.toList,o.dst with
   | [x,y],[T,U],some d=>if T=U then tiX P T fun ti=>appendOA σ ti d x y else none
   | _,_,_=>none
  | .builtin .max=>match c.args.toList with
   | [x,y]=>valX σ o (orr x++orr y) (maxV true (opd σ x) (opd σ y))
   | _=>none
  | .builtin .min=>match c.args.toList with
   | [x,y]=>valX σ o (orr x++orr y) (maxV false (opd σ x) (opd σ y))
   | _=>none
  | _=>none
 | _=>none
theorem valX_eq {σ:List AV} {o:Oper} {rd:List Nat} {a:Option AV} {r:List Nat×List (Nat×AV)} (h:valX σ o rd a=some r):∃ av,a=some av∧val σ o rd av=some r:=by
 unfold valX at h
 split at h
 · rename_i av;exact ⟨av,rfl,h⟩
 · cases h
theorem opX_ok {σ:List AV} {o:Oper} {r:List Nat×List (Nat×AV)} (h:opX P σ o=some r):AStep P o σ r.1 [] r.2:=by
 unfold opX at h
 split at h
 · rename_i op T x y U ho
   split at h
   · rename_i hnil
     obtain ⟨ti,hti,hk⟩:=tiX_eq h
     obtain ⟨av,hav,hr⟩:=valX_eq hk
     rw [nilO_spec hnil] at ho
     exact sound_nil ho hti hav hr
   · obtain ⟨ti,hti,hk⟩:=tiX_eq h
     obtain ⟨av,hav,hr⟩:=valX_eq hk
     exact sound_bb ho hti hav hr
 · rename_i T n ps ho
   split at h
   · rename_i hn
     obtain ⟨ti,hti,hk⟩:=tiX_eq h
     obtain ⟨av,hav,hr⟩:=valX_eq hk
     exact sound_empty (by rw [ho]) hn hti hav hr
   · cases h
 · rename_i c ho
   obtain ⟨callee,args,argTypes⟩:=c
   simp only at h
   split at h
   · split at h
     · rename_i x y T U d ha ht hd
       split at h
       · rename_i hTU
         subst hTU
         obtain ⟨ti,hti,hk⟩:=tiX_eq h
         have ea:args=#[x,y]:=by cases args;simp at ha;rw [ha]
         have et:argTypes=#[T,T]:=by cases argTypes;simp at ht;rw [ht]
         rw [ea,et] at ho
         exact sound_appendO ho hd hti hk
       · cases h
     · cases h
   · split at h
     · rename_i x y ha
       obtain ⟨av,hav,hr⟩:=valX_eq h
       have ea:args=#[x,y]:=by cases args;simp at ha;rw [ha]
       rw [ea] at ho
       exact sound_max (b:=true) ho hav hr
     · cases h
   · split at h
     · rename_i x y ha
       obtain ⟨av,hav,hr⟩:=valX_eq h
       have ea:args=#[x,y]:=by cases args;simp at ha;rw [ha]
       rw [ea] at ho
       exact sound_max (b:=false) ho hav hr
     · cases h
   · cases h
 · cases h
theorem grew_lit {E:Env} {M:Nat→Nat→Prop} {w:World} (hN:E.N≤w.heap.size) (hmb:∀ b o,M b o→b<w.heap.size) (v:Value) (e:TypeId) (es n:Nat) (all:List Value)
 (hall:all.length=n*es) (hcm:n≤maxLen) :
 Grew E M w (w.alloc (.cells all.toArray e)) (fun b o=>M b o∨(b=w.heap.size∧n*es≤o)) v (.slice (some ⟨w.heap.size,0,none⟩) n n) es n all:=by
 have hb:Below w.heap.size w (w.alloc (.cells all.toArray e)):=(Below.refl _ _).alloc (Nat.le_refl _) _
 have hheap:(w.alloc (.cells all.toArray e)).heap[w.heap.size]? = some (.cells all.toArray e (0,0)):=heap_new w _
 refine { keeps:=?_,size:=hb.size,os:=rfl,tape:=rfl,output:=rfl,block:=fun k hk _=>hb.block k hk,mem:=fun b o hm _=>.inl hm,mb:=?_,tok:=?_,blk':=?_,cells:=?_,len:=⟨_,_,rfl,Nat.le_refl _⟩ }
 · intro b o u hm hc
   have hl:=World.block_lt_of_cell? w _ hc
   exact ⟨fun hh=>hh.elim hm (fun hh=>by have:=hh.1;simp only at hl;omega),(Keeps.below hb b o u hm hc).2⟩
 · rintro b o (hm | ⟨rfl,_⟩)
   · exact Nat.lt_of_lt_of_le (hmb b o hm) hb.size
   · simp
 · refine .inr ⟨e,n,all,⟨hall,.inr ⟨w.heap.size,n,_,rfl,hN,hheap,Nat.le_refl _,hcm,?_,?_⟩⟩,fun g hg o ho=>?_⟩
   · simp [hall]
   · simp [←hall]
   · simp [Value.ownBlock] at hg
     exact .inr ⟨hg.symm,ho⟩
 · intro g hg
   cases n with
   | zero=>simp [tokB] at hg
   | succ n=>simp [tokB] at hg;exact .inr (by omega)
 · by_cases h0:all=[]
   · exact .inl h0
   · refine .inr ⟨w.heap.size,n,rfl,Nat.le_refl _,fun j u hj=>⟨?_,?_⟩⟩
     · have hjl:j<all.length:=(List.getElem?_eq_some_iff.1 hj).1
       rintro (hm | ⟨_,ho⟩)
       · have:=hmb _ _ hm;omega
       · omega
     · simp only [World.cell?,hheap]
       simpa using hj
end Go.Slot

namespace Go.Slot
open Go Go.RowKit
variable {P:Program}
inductive OR where
 | eff (rd tk:List Nat) (eff:List (Nat×AV))
 | call (f:FuncId) (args:List AV) (rd:List Nat)
 | fn (p:(Nat→Nat→Prop)→World→Value→Prop) (args:List AV) (rd:List Nat)
 | mk (f:FuncId) (caps:List AV) (rd:List Nat)
 | own (f:FuncId) (l:List AV) (j s:Nat) (ov:OV) (rd:List Nat)
 | bad
def OR.of:Option (List Nat×List (Nat×AV))→OR
 | some (rd,e)=>.eff rd [] e
 | none=>.bad
def plainFn:Value→Option FuncId
 | .func (.func f) fs cs=>match fs.toList,cs.toList with
  | [],[]=>some f
  | _,_=>none
 | _=>none
theorem plainFn_eq {v:Value} {f:FuncId} (h:plainFn v=some f):v=.func (.func f) #[] #[]:=by
 unfold plainFn at h
 split at h
 · rename_i f' fs cs
   split at h
   · rename_i h1 h2
     cases h
     have e1:fs=#[]:=by rw [←Array.toArray_toList (xs:=fs),h1]
     have e2:cs=#[]:=by rw [←Array.toArray_toList (xs:=cs),h2]
     rw [e1,e2]
   · cases h
 · cases h
def withTI (P:Program) (t:TypeId) (k:TI→OR):OR:=match mkTI P t with
 | some ti=>k ti
 | none=>.bad
def vofA (σ:List AV) (o:Oper) (rd:List Nat) (a:Option AV):OR:=match a with
 | some av=>.of (val σ o rd av)
 | none=>.bad
def vofB (σ:List AV) (o:Oper) (a:Option (List Nat×AV)):OR:=match a with
 | some (rd,av)=>.of (val σ o rd av)
 | none=>.bad
def sliceOk (ti:TI) (av:AV):Bool:=match ti.sh with
 | .slice _ es _ _=>match av with
  | .one c=>match c.bare with
   | .ints _ _=>es==1
   | .sl n _=>es==n
   | _=>true
  | _=>true
 | _=>true
def elemTI (P:Program) (ti:TI) (k:TI→OR):OR:=match ti.sh with
 | .slice e _ _ _=>withTI P e k
 | _=>.bad
def arrOk (ti:TI):Bool:=match ti.sh with
 | .array _ _ es=>es != 0
 | _=>true
def AV.isOwn:AV→Bool
 | .arr _ _ _ | .asl _ | .awn _ _ _ _=>true
 | _=>false
def opB (P:Program) (σ:List AV) (o:Oper):OR:=
 match o.op with
 | .move x=>.of (val σ o (orr x) (cpy x (opd σ x)))
 | .assign x=>.of (val σ o (orr x) (cpy x (opd σ x)))
 | .pick c x y=>vofA σ o (orr c++orr x++orr y) (pickA σ c x y)
 | .alloc T=>withTI P T fun ti=>.of (val σ o [] (.box ti.zc))
 | .box _ x=>match cellsOfAV (opd σ x) with
  | some cs=>.of (val σ o (orr x) (.box cs))
  | none=>.bad
 | .load T x=>withTI P T fun ti=>vofB σ o (loadA σ ti x)
 | .store T x y=>match o.dst with
  | none=>withTI P T fun ti=>match storeA σ ti x y with
   | some (rd,s,av)=>.eff rd [] [(s,av)]
   | none=>.bad
  | some _=>.bad
 | .fieldAddr S x f=>withTI P S fun ti=>vofA σ o (orr x) (fieldAddrA σ ti x f)
 | .extract x n=>vofA σ o (orr x) (extractA σ x n)
 | .indexAddr T x y=>withTI P T fun ti=>vofB σ o (indexAddrA σ ti x y)
 | .binOp op _ x y _=>vofA σ o (orr x++orr y) (binA σ op x y)
 | .unOp op _ x=>vofA σ o (orr x) (unA σ op x)
 | .convert S D x=>withTI P S fun ts=>withTI P D fun td=>vofA σ o (orr x) (convA σ ts td x)
 | .slice T x lo hi none=>withTI P T fun ti=>match (opd σ x).isOwn with
  | true=>vofB σ o (osliceA σ ti x lo hi)
  | false=>if sliceOk ti (opd σ x) then vofA σ o (orr x++orrO lo++orrO hi) (sliceA σ ti x lo hi none) else .bad
 | .slice T x lo hi mx=>withTI P T fun ti=>if sliceOk ti (opd σ x) then vofA σ o (orr x++orrO lo++orrO hi++orrO mx) (sliceA σ ti x lo hi mx) else .bad
 | .makeSlice T x y=>withTI P T fun ti=>elemTI P ti fun te=>vofA σ o (orr x++orr y) (makeA σ ti te x y)
 | .build T ps=>withTI P T fun ti=>if arrOk ti&&ti.sh.agg then vofA σ o (orrs ps.toList) (buildA σ ti ps.toList) else .bad
 | .buildSlice T n ps=>withTI P T fun ti=>elemTI P ti fun te=>vofA σ o (orrs ps.toList) (buildSliceA σ ti te n ps.toList)
 | .call c => match c.callee with
  | .builtin .len=>match c.args.toList,c.argTypes.toList with
   | [x],[T]=>withTI P T fun ti=>if lenFit σ ti x then vofB σ o (lenA σ x) else .bad
   | _,_=>.bad
  | .builtin .append=>match c.args.toList,c.argTypes.toList,o.dst with
   | [x,y],[T,U],some d=>if T=U then withTI P T fun ti=>match appendA σ ti d x y with
    | some (rd,tk,eff)=>.eff rd tk eff
    | none=>.bad
    else .bad
   | _,_,_=>.bad
  | .value (.func f)=>match argsA σ c.args.toList with
   | some l=>if nhDst σ o then .call f l (dstRd o++orrL c.args.toList) else .bad
   | none=>match argsXA σ c.args.toList with
    | some (l,j,s,ov)=>if nhDst σ o then .own f l j s ov (dstRd o++s::orrL c.args.toList) else .bad
    | none=>.bad
  | .value (.tmp t)=>match gt σ t,argsA σ c.args.toList with
   | .one (.raw v),some l=>match plainFn v with
    | some f=>if nhDst σ o then .call f l (dstRd o++t::orrL c.args.toList) else .bad
    | none=>.bad
   | .one (.fnp p),some l=>if nhDst σ o then .fn p l (dstRd o++t::orrL c.args.toList) else .bad
   | _,_=>.bad
  | _=>.bad
 | .makeFunc (.func f) fs cs=>match fs.toList,argsA σ cs.toList,o.dst with
  | [],some l,some d=>if nh σ d then .mk f l (d::orrL cs.toList) else .bad
  | _,_,_=>.bad
 | _=>.bad
theorem val_astep {σ:List AV} {o:Oper} {rd0:List Nat} {av:AV} (hs:∀ r,val σ o rd0 av=some r→AStep P o σ r.1 [] r.2) {rd tk:List Nat} {eff:List (Nat×AV)} (h:OR.of (val σ o rd0 av)=.eff rd tk eff):tk=[]∧AStep P o σ rd tk eff:=by
 cases hv:val σ o rd0 av with
 | none=>rw [hv] at h;cases h
 | some r=>rw [hv] at h;cases h;exact ⟨rfl,hs r hv⟩
theorem toList_of {α:Type} {a:Array α} {l:List α} (h:a.toList=l):a=l.toArray:=by rw [←h]
theorem append_tk {σ:List AV} {ti:TI} {d:Nat} {x y:Operand} {rd tk:List Nat} {eff:List (Nat×AV)} (h:appendA σ ti d x y=some (rd,tk,eff)):∀ t∈tk,∀ i,(gt σ i).hasTok t→i∈rd:=by
 unfold appendA at h
 split at h
 case h_2=>cases h
 split at h
 case h_2=>cases h
 split at h
 case h_2=>cases h
 split at h
 case h_2=>cases h
 split at h
 case isFalse=>cases h
 simp only [Option.some.injEq,Prod.mk.injEq] at h
 obtain ⟨rfl,rfl,rfl⟩:=h
 intro t ht i hi
 have hlt:i<σ.length:=by
  rcases Nat.lt_or_ge i σ.length with h | h
  · exact h
  · unfold gt at hi;rw [List.getElem?_eq_none h] at hi;exact hi.elim
 have key:∀ tk:List Nat,t∈tk→i∈(stripEff tk 0 σ).map (·.1):=fun tk ht=>by
  have hf:=stripEff_find tk σ 0 i hlt
  simp only [Nat.zero_add] at hf
  rw [if_neg (fun hall=>AV.noTok_spec ((List.all_eq_true.1 hall) t ht) hi)] at hf
  have:=List.mem_of_find?_eq_some hf
  exact List.mem_map.2 ⟨_,by simpa using this,rfl⟩
 simp only [List.mem_cons,List.mem_append]
 exact .inr (.inr (key _ ht))
theorem vofA_astep {σ:List AV} {o:Oper} {rd0:List Nat} {a:Option AV} (hs:∀ av,a=some av→∀ r,val σ o rd0 av=some r→AStep P o σ r.1 [] r.2) {rd tk:List Nat} {eff:List (Nat×AV)} (h:vofA σ o rd0 a=.eff rd tk eff):tk=[]∧AStep P o σ rd tk eff:=by
 unfold vofA at h
 split at h
 · exact val_astep (hs _ rfl) h
 · cases h
theorem vofB_astep {σ:List AV} {o:Oper} {a:Option (List Nat×AV)} (hs:∀ rd0 av,a=some (rd0,av)→∀ r,val σ o rd0 av=some r→AStep P o σ r.1 [] r.2) {rd tk:List Nat} {eff:List (Nat×AV)} (h:vofB σ o a=.eff rd tk eff):tk=[]∧AStep P o σ rd tk eff:=by
 unfold vofB at h
 split at h
 · exact val_astep (hs _ _ rfl) h
 · cases h
theorem withTI_eq {t:TypeId} {k:TI→OR} {r:OR} (hr:r≠.bad) (h:withTI P t k=r):∃ ti,mkTI P t=some ti∧k ti=r:=by
 unfold withTI at h
 split at h
 · rename_i ti hti;exact ⟨ti,hti,h⟩
 · exact absurd h.symm hr
theorem elemTI_eq {ti:TI} {k:TI→OR} {r:OR} (hr:r≠.bad) (h:elemTI P ti k=r):∃ e es eb ik te,ti.sh=.slice e es eb ik∧mkTI P e=some te∧k te=r:=by
 unfold elemTI at h
 split at h
 · rename_i e es eb ik hs
   obtain ⟨te,h1,h2⟩:=withTI_eq hr h
   exact ⟨e,es,eb,ik,te,hs,h1,h2⟩
 · exact absurd h.symm hr
theorem opB_eff {σ:List AV} {o:Oper} {rd tk:List Nat} {eff:List (Nat×AV)} (h:opB P σ o=.eff rd tk eff):AStep P o σ rd tk eff∧(∀ t∈tk,∀ i,(gt σ i).hasTok t→i∈rd):=by
 have nt:(tk=[]∧AStep P o σ rd tk eff)→AStep P o σ rd tk eff∧(∀ t∈tk,∀ i,(gt σ i).hasTok t→i∈rd):=fun ⟨h1,h2⟩=>⟨h2,by rw [h1];intro t ht;cases ht⟩
 have nb:OR.eff rd tk eff≠.bad:=by simp
 unfold opB at h
 split at h
 · rename_i x ho;exact nt (val_astep (fun r hr=>sound_move (.inl ho) hr) h)
 · rename_i x ho;exact nt (val_astep (fun r hr=>sound_move (.inr ho) hr) h)
 · rename_i c x y ho;exact nt (vofA_astep (fun av ha r hr=>sound_pick ho ha hr) h)
 · rename_i T ho
   obtain ⟨ti,hti,hk⟩:=withTI_eq nb h
   exact nt (val_astep (fun r hr=>sound_alloc ho hti hr) hk)
 · rename_i T x ho
   split at h
   · rename_i cs hcs;exact nt (val_astep (fun r hr=>sound_box ho hcs hr) h)
   · cases h
 · rename_i T x ho
   obtain ⟨ti,hti,hk⟩:=withTI_eq nb h
   exact nt (vofB_astep (fun rd0 av ha r hr=>sound_load ho hti ha hr) hk)
 · rename_i T x y ho
   split at h
   · rename_i hd
     obtain ⟨ti,hti,hk⟩:=withTI_eq nb h
     split at hk
     · rename_i rd' s av hst
       cases hk
       exact nt ⟨rfl,sound_store ho hd hti hst⟩
     · cases hk
   · cases h
 · rename_i S x f ho
   obtain ⟨ti,hti,hk⟩:=withTI_eq nb h
   exact nt (vofA_astep (fun av ha r hr=>sound_fieldAddr ho hti ha hr) hk)
 · rename_i x n ho;exact nt (vofA_astep (fun av ha r hr=>sound_extract ho ha hr) h)
 · rename_i T x y ho
   obtain ⟨ti,hti,hk⟩:=withTI_eq nb h
   exact nt (vofB_astep (fun rd0 av ha r hr=>sound_indexAddr ho hti ha hr) hk)
 · rename_i op T x y U ho;exact nt (vofA_astep (fun av ha r hr=>sound_bin ho ha hr) h)
 · rename_i op T x ho;exact nt (vofA_astep (fun av ha r hr=>sound_un ho ha hr) h)
 · rename_i S D x ho
   obtain ⟨ts,hts,hk⟩:=withTI_eq nb h
   obtain ⟨td,htd,hk⟩:=withTI_eq nb hk
   exact nt (vofA_astep (fun av ha r hr=>sound_conv ho hts htd ha hr) hk)
 · rename_i T x lo hi ho
   obtain ⟨ti,hti,hk⟩:=withTI_eq nb h
   split at hk
   · exact nt (vofB_astep (fun rd0 av ha r hr=>sound_oslice ho hti ha hr) hk)
   · split at hk
     · rename_i hok
       refine nt (vofA_astep (fun av ha r hr=>sound_slice ho hti (fun e es eb ik hsh c hc=>?_) ha (by simpa [orrO] using hr)) hk)
       unfold sliceOk at hok
       simp only [hsh,hc] at hok
       refine ⟨fun k L e=>?_,fun n rows e=>?_⟩
       · rw [e] at hok;simpa using hok
       · rw [e] at hok;simpa using hok
     · cases hk
 · rename_i T x lo hi mx _ ho
   obtain ⟨ti,hti,hk⟩:=withTI_eq nb h
   split at hk
   · rename_i hok
     refine nt (vofA_astep (fun av ha r hr=>sound_slice ho hti (fun e es eb ik hsh c hc=>?_) ha hr) hk)
     unfold sliceOk at hok
     simp only [hsh,hc] at hok
     refine ⟨fun k L e=>?_,fun n rows e=>?_⟩
     · rw [e] at hok;simpa using hok
     · rw [e] at hok;simpa using hok
   · cases hk
 · rename_i T x y ho
   obtain ⟨ti,hti,hk⟩:=withTI_eq nb h
   obtain ⟨e,es,eb,ik,te,hs,hte,hk⟩:=elemTI_eq nb hk
   exact nt (vofA_astep (fun av ha r hr=>sound_make ho hti (fun e' es' eb' ik' hs'=>by rw [hs] at hs';cases hs';exact hte) ha hr) hk)
 · rename_i T ps ho
   obtain ⟨ti,hti,hk⟩:=withTI_eq nb h
   split at hk
   · rename_i hok
     simp only [Bool.and_eq_true] at hok
     refine nt (vofA_astep (fun av ha r hr=>sound_build (by rw [ho]) hti (fun n e es hs=>?_) ha hok.2 hr) hk)
     have:=hok.1
     unfold arrOk at this
     rw [hs] at this
     simpa using this
   · cases hk
 · rename_i T n ps ho
   obtain ⟨ti,hti,hk⟩:=withTI_eq nb h
   obtain ⟨e,es,eb,ik,te,hs,hte,hk⟩:=elemTI_eq nb hk
   exact nt (vofA_astep (fun av ha r hr=>sound_buildSlice (by rw [ho]) hti (fun e' es' eb' ik' hs'=>by rw [hs] at hs';cases hs';exact hte) ha hr) hk)
 · rename_i c ho
   obtain ⟨callee,args,argTypes⟩:=c
   simp only at h
   split at h
   · split at h
     · rename_i x T ha ht
       obtain ⟨ti,hti,hk⟩:=withTI_eq nb h
       split at hk
       · rename_i hfit
         rw [toList_of ha,toList_of ht] at ho
         exact nt (vofB_astep (fun rd0 av hb r hr=>sound_len ho hti hfit hb hr) hk)
       · cases hk
     · cases h
   · split at h
     · rename_i x y T U d ha ht hd
       split at h
       · rename_i hTU
         subst hTU
         obtain ⟨ti,hti,hk⟩:=withTI_eq nb h
         split at hk
         · rename_i rd' tk' eff' hA
           cases hk
           rw [toList_of ha,toList_of ht] at ho
           exact ⟨sound_append ho hd hti hA,append_tk hA⟩
         · cases hk
       · cases h
     · cases h
   · split at h
     · split at h<;>cases h
     · split at h
       · split at h<;>cases h
       · cases h
   · split at h
     · split at h
       · split at h<;>cases h
       · cases h
     · split at h<;>cases h
     · cases h
   · cases h
 · split at h
   · split at h<;>cases h
   · cases h
 · cases h
theorem opB_call {σ:List AV} {o:Oper} {f:FuncId} {args:List AV} {rd:List Nat} (h:opB P σ o=.call f args rd) {res:AV} (hc:CallsTo P f args res):AStep P o σ rd [] (callEff o res):=by
 have nb:OR.call f args rd≠.bad:=by simp
 have no_of:∀ x,OR.of x≠.call f args rd:=fun x=>by unfold OR.of;split<;>simp
 have no_A:∀ rd0 a,vofA σ o rd0 a≠.call f args rd:=fun rd0 a=>by unfold vofA;split<;>first | exact no_of _ | simp
 have no_B:∀ a,vofB σ o a≠.call f args rd:=fun a=>by unfold vofB;split<;>first | exact no_of _ | simp
 unfold opB at h
 split at h
 case h_19=>
  rename_i c ho
  obtain ⟨callee,as,ts⟩:=c
  simp only at h
  split at h
  · split at h
    · obtain ⟨ti,hti,hk⟩:=withTI_eq nb h
      split at hk
      · exact absurd hk (no_B _)
      · cases hk
    · cases h
  · split at h
    · split at h
      · obtain ⟨ti,hti,hk⟩:=withTI_eq nb h
        split at hk<;>cases hk
      · cases h
    · cases h
  · split at h
    · rename_i l hl
      split at h
      · rename_i hn
        cases h
        exact sound_call (ts:=ts) (by rw [ho]) hl hn hc
      · cases h
    · split at h
      · split at h<;>cases h
      · cases h
  · split at h
    · rename_i v l ht hl
      split at h
      · rename_i f' hf
        split at h
        · rename_i hn
          cases h
          exact sound_callv (ts:=ts) (by rw [ho]) (by rw [ht,plainFn_eq hf]) hl hn hc
        · cases h
      · cases h
    · split at h<;>cases h
    · cases h
  · cases h
 all_goals first
  | exact absurd h (no_of _)
  | exact absurd h (no_A _ _)
  | exact absurd h (no_B _)
  | (obtain ⟨ti, hti, hk⟩ := withTI_eq nb h
     first
      | exact absurd hk (no_of _)
      | exact absurd hk (no_A _ _)
      | exact absurd hk (no_B _)
      | (obtain ⟨td,htd,hk⟩:=withTI_eq nb hk;exact absurd hk (no_A _ _))
      | (split at hk<;>first | exact absurd hk (no_A _ _) | cases hk)
      | (split at hk
         · exact absurd hk (no_B _)
         · split at hk
           · exact absurd hk (no_A _ _)
           · cases hk)
      | (obtain ⟨e,es,eb,ik,te,hs,hte,hk⟩:=elemTI_eq nb hk;exact absurd hk (no_A _ _)))
  | (split at h
     · first
       | exact absurd h (no_of _)
       | (obtain ⟨ti,hti,hk⟩:=withTI_eq nb h;split at hk<;>cases hk)
       | (split at h<;>cases h)
     · cases h)
  | cases h
end Go.Slot
