/- The proof, part Z2: Mj, Mk, Ml. -/
import Derived.Test.YtjhbbadljohadaaGreatDoorZ1
namespace Go.Slot
open Go Go.RowKit
variable {P:Program}
section
variable {E:Env} {τ:Nat→TV} {M:Nat→Nat→Prop} {σ:List AV} {a:Act}
theorem RelI.grow {w w':World} {M':Nat→Nat→Prop} (h:RelI E τ M σ a w) {d:Nat} {old:AV} (hd:σ[d]? = some old) (hnh:old.holder=false) (hnl:¬live σ d)
 (hk:Keeps M M' w w') (hm0:∀ b o,E.M b o→M' b o) (hmb:∀ b o,M' b o→b<w'.heap.size) (hsize:w.heap.size≤w'.heap.size) (hos:w'.os=w.os) (htape:w'.tape=w.tape) (hout:w'.output=w.output)
 (hfr:∀ k,k<E.N→w'.heap[k]? = w.heap[k]?)
 (hhold:∀ i av,σ[i]? = some av→av.holder=true→w'.heap[blk (a.tmps.getD i Go.undef)]? = w.heap[blk (a.tmps.getD i Go.undef)]?∧∀ o,M' (blk (a.tmps.getD i Go.undef)) o)
 (htoks:∀ t,live σ t→TokOk E M' w' (τ t)) (v:Value) (c:Cell) (hv:TokOk E M' w' ⟨v,c.esz⟩) (hvh:∀ i av,σ[i]? = some av→av.holder=true→tokB v≠some (blk (a.tmps.getD i Go.undef)))
 (hvt:∀ t g,live σ t→tokB (τ t).v=some g→tokB v≠some g) (hr:RdC M' w' v c) :
 RelI E (fun t=>if t=d then ⟨v,c.esz⟩ else τ t) M' (σ.set d (.one (.tok d c))) (a.put (some d) v) w':=by
 have hlt:d<a.tmps.size:=h.lt hd
 have hns:∀(s:Nat) (b:Bool) (hv:AV),σ[s]? = some hv→hv.fits b=true→d≠s:=fun s b hv hs hf e=>by
  subst e;rw [hd] at hs;cases hs;have:=AV.fits_holder hf;rw [hnh] at this;cases this
 have hself:(a.tmps.setIfInBounds d v).getD d Go.undef=v:=by simp [hlt]
 have hne:∀ t,live σ t→(if t=d then (⟨v,c.esz⟩:TV) else τ t)=τ t:=fun t ht=>if_neg (fun e=>hnl (by rw [←e];exact ht))
 have hlive:∀ t,live (σ.set d (.one (.tok d c))) t→t=d∨(t≠d∧live σ t):=fun t ⟨i,x,hi,hx⟩=>by
  rcases getElem?_set_cases hi with ⟨_,rfl⟩ | ⟨_,hi⟩
  · rcases hx with hx | hx
    · exact .inl hx.symm
    · have:∀ c:Cell,RdC M' w' v c→¬c.hasTok t:=fun c hc ht=>by
       cases c with
       | tok _ _=>exact hc.notTok
       | _=>exact ht
      exact absurd hx (this c hr)
  · by_cases e:t=d
    · exact .inl e
    · exact .inr ⟨e,i,x,hi,hx⟩
 refine RelI.mk h.hd (by simpa [Act.put] using h.hs) ?_ hm0 hmb ?_ ?_ ?_ ?_ ?_ ?_ (Nat.le_trans h.size hsize) (hos.trans h.os) (htape.trans h.tape) (hout.trans h.output) (fun k hk' hx=>(hfr k hk').trans (h.frame k hk' hx))
 · intro i x hi
   show SlotOk M' w' _ (a.tmps.setIfInBounds d v) ((a.tmps.setIfInBounds d v).getD i Go.undef) x
   rcases getElem?_set_cases hi with ⟨rfl,rfl⟩ | ⟨hne',hi⟩
   · rw [hself]
     exact ⟨⟨by simp,by simp⟩,hr⟩
   · rw [getD_set_ne (Ne.symm hne')]
     exact (h.slot i x hi).keep hk (fun t ht=>hne t ⟨i,x,hi,ht⟩) (fun s b hr=>by obtain ⟨hv,h1,h2⟩:=h.refs i x s b hi hr;exact getD_set_ne (hns s b hv h1 h2) v) (fun hh=>(hhold i x hi hh).1)
 · intro i x hi hh
   show (∀ o',M' (blk ((a.tmps.setIfInBounds d v).getD i Go.undef)) o')∧(_≤blk ((a.tmps.setIfInBounds d v).getD i Go.undef)∨E.X (blk ((a.tmps.setIfInBounds d v).getD i Go.undef)))∧(_→_≤blk ((a.tmps.setIfInBounds d v).getD i Go.undef))∧(_→(a.tmps.setIfInBounds d v).getD i Go.undef=_)
   rcases getElem?_set_cases hi with ⟨rfl,rfl⟩ | ⟨hne',hi⟩
   · cases hh
   · rw [getD_set_ne (Ne.symm hne')];exact ⟨(hhold i x hi hh).2,(h.hold i x hi hh).2⟩
 · intro i j x y hi hj hx hy
   show blk ((a.tmps.setIfInBounds d v).getD i Go.undef)=blk ((a.tmps.setIfInBounds d v).getD j Go.undef)→_
   rcases getElem?_set_cases hi with ⟨rfl,rfl⟩ | ⟨hne1,hi'⟩
   · cases hx
   · rcases getElem?_set_cases hj with ⟨rfl,rfl⟩ | ⟨hne2,hj'⟩
     · cases hy
     · rw [getD_set_ne (Ne.symm hne1),getD_set_ne (Ne.symm hne2)];exact h.inj i j x y hi' hj' hx hy
 · intro i x s b hi hr'
   have:∃ hv:AV,σ[s]? = some hv∧hv.fits b=true:=by
    rcases getElem?_set_cases hi with ⟨rfl,rfl⟩ | ⟨hne',hi⟩
    · cases hr'
    · exact h.refs i x s b hi hr'
   obtain ⟨hv,h1,h2⟩:=this
   exact ⟨hv,by rw [List.getElem?_set_ne (hns s b hv h1 h2)];exact h1,h2⟩
 · intro t ht
   rcases hlive t ht with rfl | ⟨hne',hl⟩
   · simpa using hv
   · rw [hne t hl];exact htoks t hl
 · intro t t' g ht ht' htt hg
   rcases hlive t ht with rfl | ⟨hne1,hl⟩
   · rcases hlive t' ht' with rfl | ⟨hne2,hl'⟩
     · exact absurd rfl htt
     · rw [hne t' hl']
       simp only [if_true] at hg
       exact fun hg'=>hvt t' g hl' hg' hg
   · rw [hne t hl] at hg
     rcases hlive t' ht' with rfl | ⟨hne2,hl'⟩
     · simp only [if_true]
       exact hvt t g hl hg
     · rw [hne t' hl']
       exact h.tinj t t' g hl hl' htt hg
 · intro t i x ht hi hx
   show _≠some (blk ((a.tmps.setIfInBounds d v).getD i Go.undef))
   rcases getElem?_set_cases hi with ⟨rfl,rfl⟩ | ⟨hne',hi'⟩
   · cases hx
   · rw [getD_set_ne (Ne.symm hne')]
     rcases hlive t ht with rfl | ⟨hne1,hl⟩
     · simp only [if_true];exact hvh i x hi' hx
     · rw [hne t hl];exact h.tbox t i x hl hi' hx
end
structure Grew (E:Env) (M:Nat→Nat→Prop) (w w':World) (M':Nat→Nat→Prop) (v v':Value) (es n:Nat) (all:List Value):Prop where
 keeps:Keeps M M' w w'
 size:w.heap.size≤w'.heap.size
 os:w'.os=w.os
 tape:w'.tape=w.tape
 output:w'.output=w.output
 block:∀ k,k<w.heap.size→tokB v≠some k→w'.heap[k]? = w.heap[k]?
 mem:∀ b o,M b o→tokB v≠some b→M' b o
 mb:∀ b o,M' b o→b<w'.heap.size
 tok:TokOk E M' w' ⟨v',es⟩
 blk':∀ g,tokB v'=some g→tokB v=some g∨w.heap.size≤g
 cells:all=[]∨∃ g cap,v'=.slice (some ⟨g,0,none⟩) n cap∧n≤cap∧∀ j u,all[j]? = some u→¬M' g j∧w'.cell? ⟨g,j,none⟩=some u
 len:∃ ad cap,v'=.slice ad n cap∧n≤cap
theorem grew_new {E:Env} {M:Nat→Nat→Prop} {w:World} (hN:E.N≤w.heap.size) (hmb:∀ b o,M b o→b<w.heap.size) (v:Value) (e:TypeId) (es n cap:Nat) (all:List Value) (rest:Array Value)
 (_hes:0<es) (hall:all.length=n*es) (hcap:n≤cap) (hcm:cap≤maxLen) (hrest:rest.size=(cap-n)*es) :
 Grew E M w (w.drew.alloc (.cells (all.toArray++rest) e)) (fun b o=>M b o∨(b=w.heap.size∧n*es≤o)) v (.slice (some ⟨w.heap.size,0,none⟩) n cap) es n all:=by
 have hb:Below w.heap.size w (w.drew.alloc (.cells (all.toArray++rest) e)):=((Below.refl _ _).drew).alloc (Nat.le_refl _) _
 have hheap:(w.drew.alloc (.cells (all.toArray++rest) e)).heap[w.heap.size]? = some (.cells (all.toArray++rest) e (0,0)):=heap_new w.drew _
 refine { keeps:=?_,size:=hb.size,os:=rfl,tape:=rfl,output:=rfl,block:=fun k hk _=>hb.block k hk,mem:=fun b o hm _=>.inl hm,mb:=?_,tok:=?_,blk':=?_,cells:=?_,len:=⟨_,_,rfl,hcap⟩ }
 · intro b o u hm hc
   have hl:=World.block_lt_of_cell? w _ hc
   exact ⟨fun hh=>hh.elim hm (fun hh=>by have:=hh.1;simp only at hl;omega),(Keeps.below hb b o u hm hc).2⟩
 · rintro b o (hm | ⟨rfl,_⟩)
   · exact Nat.lt_of_lt_of_le (hmb b o hm) hb.size
   · simp
 · refine .inr ⟨e,n,all,⟨hall,.inr ⟨w.heap.size,cap,_,rfl,hN,hheap,hcap,hcm,?_,?_⟩⟩,fun g hg o ho=>?_⟩
   · simp only [Array.size_append,List.size_toArray,hall,hrest,←Nat.add_mul]
     congr 1;omega
   · simp [←hall]
   · simp [Value.ownBlock] at hg
     exact .inr ⟨hg.symm,ho⟩
 · intro g hg
   cases cap with
   | zero=>simp [tokB] at hg
   | succ cap=>simp [tokB] at hg;exact .inr (by omega)
 · by_cases h0:all=[]
   · exact .inl h0
   · refine .inr ⟨w.heap.size,cap,rfl,hcap,fun j u hj=>⟨?_,?_⟩⟩
     · have hjl:j<all.length:=(List.getElem?_eq_some_iff.1 hj).1
       rintro (hm | ⟨_,ho⟩)
       · have:=hmb _ _ hm;omega
       · omega
     · simp only [World.cell?,hheap]
       have hjl:j<all.length:=(List.getElem?_eq_some_iff.1 hj).1
       simp [Array.getElem?_append,hjl]
       simpa [hjl] using hj
theorem run_append_in {T e:TypeId} {i:TypeInfo} (ht:P.underlying T=some (.slice e)) (hi:P.info? e=some i) (w:World) (ty:TypeId)
 (g Tb n cap:Nat) (cur:Array Value) (hg:w.heap[g]? = some (.cells cur Tb (0,0))) (m:Nat) (y:Value) (news:List Value) (hyv:∃ ad c,y=.slice ad m c) (_hl:news.length=m*i.size)
 (hf:(Builtin.firstCells i.size m y).run P w=.ok news.toArray w) (h1:∀ u∈news,u.oneCell'=true)
 (hroom:n+m≤cap) (hfit:n*i.size+news.length≤cur.size) :
 (Builtin.append_ #[T,T] ty #[.slice (some ⟨g,0,none⟩) n cap,y]).run P w =
   .ok (.slice (some ⟨g,0,none⟩) (n+m) cap) (w.setRow g (cur.toList.take (n*i.size)++news++cur.toList.drop (n*i.size+news.length)).toArray):=by
 obtain ⟨ad,c,rfl⟩:=hyv
 have hst:=run_storeCells_at P g (n*i.size) Tb news 0 cur w hg (by simpa using hfit) h1
 simp only [Nat.add_zero] at hst
 simp [Builtin.append_,run_underlying ht,sizeOf,typeInfo,hi,Builtin.lenOf,hroom,hf,Addr.add_lit,hst]
theorem run_firstCells_any {i:TypeInfo} (w:World) (m:Nat) (y:Value) (news:List Value) (hy:∃ ad cap,y=.slice ad m cap) (hnl:news.length=m*i.size)
 (hnews:news=[]∨∃ b off cap,y=.slice (some ⟨b,off,none⟩) m cap∧∀ j u,news[j]? = some u→w.cell? ⟨b,off+j,none⟩=some u) :
 (Builtin.firstCells i.size m y).run P w=.ok news.toArray w:=by
 rcases hnews with rfl | ⟨b,off,cap,rfl,hc⟩
 · obtain ⟨ad,cap,rfl⟩:=hy
   cases ad with
   | none=>simp [Builtin.firstCells]
   | some b=>
    simp only [List.length_nil] at hnl
    simp [Builtin.firstCells,←hnl,loadCells,loadCellsFrom]
 · exact run_firstCells_some w i.size m _ m cap news hnl (fun j v hj=>by rw [addr_add];exact hc j v hj)
theorem grew_in {E:Env} {M:Nat→Nat→Prop} {w:World} (hmb:∀ b o,M b o→b<w.heap.size) {g Tb n m cap es:Nat} {cur:Array Value} {xs news:List Value} (hbg:E.N≤g)
 (hg:w.heap[g]? = some (.cells cur Tb (0,0))) (hMg:∀ o,n*es≤o→M g o) (hxs:xs.length=n*es) (hxs':∀(j:Nat) (u:Value),xs[j]? = some u→cur[j]? = some u) (hnl:news.length=m*es) (hcs:cur.size=cap*es)
 (hroom:n+m≤cap) (hcap0:cap≠0) (hcm:cap≤maxLen) :
 Grew E M w (w.setRow g (cur.toList.take (n*es)++news++cur.toList.drop (n*es+news.length)).toArray) (fun b o=>M b o∧¬(b=g∧o<(n+m)*es)) (.slice (some ⟨g,0,none⟩) n cap)
  (.slice (some ⟨g,0,none⟩) (n+m) cap) es (n+m) (xs++news):=by
 have hall:(xs++news).length=(n+m)*es:=by rw [List.length_append,hxs,hnl,Nat.add_mul]
 have hfit:n*es+news.length≤cur.size:=by rw [hnl,hcs,←Nat.add_mul];exact Nat.mul_le_mul_right _ hroom
 obtain ⟨cap,rfl⟩:∃ c,cap=c+1:=⟨cap-1,by omega⟩
 generalize hnew:(cur.toList.take (n*es)++news++cur.toList.drop (n*es+news.length)).toArray=new
 have hheap:(w.setRow g new).heap[g]? = some (.cells new Tb (0,0)):=setRow_heap w g cur new Tb (0,0) hg
 have hget1:∀ j,j<n*es→new[j]? = cur[j]?:=fun j hj=>by
  rw [←hnew]
  simp only [List.getElem?_toArray,List.append_assoc]
  rw [List.getElem?_append_left (by simp;omega),List.getElem?_take,if_pos hj]
  simp
 have hsize:new.size=(cap+1)*es:=by
  rw [←hnew]
  simp only [List.size_toArray,List.length_append,List.length_take,List.length_drop,Array.length_toList]
  omega
 have hget2:∀ j,j<news.length→new[n*es+j]? = news[j]?:=fun j hj=>by
  rw [←hnew]
  simp only [List.getElem?_toArray,List.append_assoc]
  rw [List.getElem?_append_right (by simp;omega)]
  have e1:n*es+j-(List.take (n*es) cur.toList).length=j:=by
   simp only [List.length_take,Array.length_toList]
   omega
  rw [e1,List.getElem?_append_left hj]
 have hcells:∀(j:Nat) (u:Value),(xs++news)[j]? = some u→new[j]? = some u:=fun j u hj=>by
  by_cases hjx:j<xs.length
  · rw [hget1 j (by omega)]
    rw [List.getElem?_append_left hjx] at hj
    exact hxs' j u hj
  · have hjl:=(List.getElem?_eq_some_iff.1 hj).1
    rw [List.getElem?_append_right (by omega)] at hj
    have:=hget2 (j-xs.length) (by simp at hjl;omega)
    rw [hj] at this
    rwa [show n*es+(j-xs.length)=j by omega] at this
 refine { keeps := ?_, size := by simp, os := rfl, tape := rfl, output := rfl, block := fun k _ hk => setRow_other w g k _ (fun e' => hk (by simp [tokB, e'])), mem := fun b o hm hb => ⟨hm, fun h => hb (by rw [h.1]; rfl)⟩, mb := fun b o h => by simpa using hmb b o h.1,
          tok:=?_,blk':=fun g' hg'=>.inl (by simpa [tokB] using hg'),cells:=.inr ⟨g,cap+1,rfl,hroom,fun j u hj=>?_⟩,len:=⟨_,_,rfl,hroom⟩ }
 · intro b o u hm hc
   refine ⟨fun h=>hm h.1,?_⟩
   by_cases hbg':b=g
   · subst hbg'
     have ho:o<n*es:=Nat.lt_of_not_le (fun h=>hm (hMg o h))
     simp only [World.cell?,hheap]
     simp only [World.cell?,hg] at hc
     rw [hget1 o ho];exact hc
   · rw [cell_setRow_other _ _ _ _ hbg'];exact hc
 · refine .inr ⟨Tb,n+m,xs++news,⟨hall,.inr ⟨g,cap+1,new,rfl,hbg,hheap,hroom,hcm,hsize,?_⟩⟩,fun g' hg' o ho=>?_⟩
   · apply List.ext_getElem?
     intro j
     rw [List.getElem?_take]
     by_cases hj:j<(n+m)*es
     · rw [if_pos hj]
       have hjx:j<(xs++news).length:=by omega
       rw [Array.getElem?_toList,hcells j _ (List.getElem?_eq_getElem hjx),List.getElem?_eq_getElem hjx]
     · rw [if_neg hj,List.getElem?_eq_none (by omega)]
   · simp [Value.ownBlock] at hg'
     subst hg'
     have ho2:(n+m)*es≤o:=ho
     refine ⟨hMg o ?_,fun h=>by omega⟩
     have ho:(n+m)*es≤o:=ho
     rw [Nat.add_mul] at ho
     omega
 · have hjl:j<(xs++news).length:=(List.getElem?_eq_some_iff.1 hj).1
   rw [hall] at hjl
   refine ⟨fun h=>h.2 ⟨rfl,hjl⟩,?_⟩
   simp only [World.cell?,hheap]
   exact hcells j u hj
theorem run_append_tok {T e:TypeId} {es eb:Nat} {i:TypeInfo} {z:Value} (ht:P.underlying T=some (.slice e)) (hi:P.info? e=some i) (hz:i.zero=some z) (hsz:i.size=es) (hby:i.bytes=eb) (hzs:z.cells.size=es) (hes:0<es)
 {E:Env} {M:Nat→Nat→Prop} {w:World} (hN:E.N≤w.heap.size) (hmb:∀ b o,M b o→b<w.heap.size) (ty:TypeId) {v:Value} (hv:TokOk E M w ⟨v,es⟩) {n:Nat} {xs:List Value} (hlen:∃ ad cap,v=.slice ad n cap)
 (hxs:xs.length=n*es) (hx:xs=[]∨∃ g cap,v=.slice (some ⟨g,0,none⟩) n cap∧∀ j u,xs[j]? = some u→¬M g j∧w.cell? ⟨g,j,none⟩=some u)
 {y:Value} {m:Nat} {news:List Value} (hy:∃ ad cap,y=.slice ad m cap) (hnl:news.length=m*es) (hn1:∀ u∈news,u.oneCell'=true)
 (hnews:news=[]∨∃ b off cap,y=.slice (some ⟨b,off,none⟩) m cap∧∀ j u,news[j]? = some u→¬M b (off+j)∧w.cell? ⟨b,off+j,none⟩=some u)
 (hbound:(n+m)*eb≤140737488355328) (h63:n+m≤9223372036854775807) :
 ∃ v' w' M',(Builtin.append_ #[T,T] ty #[v,y]).run P w=.ok v' w'∧Grew E M w w' M' v v' es (n+m) (xs++news):=by
 subst hsz
 subst hby
 have hall:(xs++news).length=(n+m)*i.size:=by rw [List.length_append,hxs,hnl,Nat.add_mul]
 have hf:(Builtin.firstCells i.size m y).run P w=.ok news.toArray w:=run_firstCells_any w m y news hy hnl (hnews.imp id fun ⟨b,off,cap,e,h⟩=>⟨b,off,cap,e,fun j u hj=>(h j u hj).2⟩)
 have hfd:(Builtin.firstCells i.size m y).run P w.drew=.ok news.toArray w.drew:=run_firstCells_any w.drew m y news hy hnl (hnews.imp id fun ⟨b,off,cap,e,h⟩=>⟨b,off,cap,e,fun j u hj=>(h j u hj).2⟩)
 obtain ⟨ad0,cap0,hv0⟩:=hlen
 have hfo:(Builtin.firstCells i.size n v).run P w.drew=.ok xs.toArray w.drew:=run_firstCells_any w.drew n v xs ⟨_,_,hv0⟩ hxs (hx.imp id fun ⟨g,cap,e,h⟩=>⟨g,0,cap,e,fun j u hj=>by rw [Nat.zero_add];exact (h j u hj).2⟩)
 obtain ⟨yad,ycap,rfl⟩:=hy
 have growth:∀ old,v=.slice ad0 n old→old<n+m→
  ∃ v' w' M',(Builtin.append_ #[T,T] ty #[v,.slice yad m ycap]).run P w=.ok v' w'∧Grew E M w w' M' v v' i.size (n+m) (xs++news):=fun old hvo ho=>by
  have hge:=grownCap_ge w (n+m) old e
  have hcm:grownCap w (n+m) old e≤maxLen:=grownCap_le_maxLen w (n+m) old e (by unfold maxLen;omega)
  refine ⟨.slice (some ⟨w.heap.size,0,none⟩) (n+m) (grownCap w (n+m) old e),_,_,?_,grew_new hN hmb v e i.size (n+m) (grownCap w (n+m) old e) (xs++news) (Builtin.zeroCells z.cells (grownCap w (n+m) old e-(n+m))) hes hall hge hcm (by rw [size_zeroCells,hzs])⟩
  have hn:¬(n+m≤old):=by omega
  have h63':¬(9223372036854775807<((n:Int)+(m:Int))):=by omega
  have hfit:=growslice_fits (need:=n+m) (old:=old) (bytes:=i.bytes) ho hbound
  have h48':¬(281474976710656<Builtin.nextslicecap (n+m) old*i.bytes):=by omega
  rw [hvo] at hfo ⊢
  simp [Builtin.append_,run_underlying ht,sizeOf,typeInfo,zeroValue,hi,hz,Builtin.lenOf,hn,h63',h48',Question.forced,hfd,hfo,newRow,grownCap]
  congr 2
  apply Array.ext'
  simp [List.append_assoc]
 by_cases hzero:∃ ad,v=.slice ad 0 0
 ·
  obtain ⟨ad,hva⟩:=hzero
  have hn00:n=0:=by rw [hva] at hv0;cases hv0;rfl
  subst hn00
  by_cases hm:m=0
  · subst hm
    have hx0:xs=[]:=List.eq_nil_of_length_eq_zero (by simpa using hxs)
    have hn0:news=[]:=List.eq_nil_of_length_eq_zero (by simpa using hnl)
    subst hx0;subst hn0
    refine ⟨.slice ad 0 0,w,M,?_,?_⟩
    · rw [hva]
      cases ad with
      | none=>simp [Builtin.append_,run_underlying ht,sizeOf,typeInfo,hi,Builtin.lenOf,hf]
      | some b=>simp [Builtin.append_,run_underlying ht,sizeOf,typeInfo,hi,Builtin.lenOf,hf,storeCells]
    · exact { keeps := fun _ _ _ h1 h2 => ⟨h1, h2⟩, size := Nat.le_refl _, os := rfl, tape := rfl, output := rfl, block := fun _ _ _ => rfl, mem := fun _ _ h _ => h, mb := hmb, tok := .inl ⟨ad, rfl⟩,
              blk':=fun g hg=>by cases ad<;>simp [tokB] at hg,cells:=.inl rfl,len:=⟨_,_,rfl,Nat.le_refl _⟩ }
  · have:ad0=ad:=by rw [hva] at hv0;cases hv0;rfl
    exact growth 0 (by rw [this];exact hva) (by omega)
 · rcases hv with hv | ⟨Tb,n',xs',hown,hMg⟩
   · exact absurd hv hzero
   have hown:w.ownsRow E.N Tb i.size v n' xs':=hown
   have hMg:∀ g,v.ownBlock=some g→∀ o,n'*i.size≤o→M g o:=hMg
   rcases hown.2 with ⟨hva,hn'⟩ | ⟨g,cap,cur,hva,hbg,hg,hnc,hcm,hcs,htake⟩
   · exact absurd ⟨none,hva⟩ hzero
   · have hnn:n'=n:=by rw [hva] at hv0;cases hv0;rfl
     subst hnn
     have had:ad0=some ⟨g,0,none⟩:=by rw [hva] at hv0;cases hv0;rfl
     by_cases hroom:n'+m≤cap
     · have hfit:n'*i.size+news.length≤cur.size:=by rw [hnl,hcs,←Nat.add_mul];exact Nat.mul_le_mul_right _ hroom
       have hrun:=run_append_in (P:=P) ht hi w ty g Tb n' cap cur hg m _ news ⟨_,_,rfl⟩ hnl hf hn1 hroom hfit
       have hcap0:cap≠0:=fun h0=>hzero ⟨_,by rw [hva,h0,show n'=0 by omega]⟩
       have hxs':∀(j:Nat) (u:Value),xs[j]? = some u→cur[j]? = some u:=fun j u hj=>by
        rcases hx with rfl | ⟨g',cap',e1,hc⟩
        · simp at hj
        · rw [hva] at e1
          cases e1
          have:=(hc j u hj).2
          simpa [World.cell?,hg] using this
       have hgrew:=grew_in (E:=E) hmb hbg hg (hMg g (by rw [hva];rfl)) hxs hxs' hnl hcs hroom hcap0 hcm
       rw [hva]
       exact ⟨_,_,_,hrun,hgrew⟩
     · exact growth cap (by rw [had];exact hva) (by omega)
end Go.Slot

namespace Go.Slot
open Go Go.RowKit
variable {P:Program}
def toInts (k:IntKind):Cell→Option (List Int)
 | .ints k' l=>if k'=k then some l else none
 | .zc=>some []
 | .nn _=>some []
 | .raw (.slice none 0 0)=>some []
 | _=>none
def toRows (n:Nat):Cell→Option (List (List Cell))
 | .sl n' rows=>if n'=n then some rows else none
 | .zc=>some []
 | .nn _=>some []
 | .raw (.slice none 0 0)=>some []
 | _=>none
def joinC (es eb:Nat) (ik:Option IntKind) (c cy:Cell):Option Cell:=
 match ik with
 | some k=>match toInts k c,toInts k cy with
  | some l,some l'=>if es=1∧(l.length+l'.length)*eb≤140737488355328∧l.length+l'.length≤9223372036854775807 then some (.ints k (l++l')) else none
  | _,_=>none
 | none=>match toRows es c,toRows es cy with
  | some l,some l'=>if (l.length+l'.length)*eb≤140737488355328∧l.length+l'.length≤9223372036854775807 then some (.sl es (l++l')) else none
  | _,_=>none
def ownC:Cell→Option (Option Nat×Cell)
 | .tok d (.ints k l)=>some (some d,.ints k l)
 | .tok d (.sl n r)=>some (some d,.sl n r)
 | .zc=>some (none,.zc)
 | .raw (.slice none 0 0)=>some (none,.zc)
 | _=>none
def stripAll (tk:List Nat) (σ:List AV):List AV:=tk.foldl (fun σ t=>stripS t σ) σ
def AV.stripAll (tk:List Nat) (x:AV):AV:=tk.foldl (fun x t=>x.strip t) x
def stripEff (tk:List Nat):Nat→List AV→List (Nat×AV)
 | _,[]=>[]
 | i,x::r=>if tk.all (fun t=>x.noTok t) then stripEff tk (i+1) r else (i,x.stripAll tk)::stripEff tk (i+1) r
def appendA (σ : List AV) (ti : TI) (d : Nat) (x y : Operand) : Option (List Nat × List Nat × List (Nat × AV)) :=
 match ti.sh with
 | .slice _ es eb ik=>match opd σ x,opd σ y with
  | .one cx,.one cy=>match ownC cx with
   | some (od,c)=>match joinC es eb ik c cy.bare with
    | some c'=>if nh σ d then
     let tk:=od.toList++[d]
     let se:=stripEff tk 0 σ
     some (d::(orr x++orr y++se.map (·.1)),tk,se++[(d,.one (.tok d c'))])
     else none
    | none=>none
   | none=>none
  | _,_=>none
 | _=>none
theorem gt_app (eff:List (Nat×AV)):∀(σ:List AV) (i:Nat),i<σ.length→gt (app eff σ) i=((eff.reverse.find? (fun p=>p.1==i)).map (·.2)).getD (gt σ i):=by
 induction eff with
 | nil=>intro σ i _;rfl
 | cons p eff ih=>
  intro σ i hi
  obtain ⟨s,v⟩:=p
  simp only [app]
  rw [ih (σ.set s v) i (by simpa using hi)]
  simp only [List.reverse_cons,List.find?_append]
  cases hf:eff.reverse.find? (fun p=>p.1==i) with
  | some q=>simp
  | none=>
   simp only [Option.map_none,Option.getD_none,Option.none_or]
   by_cases hs:s=i
   · subst hs;simp [gt,hi]
   · simp [gt,hs]
theorem app_length (eff:List (Nat×AV)):∀ σ:List AV,(app eff σ).length=σ.length:=by
 induction eff with
 | nil=>intro σ;rfl
 | cons p eff ih=>intro σ;simp only [app];rw [ih];simp
theorem app_append (e1 e2:List (Nat×AV)):∀ σ:List AV,app (e1++e2) σ=app e2 (app e1 σ):=by
 induction e1 with
 | nil=>intro σ;rfl
 | cons p e1 ih=>intro σ;simp only [List.cons_append,app];exact ih _
theorem ext_gt {σ σ':List AV} (hl:σ.length=σ'.length) (h:∀ i,i<σ.length→gt σ i=gt σ' i):σ=σ':=by
 apply List.ext_getElem hl
 intro i h1 h2
 have:=h i h1
 simpa [gt,h1,h2] using this
theorem Cell.strip_id {t:Nat}:∀{c:Cell},c.noTok t=true→c.strip t=c
 | .tok d c,h=>by
  simp only [Cell.noTok,Bool.and_eq_true,bne_iff_ne] at h
  simp [Cell.strip,h.1,Cell.strip_id h.2]
 | .raw _,_ | .ints _ _,_ | .sl _ _,_ | .zc,_ | .nn _,_ | .fnp _,_=>rfl
theorem stripL_id {t:Nat}:∀{cs:List Cell},noTokL t cs=true→stripL t cs=cs
 | [],_=>rfl
 | c::cs,h=>by
  simp only [noTokL,Bool.and_eq_true] at h
  simp [stripL,Cell.strip_id h.1,stripL_id h.2]
theorem AV.strip_id {t:Nat} {x:AV} (h:x.noTok t=true):x.strip t=x:=by
 cases x with
 | one c=>simp [AV.strip,Cell.strip_id (show c.noTok t=true from h)]
 | agg cs=>simp [AV.strip,stripL_id (show noTokL t cs=true from h)]
 | box cs=>simp [AV.strip,stripL_id (show noTokL t cs=true from h)]
 | obx cs=>simp [AV.strip,stripL_id (show noTokL t cs=true from h)]
 | _=>rfl
theorem Cell.hasTok_of {t:Nat}:∀{c:Cell},¬c.noTok t=true→c.hasTok t
 | .tok d c,h=>by
  simp only [Cell.noTok,Bool.and_eq_true,bne_iff_ne,not_and] at h
  by_cases hd:d=t
  · exact .inl hd
  · exact .inr (Cell.hasTok_of (h hd))
 | .raw _,h | .ints _ _,h | .sl _ _,h | .zc,h | .fnp _,h=>absurd rfl h
theorem hasTokL_of {t:Nat}:∀{cs:List Cell},¬noTokL t cs=true→hasTokL t cs
 | [],h=>absurd rfl h
 | c::cs,h=>by
  simp only [noTokL,Bool.and_eq_true,not_and] at h
  by_cases hc:c.noTok t=true
  · exact .inr (hasTokL_of (h hc))
  · exact .inl (Cell.hasTok_of hc)
theorem AV.hasTok_of {t:Nat} {x:AV} (h:¬x.noTok t=true):x.hasTok t:=by
 cases x with
 | one c=>exact Cell.hasTok_of h
 | agg cs=>exact hasTokL_of h
 | box cs=>exact hasTokL_of h
 | obx cs=>exact hasTokL_of h
 | _=>exact absurd rfl h
theorem Cell.noTok_strip_of {t s:Nat}:∀{c:Cell},c.noTok t=true→(c.strip s).noTok t=true
 | .tok d c,h=>by
  simp only [Cell.noTok,Bool.and_eq_true] at h
  unfold Cell.strip
  split
  · exact Cell.noTok_strip_of h.2
  · simp [Cell.noTok,h.1,Cell.noTok_strip_of h.2]
 | .raw _,_ | .ints _ _,_ | .sl _ _,_ | .zc,_ | .nn _,_ | .fnp _,_=>rfl
theorem noTokL_strip_of {t s:Nat}:∀{cs:List Cell},noTokL t cs=true→noTokL t (stripL s cs)=true
 | [],_=>rfl
 | c::cs,h=>by
  simp only [noTokL,Bool.and_eq_true] at h
  simp [noTokL,stripL,Cell.noTok_strip_of h.1,noTokL_strip_of h.2]
theorem AV.noTok_strip_of {t s:Nat} {x:AV} (h:x.noTok t=true):(x.strip s).noTok t=true:=by
 cases x with
 | one c=>exact Cell.noTok_strip_of h
 | agg cs=>exact noTokL_strip_of h
 | box cs=>exact noTokL_strip_of h
 | obx cs=>exact noTokL_strip_of h
 | _=>rfl
theorem AV.noTok_stripAll (tk:List Nat) {t:Nat}:∀{x:AV},(t∈tk∨x.noTok t=true)→(x.stripAll tk).noTok t=true:=by
 unfold AV.stripAll
 induction tk with
 | nil=>intro x h;exact h.resolve_left (by simp)
 | cons s tk ih=>
  intro x h
  simp only [List.foldl_cons]
  refine ih ?_
  rcases h with h | h
  · rcases List.mem_cons.1 h with rfl | h
    · exact .inr (AV.noTok_strip _ x)
    · exact .inl h
  · exact .inr (AV.noTok_strip_of h)
theorem AV.stripAll_id (tk:List Nat):∀{x:AV},(∀ t∈tk,x.noTok t=true)→x.stripAll tk=x:=by
 unfold AV.stripAll
 induction tk with
 | nil=>intro x _;rfl
 | cons s tk ih=>
  intro x h
  simp only [List.foldl_cons,AV.strip_id (h s (by simp))]
  exact ih (fun t ht=>h t (by simp [ht]))
theorem AV.stripAll_holder (tk:List Nat):∀(x:AV),(x.stripAll tk).holder=x.holder:=by
 unfold AV.stripAll
 induction tk with
 | nil=>intro x;rfl
 | cons s tk ih=>intro x;simp only [List.foldl_cons];rw [ih,AV.strip_holder]
theorem stripAll_length (tk:List Nat):∀ σ:List AV,(stripAll tk σ).length=σ.length:=by
 unfold stripAll
 induction tk with
 | nil=>intro σ;rfl
 | cons s tk ih=>intro σ;simp only [List.foldl_cons];rw [ih,(LeS.strip s σ).length]
theorem stripAll_get (tk:List Nat):∀(σ:List AV) (i:Nat),(stripAll tk σ)[i]? = (σ[i]?).map (AV.stripAll tk):=by
 unfold stripAll
 induction tk with
 | nil=>intro σ i;simp only [List.foldl_nil];cases σ[i]?<;>simp [AV.stripAll]
 | cons s tk ih=>
  intro σ i
  simp only [List.foldl_cons]
  rw [ih,stripS_get]
  cases σ[i]?<;>rfl
theorem RelI.stripAll {E:Env} {τ:Nat→TV} {M:Nat→Nat→Prop} {a:Act} {w:World} (tk:List Nat):∀{σ:List AV},RelI E τ M σ a w→RelI E τ M (stripAll tk σ) a w:=by
 unfold Slot.stripAll
 induction tk with
 | nil=>intro σ h;exact h
 | cons s tk ih=>intro σ h;exact ih (h.strip s)
theorem stripAll_notLive (tk:List Nat) {t:Nat} (ht:t∈tk) (σ:List AV):¬live (stripAll tk σ) t:=fun ⟨i,x,hi,hx⟩=>by
 rw [stripAll_get] at hi
 cases hs:σ[i]? with
 | none=>rw [hs] at hi;cases hi
 | some y=>
  rw [hs] at hi
  simp at hi
  subst hi
  exact AV.noTok_spec (AV.noTok_stripAll tk (.inl ht)) hx
theorem stripAll_live (tk:List Nat) {t:Nat} {σ:List AV} (h:live (stripAll tk σ) t):live σ t:=by
 obtain ⟨i,x,hi,hx⟩:=h
 rw [stripAll_get] at hi
 cases hs:σ[i]? with
 | none=>rw [hs] at hi;cases hi
 | some y=>
  rw [hs] at hi
  simp at hi
  subst hi
  refine ⟨i,y,hs,?_⟩
  by_cases hn:y.noTok t=true
  · exact absurd hx (AV.noTok_spec (AV.noTok_stripAll tk (.inr hn)))
  · exact AV.hasTok_of hn
theorem stripEff_find (tk : List Nat) : ∀ (σ : List AV) (k i : Nat), i < σ.length →
 ((stripEff tk k σ).reverse.find? (fun p=>p.1==k+i))=if tk.all (fun t=>(gt σ i).noTok t) then none else some (k+i,(gt σ i).stripAll tk)
 | [],_,i,h=>by simp at h
 | x::r,k,0,_=>by
  have hnone:(stripEff tk (k+1) r).reverse.find? (fun p=>p.1==k)=none:=by
   rw [List.find?_eq_none]
   intro p hp
   have:∀(σ:List AV) (k:Nat),∀ p∈stripEff tk k σ,k≤p.1:=by
    intro σ
    induction σ with
    | nil=>intro k p hp;simp [stripEff] at hp
    | cons y σ ih=>
     intro k p hp
     unfold stripEff at hp
     split at hp
     · have:=ih (k+1) p hp;omega
     · rcases List.mem_cons.1 hp with rfl | hp
       · exact Nat.le_refl _
       · have:=ih (k+1) p hp;omega
   have:=this r (k+1) p (by simpa using hp)
   simp;omega
  unfold stripEff
  have hg:gt (x::r) 0=x:=rfl
  rw [hg]
  split
  · simpa using hnone
  · simp only [List.reverse_cons,List.find?_append,Nat.add_zero,hnone]
    simp
 | x::r,k,i+1,h=>by
  have ih:=stripEff_find tk r (k+1) i (by simpa using h)
  have hg:gt (x::r) (i+1)=gt r i:=by simp [gt]
  rw [hg,show k+(i+1)=k+1+i by omega]
  unfold stripEff
  split
  · exact ih
  · simp only [List.reverse_cons,List.find?_append,ih]
    split
    · simp
      omega
    · rfl
theorem app_stripEff {σ σ':List AV} {tk:List Nat} (hl:σ'.length=σ.length) (hag:∀ r∈(stripEff tk 0 σ).map (·.1),gt σ' r=gt σ r)
 (hex:∀ t∈tk,∀ i,(gt σ' i).hasTok t→gt σ' i=gt σ i):app (stripEff tk 0 σ) σ'=stripAll tk σ':=by
 apply ext_gt
 · rw [app_length,stripAll_length]
 · intro i hi
   rw [app_length] at hi
   rw [gt_app _ _ _ hi]
   have hf:=stripEff_find tk σ 0 i (by omega)
   simp only [Nat.zero_add] at hf
   have hsa:gt (stripAll tk σ') i=(gt σ' i).stripAll tk:=by
    unfold gt
    rw [stripAll_get,List.getElem?_eq_getElem hi]
    simp
   rw [hsa,hf]
   split
   · rename_i hno
     simp only [Option.map_none,Option.getD_none]
     rw [AV.stripAll_id]
     intro t ht
     by_cases hc:(gt σ' i).noTok t=true
     · exact hc
     · have:=hex t ht i (AV.hasTok_of hc)
       rw [this]
       exact (List.all_eq_true.1 hno) t ht
   · rename_i hsome
     simp only [Option.map_some,Option.getD_some]
     rw [hag i]
     have hm:((stripEff tk 0 σ).reverse.find? (fun p=>p.1==i))=some (i,(gt σ i).stripAll tk):=by rw [hf,if_neg hsome]
     have:=List.mem_of_find?_eq_some hm
     exact List.mem_map.2 ⟨_,by simpa using this,rfl⟩
theorem RdC.ints_cells {M:Nat→Nat→Prop} {w:World} {v:Value} {c:Cell} {k:IntKind} {l:List Int} (h:RdC M w v c) (hc:toInts k c=some l) :
 (∃ ad cap,v=.slice ad l.length cap)∧(l.map (Value.int k)=[]∨∃ b off cap,v=.slice (some ⟨b,off,none⟩) l.length cap∧∀ j u,(l.map (Value.int k))[j]? = some u→¬M b (off+j)∧w.cell? ⟨b,off+j,none⟩=some u):=by
 cases h with
 | raw h=>
  unfold toInts at hc
  split at hc
  · rename_i heq;cases heq
  · rename_i heq;cases heq
  · rename_i heq;cases heq
  · rename_i heq;cases heq;cases hc;exact ⟨⟨_,_,rfl⟩,.inl rfl⟩
  · cases hc
 | zc=>cases hc;exact ⟨⟨_,_,rfl⟩,.inl rfl⟩
 | nn=>cases hc;exact ⟨⟨_,_,rfl⟩,.inl rfl⟩
 | fnp=>cases hc
 | @ints a len cap k' l' b off hl hcap ha hcell=>
  simp only [toInts] at hc
  split at hc
  · rename_i hk
    cases hc
    subst hk
    subst hl
    refine ⟨⟨_,_,rfl⟩,?_⟩
    by_cases h0:l=[]
    · exact .inl (by rw [h0];rfl)
    · refine .inr ⟨b,off,cap,by rw [ha h0],fun j u hj=>?_⟩
      have hjl:j<l.length:=by simpa using (List.getElem?_eq_some_iff.1 hj).1
      have:=hcell j hjl
      simp [hjl] at hj
      rw [←hj];exact this
  · cases hc
 | sl=>cases hc
theorem RdC.rows_cells {M:Nat→Nat→Prop} {w:World} {v:Value} {c:Cell} {n:Nat} {rows:List (List Cell)} (hn0:0<n) (h:RdC M w v c) (hc:toRows n c=some rows) :
 (∃ ad cap,v=.slice ad rows.length cap)∧(∀ r∈rows,r.length=n)∧∃ vs:List Value,vs.length=rows.length*n∧RdD M w vs rows.flatten∧
   (vs=[]∨∃ b off cap,v=.slice (some ⟨b,off,none⟩) rows.length cap∧∀ j u,vs[j]? = some u→¬M b (off+j)∧w.cell? ⟨b,off+j,none⟩=some u):=by
 cases h with
 | raw h=>
  unfold toRows at hc
  split at hc
  · rename_i heq;cases heq
  · rename_i heq;cases heq
  · rename_i heq;cases heq
  · rename_i heq;cases heq;cases hc;exact ⟨⟨_,_,rfl⟩,by simp,[],by simp,trivial,.inl rfl⟩
  · cases hc
 | zc=>cases hc;exact ⟨⟨_,_,rfl⟩,by simp,[],by simp,trivial,.inl rfl⟩
 | nn=>cases hc;exact ⟨⟨_,_,rfl⟩,by simp,[],by simp,trivial,.inl rfl⟩
 | fnp=>cases hc
 | ints=>cases hc
 | @sl a len cap n' rows' b off u hl hcap ha hn hm hr =>
  simp only [toRows] at hc
  split at hc
  · rename_i hk
    cases hc
    subst hk
    subst hl
    refine ⟨⟨_,_,rfl⟩,hn,(List.range (rows.length*n')).map (fun q=>u (q / n') (q % n')),by simp,?_,?_⟩
    · have gen:∀(rs:List (List Cell)) (f:Nat→Nat→Value),(∀ r∈rs,r.length=n')→(∀ i (hi:i<rs.length) j (hj:j<rs[i].length),RdC M w (f i j) rs[i][j])→
       RdD M w ((List.range (rs.length*n')).map (fun q=>f (q / n') (q % n'))) rs.flatten:=by
       intro rs
       induction rs with
       | nil=>intro f _ _;simp;exact trivial
       | cons r rs ih=>
        intro f hlen hf
        have hrl:r.length=n':=hlen r (by simp)
        have hsplit:List.range ((r::rs).length*n')=List.range n'++(List.range (rs.length*n')).map (n' + ·):=by
         rw [List.length_cons,Nat.add_mul,Nat.one_mul,Nat.add_comm,List.range_add]
        rw [hsplit,List.map_append,List.map_map,List.flatten_cons]
        have happ:∀{vs:List Value} {cs:List Cell} {us:List Value} {ds:List Cell},RdD M w vs cs→RdD M w us ds→RdD M w (vs++us) (cs++ds):=by
         intro vs
         induction vs with
         | nil=>intro cs us ds h1 h2;cases cs with
          | nil=>exact h2
          | cons _ _=>exact h1.elim
         | cons v vs ihv=>intro cs us ds h1 h2;cases cs with
          | nil=>exact h1.elim
          | cons c cs=>exact ⟨h1.1,ihv h1.2 h2⟩
        refine happ ?_ ?_
        · have e:(List.range n').map (fun q=>f (q / n') (q % n'))=(List.range r.length).map (f 0):=by
           rw [hrl]
           apply List.map_congr_left
           intro q hq
           have:=List.mem_range.1 hq
           rw [Nat.div_eq_of_lt this,Nat.mod_eq_of_lt this]
          rw [e]
          have g2:∀(cs:List Cell) (g:Nat→Value),(∀ j (hj:j<cs.length),RdC M w (g j) cs[j])→RdD M w ((List.range cs.length).map g) cs:=by
           intro cs
           induction cs with
           | nil=>intro g _;exact trivial
           | cons c cs ihc=>
            intro g hg
            rw [List.length_cons,List.range_succ_eq_map,List.map_cons,List.map_map]
            exact ⟨hg 0 (by simp),ihc (g∘Nat.succ) (fun j hj=>hg (j+1) (by simpa using hj))⟩
          exact g2 r (f 0) (fun j hj=>hf 0 (by simp) j hj)
        · have e:(List.range (rs.length*n')).map ((fun q=>f (q / n') (q % n'))∘(n' + ·))=(List.range (rs.length*n')).map (fun q=>f (q / n'+1) (q % n')):=by
           apply List.map_congr_left
           intro q _
           simp only [Function.comp]
           rw [Nat.add_comm n' q,Nat.add_div_right _ hn0,Nat.add_mod_right]
          rw [e]
          exact ih (fun i j=>f (i+1) j) (fun r' hr'=>hlen r' (by simp [hr'])) (fun i hi j hj=>hf (i+1) (by simpa using hi) j hj)
      exact gen rows u hn hr
    · by_cases h0:rows=[]
      · exact .inl (by simp [h0])
      · refine .inr ⟨b,off,cap,by rw [ha h0],fun j x hj=>?_⟩
        have hjl:j<rows.length*n':=by simpa using (List.getElem?_eq_some_iff.1 hj).1
        have h1:j / n'<rows.length:=Nat.div_lt_of_lt_mul (by rw [Nat.mul_comm];exact hjl)
        have h2:j % n'<n':=Nat.mod_lt _ hn0
        have:=hm (j / n') h1 (j % n') h2
        have e:off+j / n'*n'+j % n'=off+j:=by
         have:=Nat.div_add_mod j n'
         rw [Nat.mul_comm] at this
         omega
        rw [e] at this
        simp [hjl] at hj
        rw [←hj];exact this
  · cases hc
theorem RdD.oneL {M:Nat→Nat→Prop} {w:World}:∀{vs:List Value} {cs:List Cell},RdD M w vs cs→∀ v∈vs,v.oneCell'=true
 | [],[],_,v,hv=>by simp at hv
 | u::vs,_::_,h,v,hv=>by
  rcases List.mem_cons.1 hv with rfl | hv
  · exact h.1.one
  · exact RdD.oneL h.2 v hv
theorem RdD.app {M:Nat→Nat→Prop} {w:World}:∀{vs:List Value} {cs:List Cell} {us:List Value} {ds:List Cell},RdD M w vs cs→RdD M w us ds→RdD M w (vs++us) (cs++ds)
 | [],[],_,_,_,h=>h
 | _::_,_::_,_,_,h,h'=>⟨h.1,h.2.app h'⟩
theorem chunk_flatten (es:Nat):∀ rows:List (List Cell),(∀ r∈rows,r.length=es)→chunk es rows.length rows.flatten=rows
 | [],_=>rfl
 | r::rows,h=>by
  have hr:=h r (by simp)
  simp only [List.length_cons,chunk,List.flatten_cons]
  rw [←hr,List.take_left,List.drop_left,hr,chunk_flatten es rows (fun r' hr'=>h r' (by simp [hr']))]
theorem Grew.ints {E:Env} {M M':Nat→Nat→Prop} {w w':World} {v v':Value} {k:IntKind} {l:List Int} (h:Grew E M w w' M' v v' 1 l.length (l.map (Value.int k))):RdC M' w' v' (.ints k l):=by
 obtain ⟨ad,cap,hv,hc⟩:=h.len
 by_cases h0:l=[]
 · subst h0
   rw [hv]
   exact .ints 0 0 rfl hc (fun h=>absurd rfl h) (fun i hi=>absurd hi (Nat.not_lt_zero i))
 · rcases h.cells with h1 | ⟨g,cap',hv',hc',hcell⟩
   · exact absurd (List.map_eq_nil_iff.1 h1) h0
   · rw [hv']
     refine .ints g 0 rfl hc' (fun _=>rfl) (fun i hi=>?_)
     have:=hcell i (.int k l[i]) (by simp [hi])
     simpa using this
theorem Grew.rows {E:Env} {M M':Nat→Nat→Prop} {w w':World} {v v':Value} {es:Nat} {rows:List (List Cell)} {vs:List Value} (h:Grew E M w w' M' v v' es rows.length vs) (hr:RdD M w vs rows.flatten)
 (hlen:∀ r∈rows,r.length=es) (hvl:vs.length=rows.length*es) (hes:0<es):RdC M' w' v' (.sl es rows):=by
 obtain ⟨ad,cap,hv,hc⟩:=h.len
 have hr':RdD M' w' vs rows.flatten:=hr.keep h.keeps
 by_cases h0:rows=[]
 · subst h0
   rw [hv]
   exact .sl 0 0 (fun _ _=>Go.undef) rfl hc (fun h=>absurd rfl h) (fun r hr=>by cases hr) (fun i hi=>absurd hi (Nat.not_lt_zero i)) (fun i hi=>absurd hi (Nat.not_lt_zero i))
 · have hfl:rows.flatten.length=rows.length*es:=by rw [←hvl,hr.length]
   have hpos:0<rows.length:=List.length_pos_iff.2 h0
   rcases h.cells with h1 | ⟨g,cap',hv',hc',hcell⟩
   · rw [h1] at hvl
     have:0<rows.length*es:=Nat.mul_pos hpos hes
     rw [←hvl] at this
     simp at this
   · rw [hv']
     have hin:∀ i,i<rows.length→∀ j,j<es→i*es+j<rows.length*es:=fun i hi j hj=>by
      calc i*es+j<i*es+es:=by omega
       _=(i+1)*es:=by rw [Nat.add_mul,Nat.one_mul]
       _≤rows.length*es:=Nat.mul_le_mul_right _ hi
     have gen:∀(vs:List Value) (cs:List Cell),RdD M' w' vs cs→∀ q (hq:q<cs.length),RdC M' w' (vs.getD q Go.undef) cs[q]:=by
      intro vs
      induction vs with
      | nil=>intro cs h q hq;cases cs with
       | nil=>simp at hq
       | cons _ _=>exact h.elim
      | cons v vs ih=>intro cs h q hq;cases cs with
       | nil=>exact h.elim
       | cons c cs=>cases q with
        | zero=>exact h.1
        | succ q=>simpa using ih cs h.2 q (by simpa using hq)
     refine .sl g 0 (fun i j=>vs.getD (i*es+j) Go.undef) rfl hc' (fun _=>rfl) hlen (fun i hi j hj=>?_) (fun i hi j hj=>?_)
     · have hlt:=hin i hi j hj
       have:=hcell (i*es+j) (vs.getD (i*es+j) Go.undef) (by rw [List.getElem?_eq_getElem (by omega)];simp [show i*es+j<vs.length by omega])
       rw [Nat.zero_add];exact this
     · have hrl:rows[i].length=es:=hlen _ (List.getElem_mem hi)
       have hlt:=hin i hi j (by omega)
       have hg:=gen vs rows.flatten hr' (i*es+j) (by omega)
       have hck:=chunk_flatten es rows hlen
       have e:rows.flatten[i*es+j]=rows[i][j]:=by
        have h1:(chunk es rows.length rows.flatten)[i]? = rows[i]?:=by rw [hck]
        rw [List.getElem?_eq_getElem (by rw [chunk_length];exact hi),List.getElem?_eq_getElem hi] at h1
        simp only [Option.some.injEq,chunk_get] at h1
        have h2:((rows.flatten.drop (i*es)).take es)[j]? = rows[i][j]?:=by rw [h1]
        rw [List.getElem?_take,if_pos (by omega),List.getElem?_drop,List.getElem?_eq_getElem (by omega),List.getElem?_eq_getElem hj] at h2
        simpa using h2
       rw [e] at hg
       exact hg
theorem tok_off {E:Env} {M:Nat→Nat→Prop} {w:World} {b off n cap sz:Nat} (h:TokOk E M w ⟨.slice (some ⟨b,off,none⟩) n cap,sz⟩) (hn:n≠0):off=0:=by
 rcases h with ⟨a,ha⟩ | ⟨e,n',xs,ho,_⟩
 · simp only [Value.slice.injEq] at ha
   exact absurd ha.2.1 hn
 · rcases ho.2 with ⟨h1,_⟩ | ⟨g,c,cur,hv,_⟩
   · simp at h1
   · simp only [Value.slice.injEq,Option.some.injEq,Addr.mk.injEq] at hv
     exact hv.1.2.1
theorem TokOk.grew {E : Env} {M M' : Nat → Nat → Prop} {w w' : World} {v v' : Value} {es n : Nat} {all : List Value} (hg : Grew E M w w' M' v v' es n all) {t : TV} (h : TokOk E M w t) (hne : ∀ g, tokB t.v = some g → tokB v ≠ some g) : TokOk E M' w' t := by
 rcases h with h | ⟨e,n',xs,ho,hm⟩
 · exact .inl h
 · rcases ho.2 with ⟨h1,_⟩ | ⟨g,cap,cur,hv,hN,hh,hnc,r⟩
   · exact .inl ⟨none,h1⟩
   · cases cap with
     | zero=>exact .inl ⟨some ⟨g,0,none⟩,by rw [hv];simp at hnc;rw [hnc]⟩
     | succ cap=>
      have hb:=hne g (by rw [hv];rfl)
      refine .inr ⟨e,n',xs,⟨ho.1,.inr ⟨g,cap+1,cur,hv,hN,?_,hnc,r⟩⟩,fun g' hg' o ho'=>?_⟩
      · rw [hg.block g (Array.getElem?_eq_some_iff.1 hh).1 hb];exact hh
      · have e1:g'=g:=by rw [hv] at hg';simp [Value.ownBlock] at hg';exact hg'.symm
        exact hg.mem _ _ (hm g' hg' o ho') (by rw [e1];exact hb)
theorem append_finish {o:Oper} {σ':List AV} {d:Nat} (hdst:o.dst=some d) {tk:List Nat} (hdt:d∈tk) {E:Env} {τ:Nat→TV} {M:Nat→Nat→Prop} {a:Act} {w:World} (hI:RelI E τ M σ' a w)
 {old:AV} (hd:σ'[d]? = some old) (hnh:old.holder=false) {v v':Value} {c':Cell} {es n:Nat} {all:List Value} {w':World} {M':Nat→Nat→Prop} (hes:c'.esz=es) (hg:Grew E M w w' M' v v' es n all)
 (hr:RdC M' w' v' c') (hrun:(execOp a.eval o).run P w=.ok (.value v') w') (hv:TokOk E M w ⟨v,es⟩)
 (ht:∀ t g,live (stripAll tk σ') t→tokB (τ t).v=some g→tokB v≠some g) (hh:∀ i av,σ'[i]? = some av→av.holder=true→tokB v≠some (blk (a.tmps.getD i Go.undef)))
 {K:Act→World→Prop} {Q:Exit→Act→World→Prop} {σ2:List AV} (he:σ2=(stripAll tk σ').set d (.one (.tok d c'))) (hK:∀ a' w',Rel E σ2 a' w'→K a' w'):o.wp P a w K Q:=by
 have hS:=hI.stripAll tk
 have hget:∀ i av,(stripAll tk σ')[i]? = some av→∃ x:AV,σ'[i]? = some x∧av=x.stripAll tk:=fun i av hi=>by
  rw [stripAll_get] at hi
  cases hx:σ'[i]? with
  | none=>rw [hx] at hi;cases hi
  | some x=>rw [hx] at hi;refine ⟨x,?_,by simpa using hi.symm⟩;first | rfl | exact hx
 have hN:∀ g,tokB v=some g→E.N≤g∧g<w.heap.size:=fun g hg'=>tokOk_blk_lt hv hg'
 have hgrow:=hS.grow (d:=d) (old:=old.stripAll tk) (by rw [stripAll_get,hd];rfl) (by rw [AV.stripAll_holder];exact hnh) (stripAll_notLive tk hdt σ') hg.keeps
  (fun b o' hm=>hg.mem b o' (hI.m0 b o' hm) (fun hb=>by have h1:E.w0.heap.size≤b:=(hN b hb).1;have:=E.hM b o' hm;omega)) hg.mb hg.size hg.os hg.tape hg.output
  (fun k hk=>hg.block k (Nat.lt_of_lt_of_le hk hI.size) (fun hb=>by have h1:E.w0.heap.size≤k:=(hN k hb).1;have h2:k<E.w0.heap.size:=hk;omega))
  (fun i av hi hhold=>by
    obtain ⟨x,hx,rfl⟩:=hget i av hi
    rw [AV.stripAll_holder] at hhold
    have hne:=hh i x hx hhold
    exact ⟨hg.block _ ((hI.slot i x hx).blk_lt hhold) hne,fun o'=>hg.mem _ _ ((hI.hold i x hx hhold).1 o') hne⟩)
  (fun t htl=>(hS.toks t htl).grew hg (fun g h1=>ht t g htl h1)) v' c' (by rw [hes];exact hg.tok)
  (fun i av hi hhold=>by
    obtain ⟨x,hx,rfl⟩:=hget i av hi
    rw [AV.stripAll_holder] at hhold
    intro hb
    rcases hg.blk' _ hb with h1 | h1
    · exact hh i x hx hhold h1
    · have:=(hI.slot i x hx).blk_lt hhold;omega)
  (fun t g htl h1=>fun hb=>by
    rcases hg.blk' _ hb with h2 | h2
    · exact ht t g htl h1 h2
    · have:=(tokOk_blk_lt (hS.toks t htl) h1).2;omega) hr
 unfold Oper.wp
 rw [hrun]
 show K (a.put o.dst v') w'
 rw [hdst]
 exact hK _ _ (by rw [he];exact ⟨_,M',hgrow⟩)
theorem ownC_esz {cx c:Cell} {od:Option Nat} (h:ownC cx=some (od,c)):(∃ d0,od=some d0∧cx=.tok d0 c)∨(od=none∧c=.zc∧(cx=.zc∨cx=.raw (.slice none 0 0))):=by
 unfold ownC at h
 split at h
 · cases h;exact .inl ⟨_,rfl,rfl⟩
 · cases h;exact .inl ⟨_,rfl,rfl⟩
 · cases h;exact .inr ⟨rfl,rfl,.inl rfl⟩
 · cases h;exact .inr ⟨rfl,rfl,.inr rfl⟩
 · cases h
theorem joinC_esz {es eb : Nat} {ik : Option IntKind} {c cy c' : Cell} (h : joinC es eb ik c cy = some c') : c'.esz = es ∧ (c.isSl = true → c = .zc ∨ c.esz = es) := by
 unfold joinC at h
 split at h
 · split at h
   · rename_i l l' h1 h2
     split at h
     · rename_i hc
       cases h
       refine ⟨hc.1.symm,fun hs=>?_⟩
       cases c with
       | ints=>exact .inr hc.1.symm
       | zc=>exact .inl rfl
       | sl=>cases h1
       | _=>cases hs
     · cases h
   · cases h
 · split at h
   · rename_i l l' h1 h2
     split at h
     · cases h
       refine ⟨rfl,fun hs=>?_⟩
       cases c with
       | ints=>cases h1
       | zc=>exact .inl rfl
       | sl n r=>simp only [toRows] at h1;split at h1<;>first | (rename_i hn;exact .inr hn) | cases h1
       | _=>cases hs
     · cases h
   · cases h
theorem ownC_isSl {cx c:Cell} {od:Option Nat} (h:ownC cx=some (od,c)):c.isSl=true:=by
 unfold ownC at h
 split at h<;>first | (cases h;rfl) | cases h
theorem tokB_zero {ad:Option Addr} {g:Nat}:tokB (.slice ad 0 0)≠some g:=by cases ad<;>simp [tokB]
theorem sound_append {σ:List AV} {o:Oper} {T:TypeId} {x y:Operand} (ho:o.op=.call { callee:=.builtin .append,args:=#[x,y],argTypes:=#[T,T] }) {d:Nat} (hdst:o.dst=some d) {ti:TI} (hti:mkTI P T=some ti)
 {rd tk:List Nat} {eff:List (Nat×AV)} (hA:appendA σ ti d x y=some (rd,tk,eff)):AStep P o σ rd tk eff:=by
 have hok:=mkTI_ok hti
 obtain ⟨ds,i0,z0,hd0,hi0,hz0,_,_,_,_,_,hsh'⟩:=hok.ex
 unfold appendA at hA
 split at hA
 case h_2=>cases hA
 rename_i e es eb ik hsh
 split at hA
 case h_2=>cases hA
 rename_i cx cy hx hy
 split at hA
 case h_2=>cases hA
 rename_i od c hown
 split at hA
 case h_2=>cases hA
 rename_i c' hjoin
 split at hA
 case isFalse=>cases hA
 rename_i hn
 simp only [Option.some.injEq,Prod.mk.injEq] at hA
 obtain ⟨rfl,rfl,rfl⟩:=hA
 obtain ⟨rfl,j,z',hj,hz',hjs,hjb,hes0,hzs,hik⟩:=shOf_slice (hsh'.symm.trans hsh)
 have hes:0<es:=Nat.pos_of_ne_zero hes0
 intro E σ' a w hag htk ⟨τ,M,hI⟩ K Q hK
 have hox:opd σ' x=opd σ x:=hag.opd (fun t ht=>by simp [ht])
 have hoy:opd σ' y=opd σ y:=hag.opd (fun t ht=>by simp [ht])
 have sx:=hI.opd x
 have sy:=hI.opd y
 rw [hox,hx] at sx;rw [hoy,hy] at sy
 have sx:RdT M w τ (a.eval x) cx:=sx
 have sy:RdT M w τ (a.eval y) cy:=sy
 have sby:=sy.bare
 obtain ⟨hce,hcs⟩:=joinC_esz hjoin
 generalize htkd:od.toList++[d]=tk at *
 have hdt:d∈tk:=by rw [←htkd];simp
 have hxc:RdC M w (a.eval x) c∧TokOk E M w ⟨a.eval x,es⟩∧(∀ t g,live (stripAll tk σ') t→tokB (τ t).v=some g→tokB (a.eval x)≠some g)∧
  (∀ i av,σ'[i]? = some av→av.holder=true→tokB (a.eval x)≠some (blk (a.tmps.getD i Go.undef))):=by
  rcases ownC_esz hown with ⟨d0,rfl,rfl⟩ | ⟨rfl,rfl,hcx⟩
  · have hlv:live σ' d0:=opd_live (x:=x) (by rw [hox,hx];exact .inl rfl)
    have he:=sx.1.1
    have hsz:=sx.1.2
    have hok':=hI.toks d0 hlv
    have hc0:c=.zc∨c.esz=es:=hcs (ownC_isSl hown)
    have hd0t:d0∈tk:=by rw [←htkd];simp
    refine ⟨sx.2,?_,fun t g hl hg=>?_,fun i av hi hh=>by rw [he];exact hI.tbox d0 i av hlv hi hh⟩
    · rcases hc0 with rfl | hc0
      · have h2:=sx.2
        have:∃ ad,a.eval x=.slice ad 0 0:=by
         generalize a.eval x=v at h2
         cases h2;exact ⟨_,rfl⟩
        exact .inl this
      · have:(⟨a.eval x,es⟩:TV)=τ d0:=by rw [he,←hc0,←hsz]
        rw [this];exact hok'
    · rw [he]
      have hne:t≠d0:=fun e'=>stripAll_notLive tk hd0t σ' (by rw [←e'];exact hl)
      exact hI.tinj t d0 g (stripAll_live tk hl) hlv hne hg
  · have:∃ ad,a.eval x=.slice ad 0 0:=by
     rcases hcx with rfl | rfl
     · have h2:RdC M w (a.eval x) .zc:=sx
       generalize a.eval x=v at h2
       cases h2;exact ⟨_,rfl⟩
     · exact ⟨none,RdC.raw_inv sx⟩
    obtain ⟨ad,hv⟩:=this
    rw [hv]
    exact ⟨RdC.zc,.inl ⟨ad,rfl⟩,fun _ _ _ _=>tokB_zero,fun _ _ _ _=>tokB_zero⟩
 obtain ⟨hxr,hxt,hxs1,hxs2⟩:=hxc
 obtain ⟨old,h1,h2⟩:=nh_spec (hag.nh (by simp) hn)
 have hfin:app (stripEff tk 0 σ++[(d,.one (.tok d c'))]) σ'=(stripAll tk σ').set d (.one (.tok d c')):=by
  rw [app_append,app_stripEff hag.1 (fun r hr=>hag.2 r (by simp only [List.mem_cons,List.mem_append];exact .inr (.inr hr))) (fun t ht i hi=>hag.2 i (htk t ht i hi))]
  rfl
 have hrunop:∀ v' w',(Builtin.append_ #[T,T] o.type #[a.eval x,a.eval y]).run P w=.ok v' w'→(execOp a.eval o).run P w=.ok (.value v') w':=fun v' w' hr=>by
  simp [execOp,ho,resolve,invoke,builtin,hr]
 have hoff:∀(xs:List Value) (n:Nat),xs.length=n*es→(xs=[]∨∃ b off cap,a.eval x=.slice (some ⟨b,off,none⟩) n cap∧∀ j u,xs[j]? = some u→¬M b (off+j)∧w.cell? ⟨b,off+j,none⟩=some u)→
  (xs=[]∨∃ g cap,a.eval x=.slice (some ⟨g,0,none⟩) n cap∧∀ j u,xs[j]? = some u→¬M g j∧w.cell? ⟨g,j,none⟩=some u):=fun xs n hl hx'=>by
  by_cases h0:xs=[]
  · exact .inl h0
  · rcases hx' with h | ⟨b,off,cap,hv,hc⟩
    · exact .inl h
    · have hn0:n≠0:=fun e'=>h0 (List.eq_nil_of_length_eq_zero (by rw [hl,e'];simp))
      have ho0:off=0:=tok_off (by rw [←hv];exact hxt) hn0
      subst ho0
      exact .inr ⟨b,cap,hv,fun j u hj=>by simpa using hc j u hj⟩
 unfold joinC at hjoin
 split at hjoin
 · rename_i k
   split at hjoin
   · rename_i l l' hl hl'
     split at hjoin
     · rename_i hc
       obtain ⟨rfl,hb1,hb2⟩:=hc
       cases hjoin
       obtain ⟨hxl,hxcells⟩:=hxr.ints_cells hl
       obtain ⟨hyl,hycells⟩:=sby.ints_cells hl'
       obtain ⟨v',w',M',hr,hg⟩:=run_append_tok (P:=P) hd0 hj hz' hjs hjb hzs hes hI.size hI.mb o.type hxt hxl (by simp) (hoff _ _ (by simp) hxcells) hyl (by simp) (by simp [Value.oneCell']) hycells hb1 hb2
       have hg':Grew E M w w' M' (a.eval x) v' 1 (l++l').length ((l++l').map (Value.int k)):=by simpa using hg
       exact append_finish hdst hdt hI h1 h2 rfl hg' hg'.ints (hrunop v' w' hr) hxt hxs1 hxs2 hfin hK
     · cases hjoin
   · cases hjoin
 · split at hjoin
   · rename_i l l' hl hl'
     split at hjoin
     · rename_i hc
       obtain ⟨hb1,hb2⟩:=hc
       cases hjoin
       obtain ⟨hxl,hxn,vs,hvl,hvr,hxcells⟩:=hxr.rows_cells hes hl
       obtain ⟨hyl,hyn,us,hul,hur,hycells⟩:=sby.rows_cells hes hl'
       obtain ⟨v',w',M',hr,hg⟩:=run_append_tok (P:=P) hd0 hj hz' hjs hjb hzs hes hI.size hI.mb o.type hxt hxl hvl (hoff _ _ hvl hxcells) hyl hul hur.oneL hycells hb1 hb2
       have hg':Grew E M w w' M' (a.eval x) v' es (l++l').length (vs++us):=by simpa using hg
       refine append_finish hdst hdt hI h1 h2 rfl hg' (hg'.rows (by rw [List.flatten_append];exact hvr.app hur) (fun r hr'=>?_) (by simp [hvl,hul,Nat.add_mul]) hes) (hrunop v' w' hr) hxt hxs1 hxs2 hfin hK
       rcases List.mem_append.1 hr' with h | h
       · exact hxn r h
       · exact hyn r h
     · cases hjoin
   · cases hjoin
end Go.Slot

namespace Go.Slot
open Go Go.RowKit
variable {P:Program}
def OwnR (M:Nat→Nat→Prop) (w:World) (v:Value) (c:Cell):Prop:=
 ∃(b:Nat) (T:TypeId) (vs q:List Value) (cap:Nat),v=.slice (some ⟨b,0,none⟩) c.cnt cap∧w.heap[b]? = some (.cells (vs++q).toArray T (0,0))∧RdD (fun b' o=>M b' o∨b'=b) w vs c.flat∧
  c.uni∧c.cnt≤cap∧cap*c.esz≤vs.length+q.length∧∀ o,¬M b o
def RdR (M:Nat→Nat→Prop) (w:World) (v:Value):AV→Prop
 | .tup l=>∃ vs:List Value,v=.tuple vs.toArray∧RdBL M w vs l
 | .arr pre c post=>pre=[]∧post=none∧OwnR M w v c
 | av=>RdB M w v av
def Callable (P:Program) (f:FuncId):Prop:=∃ fn,P.funcs[f]? = some fn∧(fn.name == "runtime.NumGoroutine")=false∧fn.body.isNone=false
def Bounded (M:Nat→Nat→Prop) (w:World):Prop:=∀ b o,M b o→b<w.heap.size
def Back (M:Nat→Nat→Prop) (w:World) (res:AV):Ending→World→Prop:=fun e w'=>∃ v,e=.returned v∧Below w.heap.size w w'∧RdR M w' v res∧(res.holder=true→w.heap.size≤blk v)
def CallsTo (P:Program) (f:FuncId) (args:List AV) (res:AV):Prop:=
 Callable P f∧∀(M:Nat→Nat→Prop) (w:World) (vs:List Value),Bounded M w→RdBL M w vs args→Calls P f vs.toArray w (Back M w res)
def FnSpec (P:Program) (F:List AV→AV→Prop) (M:Nat→Nat→Prop) (w:World) (v:Value):Prop:=
 ∃ f caps,v=.func (.func f) #[] caps∧Callable P f∧∀ args res vs,F args res→Bounded M w→RdBL M w vs args→Calls P f (vs.toArray++caps) w (Back M w res)
def argA:AV→Option AV
 | .one c=>some (.one c.bare)
 | .agg cs=>some (.agg (bareL cs))
 | .elt cs=>some (.elt cs)
 | .any=>some .any
 | _=>none
def argsA (σ:List AV):List Operand→Option (List AV)
 | []=>some []
 | x::r=>match argA (opd σ x),argsA σ r with
  | some av,some l=>some (av::l)
  | _,_=>none
def orrL:List Operand→List Nat
 | []=>[]
 | x::r=>orr x++orrL r
theorem argA_ok {M:Nat→Nat→Prop} {w:World} {τ:Nat→TV} {tm:Array Value} {v:Value} {av b:AV} (h:argA av=some b) (hs:SlotOk M w τ tm v av):RdB M w v b:=by
 cases av with
 | one c=>cases h;exact RdT.bare hs
 | agg cs=>cases h;obtain ⟨vs,rfl,hr⟩:=hs;exact ⟨vs,rfl,hr.bare⟩
 | elt cs=>cases h;exact hs
 | any=>cases h;exact trivial
 | _=>cases h
theorem argsA_ok {E:Env} {τ:Nat→TV} {M:Nat→Nat→Prop} {σ:List AV} {a:Act} {w:World} (hI:RelI E τ M σ a w):∀(xs:List Operand) (args:List AV),argsA σ xs=some args→RdBL M w (xs.map a.eval) args
 | [],args,h=>by simp only [argsA,Option.some.injEq] at h;subst h;exact trivial
 | x::r,args,h=>by
  simp only [argsA] at h
  split at h
  · rename_i av l h1 h2
    cases h
    exact ⟨argA_ok h1 (hI.opd x),argsA_ok hI r l h2⟩
  · cases h
theorem argsA_congr {σ σ':List AV}:∀(xs:List Operand),(∀ x:Operand,(∀ t∈orr x,t∈orrL xs)→opd σ' x=opd σ x)→argsA σ' xs=argsA σ xs
 | [],_=>rfl
 | x::r,h=>by
  simp only [argsA]
  rw [h x (fun t ht=>by simp [orrL,ht]),argsA_congr r (fun y hy=>h y (fun t ht=>by simp [orrL,hy t ht]))]
theorem OwnR.slot {M:Nat→Nat→Prop} {w:World} {τ:Nat→TV} {tm:Array Value} {v:Value} {c:Cell} (h:OwnR M w v c):SlotOk (fun b o=>M b o∨b=blk v) w τ tm v (.arr [] c none)∧blk v<w.heap.size:=by
 obtain ⟨b,T,vs,q,cap,rfl,hb,hr,hu,h1,h2,_⟩:=h
 exact ⟨⟨b,T,vs,q,cap,rfl,by simpa using hb,hr,(by intro p hp;cases hp),hu,h1,h2⟩,(Array.getElem?_eq_some_iff.1 hb).1⟩
theorem OwnR.read {M:Nat→Nat→Prop} {w:World} {v:Value} {c:Cell} (h:OwnR M w v c):RdC M w v c:=by
 obtain ⟨b,T,vs,q,cap,rfl,hb,hr,hu,h1,h2,h3⟩:=h
 exact arr_read (pre:=[]) (by simpa using hb) (hr.keep (fun b' o u hm hc=>⟨fun h=>hm (.inl h),hc⟩)) hu h1 h3
theorem RdR.slot {M:Nat→Nat→Prop} {w:World} {τ:Nat→TV} {tm:Array Value} {v:Value} {av:AV} (hnh:av.holder=false) (h:RdR M w v av):SlotOk M w τ tm v av∧(∀ t,¬av.hasTok t)∧av.holder=false∧av.rf=none:=by
 cases av with
 | tup l=>exact ⟨h,fun t ht=>ht,rfl,rfl⟩
 | one c=>have:=RdB.slot (τ:=τ) (tm:=tm) (show RdB M w v (.one c) from h);exact ⟨this.1,this.2,rfl,rfl⟩
 | agg cs=>have:=RdB.slot (τ:=τ) (tm:=tm) (show RdB M w v (.agg cs) from h);exact ⟨this.1,this.2,rfl,rfl⟩
 | elt cs=>exact ⟨h,fun t ht=>ht,rfl,rfl⟩
 | any=>exact ⟨trivial,fun t ht=>ht,rfl,rfl⟩
 | undef=>exact ⟨h,fun t ht=>ht,rfl,rfl⟩
 | arr _ _ _=>cases hnh
 | _=>exact (show False from h).elim
theorem call_finish {o:Oper} {σ:List AV} {rd:List Nat} {res:AV} (hd:∀ d,o.dst=some d→d∈rd∧nh σ d=true)
 (hrun:∀(E:Env) (τ:Nat→TV) (M:Nat→Nat→Prop) (σ':List AV) (a:Act) (w:World),agree rd σ σ'→RelI E τ M σ' a w→
   ∃ f args,(execOp a.eval o).run P w=.ok (.enter f args) w∧Calls P f args w (Back M w res)):AStep P o σ rd [] (match o.dst with | some d=>[(d,res)] | none=>[]):=by
 intro E σ' a w hag _ ⟨τ,M,hI⟩ K Q hK
 obtain ⟨f,args,hr,hc⟩:=hrun E τ M σ' a w hag hI
 unfold Oper.wp
 rw [hr]
 show Calls P f args w _
 refine hc.mono ?_
 rintro e w' ⟨v,rfl,hb,hrd,hfr⟩
 show K (a.put o.dst v) w'
 cases hdst:o.dst with
 | none=>
  rw [hdst] at hK
  exact hK _ _ ⟨τ,M,hI.below hb⟩
 | some d=>
  rw [hdst] at hK
  obtain ⟨h1,h2⟩:=hd d hdst
  obtain ⟨old,h3,h4⟩:=nh_spec (hag.nh h1 h2)
  cases hh:res.holder with
  | false=>
   have hs:=hrd.slot (τ:=τ) (tm:=a.tmps) hh
   exact hK _ _ ⟨τ,M,(hI.below hb).put h3 h4 v res hs.2.2.1 hs.1 (fun s b hr=>by rw [hs.2.2.2] at hr;cases hr) (fun t ht=>absurd ht (hs.2.1 t))⟩
  | true=>
   cases res with
   | arr pre c post=>
    obtain ⟨rfl,rfl,how⟩:=hrd
    have hs:=how.slot (τ:=τ) (tm:=a.tmps)
    exact hK _ _ ⟨τ,_,hI.adopt hb h3 h4 v _ rfl rfl (hfr rfl) hs.2 hs.1 (fun t ht=>ht.elim)⟩
   | box _=>exact hrd.elim
   | obx _=>exact hrd.elim
   | _=>cases hh
theorem run_callFunc {f:FuncId} (h:Callable P f) (args:Array Value) (w:World):(callFunc f args).run P w=.ok (.enter f args) w:=by
 obtain ⟨fn,h1,h2,h3⟩:=h
 have h2':¬fn.name = "runtime.NumGoroutine" :=by simpa using h2
 have h3':¬fn.body=none:=fun e=>by rw [e] at h3;cases h3
 simp [callFunc,program,Sem.run,h1,h2',h3']
def dstRd (o:Oper):List Nat:=match o.dst with
 | some d=>[d]
 | none=>[]
def callEff (o:Oper) (res:AV):List (Nat×AV):=match o.dst with
 | some d=>[(d,res)]
 | none=>[]
def nhDst (σ:List AV) (o:Oper):Bool:=match o.dst with
 | some d=>nh σ d
 | none=>true
theorem sound_call {σ:List AV} {o:Oper} {f:FuncId} {xs:List Operand} {ts:Array TypeId} (ho:o.op=.call { callee:=.value (.func f),args:=xs.toArray,argTypes:=ts }) {args:List AV} (ha:argsA σ xs=some args)
 (hn:nhDst σ o=true) {res:AV} (hc:CallsTo P f args res):AStep P o σ (dstRd o++orrL xs) [] (callEff o res):=by
 refine call_finish (fun d hd=>⟨by simp [dstRd,hd],by simpa [nhDst,hd] using hn⟩) (fun E τ M σ' a w hag hI=>?_)
 have ha':argsA σ' xs=some args:=by rw [argsA_congr xs (fun x hx=>hag.opd (fun t ht=>by simp [hx t ht]))];exact ha
 refine ⟨f,(xs.map a.eval).toArray,?_,hc.2 M w _ hI.mb (argsA_ok hI xs args ha')⟩
 simp [execOp,ho,resolve,Deferred.ofValue,Act.eval,invoke,run_callFunc hc.1]
theorem sound_callv {σ:List AV} {o:Oper} {t:Nat} {f:FuncId} {xs:List Operand} {ts:Array TypeId} (ho:o.op=.call { callee:=.value (.tmp t),args:=xs.toArray,argTypes:=ts }) (ht:gt σ t=.one (.raw (.func (.func f) #[] #[])))
 {args:List AV} (ha:argsA σ xs=some args) (hn:nhDst σ o=true) {res:AV} (hc:CallsTo P f args res):AStep P o σ (dstRd o++t::orrL xs) [] (callEff o res):=by
 refine call_finish (fun d hd=>⟨by simp [dstRd,hd],by simpa [nhDst,hd] using hn⟩) (fun E τ M σ' a w hag hI=>?_)
 have ha':argsA σ' xs=some args:=by rw [argsA_congr xs (fun x hx=>hag.opd (fun t ht=>by simp [hx t ht]))];exact ha
 have hs:=hI.gt t
 rw [hag.2 t (by simp),ht] at hs
 have e:a.tmps.getD t Go.undef=.func (.func f) #[] #[]:=RdC.raw_inv hs
 refine ⟨f,(xs.map a.eval).toArray,?_,hc.2 M w _ hI.mb (argsA_ok hI xs args ha')⟩
 have he:a.eval (.tmp t)=.func (.func f) #[] #[]:=e
 simp [execOp,ho,resolve,Deferred.ofValue,he,invoke,run_callFunc hc.1]
theorem sound_callf {σ:List AV} {o:Oper} {t:Nat} {F:List AV→AV→Prop} {xs:List Operand} {ts:Array TypeId} (ho:o.op=.call { callee:=.value (.tmp t),args:=xs.toArray,argTypes:=ts }) (ht:gt σ t=.one (.fnp (FnSpec P F)))
 {args:List AV} (ha:argsA σ xs=some args) (hn:nhDst σ o=true) {res:AV} (hc:F args res):AStep P o σ (dstRd o++t::orrL xs) [] (callEff o res):=by
 refine call_finish (fun d hd=>⟨by simp [dstRd,hd],by simpa [nhDst,hd] using hn⟩) (fun E τ M σ' a w hag hI=>?_)
 have ha':argsA σ' xs=some args:=by rw [argsA_congr xs (fun x hx=>hag.opd (fun t ht=>by simp [hx t ht]))];exact ha
 have hs:=hI.gt t
 rw [hag.2 t (by simp),ht] at hs
 have hs:RdC M w (a.tmps.getD t Go.undef) (.fnp (FnSpec P F)):=hs
 generalize hv:a.tmps.getD t Go.undef=v at hs
 cases hs with
 | fnp h hp=>
  obtain ⟨f,caps,rfl,hcall,hspec⟩:=hp M w (fun _ _ _ h1 h2=>⟨h1,h2⟩)
  refine ⟨f,(xs.map a.eval).toArray++caps,?_,hspec args res _ hc hI.mb (argsA_ok hI xs args ha')⟩
  have he:a.eval (.tmp t)=.func (.func f) #[] caps:=hv
  simp [execOp,ho,resolve,Deferred.ofValue,he,invoke,run_callFunc hcall]
theorem RdBL.append {M:Nat→Nat→Prop} {w:World}:∀{vs:List Value} {l:List AV} {us:List Value} {r:List AV},RdBL M w vs l→RdBL M w us r→RdBL M w (vs++us) (l++r)
 | [],[],_,_,_,h=>h
 | _::_,_::_,_,_,h,h'=>⟨h.1,h.2.append h'⟩
theorem sound_makeFunc {σ:List AV} {o:Oper} {f:FuncId} {xs:List Operand} (ho:o.op=.makeFunc (.func f) #[] xs.toArray) {caps:List AV} (ha:argsA σ xs=some caps) {F:List AV→AV→Prop} (hcall:Callable P f)
 (hF:∀ args res,F args res→CallsTo P f (args++caps) res) {r:List Nat×List (Nat×AV)} (h:val σ o (orrL xs) (.one (.fnp (FnSpec P F)))=some r):AStep P o σ r.1 [] r.2:=by
 refine AStep.pure h rfl rfl (fun E τ M σ' a w hop hgt hI=>?_)
 have ha':argsA σ' xs=some caps:=by rw [argsA_congr xs hop];exact ha
 have hr:=argsA_ok hI xs caps ha'
 refine ⟨.func (.func f) #[] (xs.map a.eval).toArray,by simp [execOp,ho,Instr.makeFunc],RdC.fnp rfl (fun M' w' hk=>⟨f,_,rfl,hcall,fun args res vs hres hb hrd=>?_⟩),fun t ht=>ht.elim⟩
 have:=(hF args res hres).2 M' w' (vs++xs.map a.eval) hb (hrd.append (hr.keep hk))
 simpa using this
end Go.Slot
