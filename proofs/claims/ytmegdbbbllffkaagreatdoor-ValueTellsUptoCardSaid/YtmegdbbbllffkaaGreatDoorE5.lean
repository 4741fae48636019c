/- The proof, part E5: Mj. -/
import Derived.Test.YtmegdbbbllffkaaGreatDoorE4
namespace Go.Slot
open Go Go.RowKit
variable {P:Program}
variable {w:World} {E:Env} {M:Nat->Nat->Prop} {T e:TypeId} {i:TypeInfo} {m es:Nat} {xs news:List Value}
section
variable {E:Env} {τ:Nat->TV} {M:Nat->Nat->Prop} {I:List AV} {a:Act}
theorem RelI.grow {w':World} {M':Nat->Nat->Prop} (h:RelI E τ M I a w) {d:Nat} {old:AV} (hd:I[d]? = some old) (hnh:old.vy8=false) (hnl:¬live I d)
 (hk:ya3 M M' w w') (hm0:∀ b o,E.M b o->M' b o) (hmb:∀ b o,M' b o->b<w'.heap.size) (hsize:w.heap.size<=w'.heap.size) (hos:w'.os=w.os) (htape:w'.tape=w.tape) (hout:w'.output=w.output)
 (hfr:∀ k,k<E.N->w'.heap[k]? = w.heap[k]?)
 (hhold:∀ i av,I[i]? = some av->av.vy8=true->w'.heap[blk (a.tmps.getD i Go.undef)]? = w.heap[blk (a.tmps.getD i Go.undef)]?/\∀ o,M' (blk (a.tmps.getD i Go.undef)) o)
 (htoks:∀ t,live I t->xec E M' w' (τ t)) (v:Value) (c:Cell) (hv:xec E M' w' ⟨v,c.esz⟩) (hvh:∀ i av,I[i]? = some av->av.vy8=true->tokB v≠some (blk (a.tmps.getD i Go.undef)))
 (hvt:∀ t g,live I t->tokB (τ t).v=some g->tokB v≠some g) (hr:RdC M' w' v c) :
 RelI E (fun t=>if t=d then ⟨v,c.esz⟩ else τ t) M' (I.set d (.one (.tok d c))) (a.put (some d) v) w':=by
 have hlt:d<a.tmps.size:=h.lt hd
 have hns:∀(s:Nat) (b:Bool) (hv:AV),I[s]? = some hv->hv.fits b=true->d≠s:=fun s b hv hs hf e=>by
  subst e;rw [hd] at hs;cases hs;have:=AV.wht hf;rw [hnh] at this;cases this
 have hself:(a.tmps.setIfInBounds d v).getD d Go.undef=v:=by simp [hlt]
 have hne:∀ t,live I t->(if t=d then (⟨v,c.esz⟩:TV) else τ t)=τ t:=fun t ht=>if_neg (fun e=>hnl (by rw [<-e];exact ht))
 have hlive:∀ t,live (I.set d (.one (.tok d c))) t->t=d\/(t≠d/\live I t):=fun t ⟨i,x,hi,hx⟩=>by
  rcases getElem?_set_cases hi with ⟨_,rfl⟩ | ⟨_,hi⟩
  . rcases hx with hx | hx
    . exact .inl hx.symm
    . have:∀ c:Cell,RdC M' w' v c->¬c.vjg t:=fun c hc ht=>by
       cases c with
       | tok _ _=>exact hc.z3m
       | _=>exact ht
      exact absurd hx (this c hr)
  . by_cases e:t=d
    . exact .inl e
    . exact .inr ⟨e,i,x,hi,hx⟩
 refine RelI.mk h.hd (by simpa [Act.put] using h.hs) ?_ hm0 hmb ?_ ?_ ?_ ?_ ?_ ?_ (Nat.le_trans h.size hsize) (hos.trans h.os) (htape.trans h.tape) (hout.trans h.output) (fun k hk' hx=>(hfr k hk').trans (h.frame k hk' hx))
 . intro i x hi;show vi6 M' w' _ (a.tmps.setIfInBounds d v) ((a.tmps.setIfInBounds d v).getD i Go.undef) x
   rcases getElem?_set_cases hi with ⟨rfl,rfl⟩ | ⟨hne',hi⟩
   . rw [hself];exact ⟨⟨by simp,by simp⟩,hr⟩
   . rw [getD_set_ne (Ne.symm hne')];exact (h.slot i x hi).keep hk (fun t ht=>hne t ⟨i,x,hi,ht⟩) (fun s b hr=>by obtain ⟨hv,h1,h2⟩:=h.refs i x s b hi hr;exact getD_set_ne (hns s b hv h1 h2) v) (fun hh=>(hhold i x hi hh).1)
 . intro i x hi hh;show (∀ o',M' (blk ((a.tmps.setIfInBounds d v).getD i Go.undef)) o')/\(_<=blk ((a.tmps.setIfInBounds d v).getD i Go.undef)\/E.X (blk ((a.tmps.setIfInBounds d v).getD i Go.undef)))/\(_->_<=blk ((a.tmps.setIfInBounds d v).getD i Go.undef))/\(_->(a.tmps.setIfInBounds d v).getD i Go.undef=_)
   rcases getElem?_set_cases hi with ⟨rfl,rfl⟩ | ⟨hne',hi⟩
   . cases hh
   . rw [getD_set_ne (Ne.symm hne')];exact ⟨(hhold i x hi hh).2,(h.hold i x hi hh).2⟩
 . intro i j x y hi hj hx hy;show blk ((a.tmps.setIfInBounds d v).getD i Go.undef)=blk ((a.tmps.setIfInBounds d v).getD j Go.undef)->_
   rcases getElem?_set_cases hi with ⟨rfl,rfl⟩ | ⟨hne1,hi'⟩
   . cases hx
   . rcases getElem?_set_cases hj with ⟨rfl,rfl⟩ | ⟨hne2,hj'⟩
     . cases hy
     . rw [getD_set_ne (Ne.symm hne1),getD_set_ne (Ne.symm hne2)];exact h.inj i j x y hi' hj' hx hy
 . intro i x s b hi hr'
   have:∃ hv:AV,I[s]? = some hv/\hv.fits b=true:=by
    rcases getElem?_set_cases hi with ⟨rfl,rfl⟩ | ⟨hne',hi⟩
    . cases hr'
    . exact h.refs i x s b hi hr'
   obtain ⟨hv,h1,h2⟩:=this;exact ⟨hv,by rw [List.getElem?_set_ne (hns s b hv h1 h2)];exact h1,h2⟩
 . intro t ht
   rcases hlive t ht with rfl | ⟨hne',hl⟩
   . simpa using hv
   . rw [hne t hl];exact htoks t hl
 . intro t t' g ht ht' htt hg
   rcases hlive t ht with rfl | ⟨hne1,hl⟩
   . rcases hlive t' ht' with rfl | ⟨hne2,hl'⟩
     . exact absurd rfl htt
     . rw [hne t' hl'];simp only [if_true] at hg
       exact fun hg'=>hvt t' g hl' hg' hg
   . rw [hne t hl] at hg
     rcases hlive t' ht' with rfl | ⟨hne2,hl'⟩
     . simp only [if_true];exact hvt t g hl hg
     . rw [hne t' hl'];exact h.tinj t t' g hl hl' htt hg
 . intro t i x ht hi hx;show _≠some (blk ((a.tmps.setIfInBounds d v).getD i Go.undef))
   rcases getElem?_set_cases hi with ⟨rfl,rfl⟩ | ⟨hne',hi'⟩
   . cases hx
   . rw [getD_set_ne (Ne.symm hne')]
     rcases hlive t ht with rfl | ⟨hne1,hl⟩
     . simp only [if_true];exact hvh i x hi' hx
     . rw [hne t hl];exact h.tbox t i x hl hi' hx
end
structure Grew (E:Env) (M:Nat->Nat->Prop) (w w':World) (M':Nat->Nat->Prop) (v v':Value) (es n:Nat) (all:List Value):Prop where
 keeps:ya3 M M' w w'
 size:w.heap.size<=w'.heap.size
 os:w'.os=w.os
 tape:w'.tape=w.tape
 output:w'.output=w.output
 block:∀ k,k<w.heap.size->tokB v≠some k->w'.heap[k]? = w.heap[k]?
 mem:∀ b o,M b o->tokB v≠some b->M' b o
 mb:∀ b o,M' b o->b<w'.heap.size
 tok:xec E M' w' ⟨v',es⟩
 blk':∀ g,tokB v'=some g->tokB v=some g\/w.heap.size<=g
 cells:all=[]\/∃ g cap,v'=.slice (some ⟨g,0,none⟩) n cap/\n<=cap/\∀ j u,all[j]? = some u->¬M' g j/\w'.cell? ⟨g,j,none⟩=some u
 len:∃ ad cap,v'=.slice ad n cap/\n<=cap
theorem xd9 (hN:E.N<=w.heap.size) (hmb:∀ b o,M b o->b<w.heap.size) (v:Value) (e:TypeId) (es n cap:Nat) (all:List Value) (rest:Array Value)
 (_hes:0<es) (hall:all.length=n*es) (hcap:n<=cap) (hcm:cap<=maxLen) (hrest:rest.size=(cap-n)*es) :
 Grew E M w (w.drew.alloc (.cells (all.toArray++rest) e)) (fun b o=>M b o\/(b=w.heap.size/\n*es<=o)) v (.slice (some ⟨w.heap.size,0,none⟩) n cap) es n all:=by
 have hb:Below w.heap.size w (w.drew.alloc (.cells (all.toArray++rest) e)):=((Below.refl _ _).drew).alloc (Nat.le_refl _) _;have hheap:(w.drew.alloc (.cells (all.toArray++rest) e)).heap[w.heap.size]? = some (.cells (all.toArray++rest) e (0,0)):=zuf w.drew _;refine { keeps:=?_,size:=hb.size,os:=rfl,tape:=rfl,output:=rfl,block:=fun k hk _=>hb.block k hk,mem:=fun b o hm _=>.inl hm,mb:=?_,tok:=?_,blk':=?_,cells:=?_,len:=⟨_,_,rfl,hcap⟩ }
 . intro b o u hm hc;have hl:=World.block_lt_of_cell? w _ hc;exact ⟨fun hh=>hh.elim hm (fun hh=>by have:=hh.1;simp only at hl;omega),(ya3.below hb b o u hm hc).2⟩
 . rintro b o (hm | ⟨rfl,_⟩)
   . exact Nat.lt_of_lt_of_le (hmb b o hm) hb.size
   . simp
 . refine .inr ⟨e,n,all,⟨hall,.inr ⟨w.heap.size,cap,_,rfl,hN,hheap,hcap,hcm,?_,?_⟩⟩,fun g hg o ho=>?_⟩
   . simp only [Array.size_append,List.size_toArray,hall,hrest,<-Nat.add_mul]
     congr 1;omega
   . simp [<-hall]
   . simp [Value.ownBlock] at hg;exact .inr ⟨hg.symm,ho⟩
 . intro g hg
   cases cap with
   | zero=>simp [tokB] at hg
   | succ cap=>simp [tokB] at hg;exact .inr (by omega)
 . by_cases h0:all=[]
   . exact .inl h0
   . refine .inr ⟨w.heap.size,cap,rfl,hcap,fun j u hj=>⟨?_,?_⟩⟩
     . have hjl:j<all.length:=(List.getElem?_eq_some_iff.1 hj).1;rintro (hm | ⟨_,ho⟩)
       . have:=hmb _ _ hm;omega
       . omega
     . simp only [World.cell?,hheap];have hjl:j<all.length:=(List.getElem?_eq_some_iff.1 hj).1;simp [Array.getElem?_append,hjl];simpa [hjl] using hj
theorem zl6 (ht:P.underlying T=some (.slice e)) (hi:P.info? e=some i) (w:World) (ty:TypeId)
 (g Tb n cap:Nat) (cur:Array Value) (hg:w.heap[g]? = some (.cells cur Tb (0,0))) (m:Nat) (y:Value) (news:List Value) (hyv:∃ ad c,y=.slice ad m c) (_hl:news.length=m*i.size)
 (hf:(Builtin.firstCells i.size m y).run P w=.ok news.toArray w) (h1:∀ u∈news,u.oneCell'=true)
 (hroom:n+m<=cap) (hfit:n*i.size+news.length<=cur.size) :
 (Builtin.append_ #[T,T] ty #[.slice (some ⟨g,0,none⟩) n cap,y]).run P w =
   .ok (.slice (some ⟨g,0,none⟩) (n+m) cap) (w.setRow g (cur.toList.take (n*i.size)++news++cur.toList.drop (n*i.size+news.length)).toArray):=by
 obtain ⟨ad,c,rfl⟩:=hyv;have hst:=run_storeCells_at P g (n*i.size) Tb news 0 cur w hg (by simpa using hfit) h1;simp only [Nat.add_zero] at hst;simp [Builtin.append_,run_underlying ht,sizeOf,typeInfo,hi,Builtin.lenOf,hroom,hf,Addr.add_lit,hst]
theorem vfb (w:World) (m:Nat) (y:Value) (news:List Value) (hy:∃ ad cap,y=.slice ad m cap) (hnl:news.length=m*i.size)
 (hnews:news=[]\/∃ b off cap,y=.slice (some ⟨b,off,none⟩) m cap/\∀ j u,news[j]? = some u->w.cell? ⟨b,off+j,none⟩=some u) :
 (Builtin.firstCells i.size m y).run P w=.ok news.toArray w:=by
 rcases hnews with rfl | ⟨b,off,cap,rfl,hc⟩
 . obtain ⟨ad,cap,rfl⟩:=hy
   cases ad with
   | none=>simp [Builtin.firstCells]
   | some b=>
    simp only [List.length_nil] at hnl;simp [Builtin.firstCells,<-hnl,loadCells,loadCellsFrom]
 . exact run_firstCells_some w i.size m _ m cap news hnl (fun j v hj=>by rw [v1c];exact hc j v hj)
theorem vik (hmb:∀ b o,M b o->b<w.heap.size) {g Tb n cap:Nat} {cur:Array Value} (hbg:E.N<=g)
 (hg:w.heap[g]? = some (.cells cur Tb (0,0))) (hMg:∀ o,n*es<=o->M g o) (hxs:xs.length=n*es) (hxs':∀(j:Nat) (u:Value),xs[j]? = some u->cur[j]? = some u) (hnl:news.length=m*es) (hcs:cur.size=cap*es)
 (hroom:n+m<=cap) (hcap0:cap≠0) (hcm:cap<=maxLen) :
 Grew E M w (w.setRow g (cur.toList.take (n*es)++news++cur.toList.drop (n*es+news.length)).toArray) (fun b o=>M b o/\¬(b=g/\o<(n+m)*es)) (.slice (some ⟨g,0,none⟩) n cap)
  (.slice (some ⟨g,0,none⟩) (n+m) cap) es (n+m) (xs++news):=by
 have hall:(xs++news).length=(n+m)*es:=by rw [List.length_append,hxs,hnl,Nat.add_mul]
 have hfit:n*es+news.length<=cur.size:=by rw [hnl,hcs,<-Nat.add_mul];exact Nat.mul_le_mul_right _ hroom
 obtain ⟨cap,rfl⟩:∃ c,cap=c+1:=⟨cap-1,by omega⟩;generalize hnew:(cur.toList.take (n*es)++news++cur.toList.drop (n*es+news.length)).toArray=new;have hheap:(w.setRow g new).heap[g]? = some (.cells new Tb (0,0)):=setRow_heap w g cur new Tb (0,0) hg
 have hget1:∀ j,j<n*es->new[j]? = cur[j]?:=fun j hj=>by
  rw [<-hnew];simp only [List.getElem?_toArray,List.append_assoc];rw [List.getElem?_append_left (by simp;omega),List.getElem?_take,if_pos hj];simp
 have hsize:new.size=(cap+1)*es:=by
  rw [<-hnew];simp only [List.size_toArray,List.length_append,List.length_take,List.length_drop,Array.length_toList];omega
 have hget2:∀ j,j<news.length->new[n*es+j]? = news[j]?:=fun j hj=>by
  rw [<-hnew];simp only [List.getElem?_toArray,List.append_assoc];rw [List.getElem?_append_right (by simp;omega)]
  have e1:n*es+j-(List.take (n*es) cur.toList).length=j:=by
   simp only [List.length_take,Array.length_toList];omega
  rw [e1,List.getElem?_append_left hj]
 have hcells:∀(j:Nat) (u:Value),(xs++news)[j]? = some u->new[j]? = some u:=fun j u hj=>by
  by_cases hjx:j<xs.length
  . rw [hget1 j (by omega)];rw [List.getElem?_append_left hjx] at hj;exact hxs' j u hj
  . have hjl:=(List.getElem?_eq_some_iff.1 hj).1;rw [List.getElem?_append_right (by omega)] at hj
    have:=hget2 (j-xs.length) (by simp at hjl;omega)
    rw [hj] at this
    rwa [show n*es+(j-xs.length)=j by omega] at this
 refine { keeps := ?_, size := by simp, os := rfl, tape := rfl, output := rfl, block := fun k _ hk => setRow_other w g k _ (fun e' => hk (by simp [tokB, e'])), mem := fun b o hm hb => ⟨hm, fun h => hb (by rw [h.1]; rfl)⟩, mb := fun b o h => by simpa using hmb b o h.1,
          tok:=?_,blk':=fun g' hg'=>.inl (by simpa [tokB] using hg'),cells:=.inr ⟨g,cap+1,rfl,hroom,fun j u hj=>?_⟩,len:=⟨_,_,rfl,hroom⟩ }
 . intro b o u hm hc;refine ⟨fun h=>hm h.1,?_⟩;by_cases hbg':b=g
   . subst hbg';have ho:o<n*es:=Nat.lt_of_not_le (fun h=>hm (hMg o h));simp only [World.cell?,hheap];simp only [World.cell?,hg] at hc;rw [hget1 o ho];exact hc
   . rw [cell_setRow_other _ _ _ _ hbg'];exact hc
 . refine .inr ⟨Tb,n+m,xs++news,⟨hall,.inr ⟨g,cap+1,new,rfl,hbg,hheap,hroom,hcm,hsize,?_⟩⟩,fun g' hg' o ho=>?_⟩
   . apply List.ext_getElem?;intro j;rw [List.getElem?_take];by_cases hj:j<(n+m)*es
     . rw [if_pos hj]
       have hjx:j<(xs++news).length:=by omega
       rw [Array.getElem?_toList,hcells j _ (List.getElem?_eq_getElem hjx),List.getElem?_eq_getElem hjx]
     . rw [if_neg hj,List.getElem?_eq_none (by omega)]
   . simp [Value.ownBlock] at hg';subst hg';have ho2:(n+m)*es<=o:=ho;refine ⟨hMg o ?_,fun h=>by omega⟩;have ho:(n+m)*es<=o:=ho;rw [Nat.add_mul] at ho;omega
 . have hjl:j<(xs++news).length:=(List.getElem?_eq_some_iff.1 hj).1;rw [hall] at hjl;refine ⟨fun h=>h.2 ⟨rfl,hjl⟩,?_⟩;simp only [World.cell?,hheap];exact hcells j u hj
theorem vky {eb:Nat} {z:Value} (ht:P.underlying T=some (.slice e)) (hi:P.info? e=some i) (hz:i.zero=some z) (hsz:i.size=es) (hby:i.bytes=eb) (hzs:z.cells.size=es) (hes:0<es)
 (hN:E.N<=w.heap.size) (hmb:∀ b o,M b o->b<w.heap.size) (ty:TypeId) {v:Value} (hv:xec E M w ⟨v,es⟩) {n:Nat} (hlen:∃ ad cap,v=.slice ad n cap)
 (hxs:xs.length=n*es) (hx:xs=[]\/∃ g cap,v=.slice (some ⟨g,0,none⟩) n cap/\∀ j u,xs[j]? = some u->¬M g j/\w.cell? ⟨g,j,none⟩=some u)
 {y:Value} (hy:∃ ad cap,y=.slice ad m cap) (hnl:news.length=m*es) (hn1:∀ u∈news,u.oneCell'=true)
 (hnews:news=[]\/∃ b off cap,y=.slice (some ⟨b,off,none⟩) m cap/\∀ j u,news[j]? = some u->¬M b (off+j)/\w.cell? ⟨b,off+j,none⟩=some u)
 (hbound:(n+m)*eb<=140737488355328) (h63:n+m<=9223372036854775807) :
 ∃ v' w' M',(Builtin.append_ #[T,T] ty #[v,y]).run P w=.ok v' w'/\Grew E M w w' M' v v' es (n+m) (xs++news):=by
 subst hsz;subst hby
 have hall:(xs++news).length=(n+m)*i.size:=by rw [List.length_append,hxs,hnl,Nat.add_mul]
 have hf:(Builtin.firstCells i.size m y).run P w=.ok news.toArray w:=vfb w m y news hy hnl (hnews.imp id fun ⟨b,off,cap,e,h⟩=>⟨b,off,cap,e,fun j u hj=>(h j u hj).2⟩);have hfd:(Builtin.firstCells i.size m y).run P w.drew=.ok news.toArray w.drew:=vfb w.drew m y news hy hnl (hnews.imp id fun ⟨b,off,cap,e,h⟩=>⟨b,off,cap,e,fun j u hj=>(h j u hj).2⟩);obtain ⟨ad0,cap0,hv0⟩:=hlen;have hfo:(Builtin.firstCells i.size n v).run P w.drew=.ok xs.toArray w.drew:=vfb w.drew n v xs ⟨_,_,hv0⟩ hxs (hx.imp id fun ⟨g,cap,e,h⟩=>⟨g,0,cap,e,fun j u hj=>by rw [Nat.zero_add];exact (h j u hj).2⟩);obtain ⟨yad,ycap,rfl⟩:=hy;have growth:∀ old,v=.slice ad0 n old->old<n+m->
  ∃ v' w' M',(Builtin.append_ #[T,T] ty #[v,.slice yad m ycap]).run P w=.ok v' w'/\Grew E M w w' M' v v' i.size (n+m) (xs++news):=fun old hvo ho=>by
  have hge:=grownCap_ge w (n+m) old e;have hcm:grownCap w (n+m) old e<=maxLen:=grownCap_le_maxLen w (n+m) old e (by unfold maxLen;omega);refine ⟨.slice (some ⟨w.heap.size,0,none⟩) (n+m) (grownCap w (n+m) old e),_,_,?_,xd9 hN hmb v e i.size (n+m) (grownCap w (n+m) old e) (xs++news) (Builtin.zeroCells z.cells (grownCap w (n+m) old e-(n+m))) hes hall hge hcm (by rw [size_zeroCells,hzs])⟩
  have hn:¬(n+m<=old):=by omega
  have h63':¬(9223372036854775807<((n:Int)+(m:Int))):=by omega
  have hfit:=growslice_fits (need:=n+m) (old:=old) (bytes:=i.bytes) ho hbound
  have h48':¬(281474976710656<Builtin.nextslicecap (n+m) old*i.bytes):=by omega
  rw [hvo] at hfo ⊢;simp [Builtin.append_,run_underlying ht,sizeOf,typeInfo,zeroValue,hi,hz,Builtin.lenOf,hn,h63',h48',Question.forced,hfd,hfo,newRow,grownCap]
  congr 2
  apply Array.ext';simp [List.append_assoc]
 by_cases hzero:∃ ad,v=.slice ad 0 0
 ·
  obtain ⟨ad,hva⟩:=hzero
  have hn00:n=0:=by rw [hva] at hv0;cases hv0;rfl
  subst hn00;by_cases hm:m=0
  . subst hm;have hx0:xs=[]:=List.eq_nil_of_length_eq_zero (by simpa using hxs);have hn0:news=[]:=List.eq_nil_of_length_eq_zero (by simpa using hnl);subst hx0;subst hn0;refine ⟨.slice ad 0 0,w,M,?_,?_⟩
    . rw [hva]
      cases ad with
      | none=>simp [Builtin.append_,run_underlying ht,sizeOf,typeInfo,hi,Builtin.lenOf,hf]
      | some b=>simp [Builtin.append_,run_underlying ht,sizeOf,typeInfo,hi,Builtin.lenOf,hf,storeCells]
    . exact { keeps := fun _ _ _ h1 h2 => ⟨h1, h2⟩, size := Nat.le_refl _, os := rfl, tape := rfl, output := rfl, block := fun _ _ _ => rfl, mem := fun _ _ h _ => h, mb := hmb, tok := .inl ⟨ad, rfl⟩,
              blk':=fun g hg=>by cases ad<;>simp [tokB] at hg,cells:=.inl rfl,len:=⟨_,_,rfl,Nat.le_refl _⟩ }
  . have:ad0=ad:=by rw [hva] at hv0;cases hv0;rfl
    exact growth 0 (by rw [this];exact hva) (by omega)
 . rcases hv with hv | ⟨Tb,n',xs',hown,hMg⟩
   . exact absurd hv hzero
   have hown:w.ownsRow E.N Tb i.size v n' xs':=hown;have hMg:∀ g,v.ownBlock=some g->∀ o,n'*i.size<=o->M g o:=hMg
   rcases hown.2 with ⟨hva,hn'⟩ | ⟨g,cap,cur,hva,hbg,hg,hnc,hcm,hcs,htake⟩
   . exact absurd ⟨none,hva⟩ hzero
   . have hnn:n'=n:=by rw [hva] at hv0;cases hv0;rfl
     subst hnn
     have had:ad0=some ⟨g,0,none⟩:=by rw [hva] at hv0;cases hv0;rfl
     by_cases hroom:n'+m<=cap
     . have hfit:n'*i.size+news.length<=cur.size:=by rw [hnl,hcs,<-Nat.add_mul];exact Nat.mul_le_mul_right _ hroom
       have hrun:=zl6 (P:=P) ht hi w ty g Tb n' cap cur hg m _ news ⟨_,_,rfl⟩ hnl hf hn1 hroom hfit
       have hcap0:cap≠0:=fun h0=>hzero ⟨_,by rw [hva,h0,show n'=0 by omega]⟩
       have hxs':∀(j:Nat) (u:Value),xs[j]? = some u->cur[j]? = some u:=fun j u hj=>by
        rcases hx with rfl | ⟨g',cap',e1,hc⟩
        . simp at hj
        . rw [hva] at e1
          cases e1
          have:=(hc j u hj).2
          simpa [World.cell?,hg] using this
       have hgrew:=vik (E:=E) hmb hbg hg (hMg g (by rw [hva];rfl)) hxs hxs' hnl hcs hroom hcap0 hcm;rw [hva];exact ⟨_,_,_,hrun,hgrew⟩
     . exact growth cap (by rw [had];exact hva) (by omega)
end Go.Slot
