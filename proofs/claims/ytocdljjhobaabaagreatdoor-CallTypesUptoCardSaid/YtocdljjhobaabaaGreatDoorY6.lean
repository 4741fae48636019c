/- The proof, part Y6: Mt, Mu, Mv, Mw, Mo. -/
import Derived.Test.YtocdljjhobaabaaGreatDoorY5
namespace Go.Slot
open Go Go.RowKit
variable {P:Program}
def ch (a0 a1 a2 a3 a4 a5 a6 a7 a8 a9 a10 a11 a12 a13 a14 a15:AV) (r:List AV):List AV:=a0::a1::a2::a3::a4::a5::a6::a7::a8::a9::a10::a11::a12::a13::a14::a15::r
def AV.frzd:AV->AV
 | .box cs=>.elt (yf8 cs)
 | .arr _ c none=>.one c
 | av=>av
def vek (s:Nat) (hv:AV) (i:Nat) (av:AV):AV:=
 if i=s then hv.frzd else match av with
 | .ptr s' off=>if s'=s then (match hv with | .box cs=>.elt (yf8 (cs.drop off)) | _=>.any) else av
 | .asl s'=>if s'=s then (match hv with | .arr _ c none=>.one c | _=>.any) else av
 | .awn s' m lo n=>if s'=s then (match hv with | .arr _ c none=>if lo+n<=c.cnt/\m=c.esz then .one (c.sub lo n) else .any | _=>.any) else av
 | .pel s' m i f=>if s'=s then (match hv with | .arr _ c none=>if m=c.esz then (match c.at i f with | some cs=>.elt cs | none=>.any) else .any | _=>.any) else av
 | _=>av
def xlm (s:Nat) (hv:AV):Nat->List AV->List AV
 | _,[]=>[]
 | i,av::r=>vek s hv i av::xlm s hv (i+1) r
def hitB (s i:Nat) (av:AV):Bool:=if i=s then true else match av.rf with
 | some (s',_)=>s'==s
 | none=>false
def ve8 (s i:Nat) (av:AV):AV:=if hitB s i av=true then .any else av
def zku (s:Nat):Nat->List AV->List AV
 | _,[]=>[]
 | i,av::r=>ve8 s i av::zku s (i+1) r
def yov (s:Nat) (σ:List AV):List AV:=zku s 0 σ
theorem v2r (s:Nat):∀(k:Nat) (σ:List AV) (i:Nat),(zku s k σ)[i]? = (σ[i]?).map (ve8 s (k+i))
 | _,[],i=>by simp [zku]
 | k,av::r,0=>by simp [zku]
 | k,av::r,i+1=>by
  simp only [zku,List.getElem?_cons_succ];rw [v2r s (k+1) r i,show k+1+i=k+(i+1) by omega]
theorem vfj (s:Nat):∀(k:Nat) (σ:List AV),(zku s k σ).length=σ.length
 | _,[]=>rfl
 | k,av::r=>by simp [zku,vfj s (k+1) r]
theorem wx9 (s:Nat) (σ:List AV):(yov s σ).length=σ.length:=vfj s 0 σ
theorem xx2 {s:Nat} {σ:List AV} {i:Nat} {y:AV} (h:(yov s σ)[i]? = some y):∃ x,σ[i]? = some x/\y=ve8 s i x:=by
 unfold yov at h;rw [v2r] at h;simp only [Nat.zero_add,Option.map_eq_some_iff] at h;obtain ⟨x,hx,rfl⟩:=h;exact ⟨x,hx,rfl⟩
theorem wln (s i:Nat) (x:AV):(ve8 s i x=.any)\/(ve8 s i x=x/\i≠s/\∀ s' b,x.rf=some (s',b)->s'≠s):=by
 unfold ve8
 split
 . exact .inl rfl
 . rename_i h;unfold hitB at h;split at h
   . exact absurd rfl h
   . rename_i hne;refine .inr ⟨rfl,hne,fun s' b e=>?_⟩;rw [e] at h;simpa using h
theorem RelI.yov {E:Env} {τ:Nat->TV} {M:Nat->Nat->Prop} {σ:List AV} {a:Act} {w:World} (h:RelI E τ M σ a w) (s:Nat):RelI E τ M (Go.Slot.yov s σ) a w:=by
 have hlive:∀ t,live (Go.Slot.yov s σ) t->live σ t:=fun t ⟨i,y,hi,hy⟩=>by
  obtain ⟨x,hx,rfl⟩:=xx2 hi
  rcases wln s i x with e | ⟨e,_⟩
  . rw [e] at hy;exact hy.elim
  . rw [e] at hy;exact ⟨i,x,hx,hy⟩
 have hh:∀(i:Nat) (y:AV),(Go.Slot.yov s σ)[i]? = some y->y.xeo=true->σ[i]? = some y:=fun (i:Nat) (y:AV) hi hy=>by
  obtain ⟨x,hx,rfl⟩:=xx2 hi
  rcases wln s i x with e | ⟨e,_⟩
  . rw [e] at hy;cases hy
  . rw [e];exact hx
 refine RelI.mk h.hd (by rw [wx9];exact h.hs) ?_ h.m0 h.mb (fun i y hi hy=>h.hold i y (hh i y hi hy) hy) (fun i j y z hi hj hy hz=>h.inj i j y z (hh i y hi hy) (hh j z hj hz) hy hz) ?_
  (fun t ht=>h.toks t (hlive t ht)) (fun t t' g ht ht'=>h.tinj t t' g (hlive t ht) (hlive t' ht')) (fun t i y ht hi hy=>h.tbox t i y (hlive t ht) (hh i y hi hy) hy) h.size h.os h.tape h.output h.frame
 . intro i y hi;obtain ⟨x,hx,rfl⟩:=xx2 hi
   rcases wln s i x with e | ⟨e,_⟩
   . rw [e];exact trivial
   . rw [e];exact h.slot i x hx
 . intro i y s' b hi hr;obtain ⟨x,hx,rfl⟩:=xx2 hi
   rcases wln s i x with e | ⟨e,hne,hrf⟩
   . rw [e] at hr;cases hr
   . rw [e] at hr;obtain ⟨hv,h1,h2⟩:=h.refs i x s' b hx hr;have hs':=hrf s' b hr;refine ⟨hv,?_,h2⟩;unfold Go.Slot.yov;rw [v2r,h1];simp only [Nat.zero_add,Option.map_some,Option.some.injEq]
     have:hv.rf=none:=by cases hv<;>first | rfl | (cases b<;>cases h2)
     unfold ve8 hitB;rw [if_neg hs',this];simp
theorem RelI.take {E:Env} {τ:Nat->TV} {M:Nat->Nat->Prop} {σ:List AV} {a:Act} {w:World} (h:RelI E τ M σ a w) {d:Nat} {old:AV} (hd:σ[d]? = some old) (hnh:old.xeo=false) (v:Value) (av:AV) (hav:av.xeo=true) (hfrs:av.fresh=true)
 (hN:E.N<=blk v) (hM:∀ o,M (blk v) o) (hfree:∀(i:Nat) (x:AV),σ[i]? = some x->x.xeo=true->blk (a.tmps.getD i Go.undef)≠blk v) (hfreet:∀ t,live σ t->tokB (τ t).v≠some (blk v))
 (hok:x5d M w τ a.tmps v av) (htok:∀ t,av.y1a t->live σ t):RelI E τ M (σ.set d av) (a.put (some d) v) w:=by
 have hlt:d<a.tmps.size:=h.lt hd
 have hns:∀(s:Nat) (b:Bool) (hv:AV),σ[s]? = some hv->hv.fits b=true->d≠s:=fun s b hv hs hf e=>by
  subst e;rw [hd] at hs;cases hs;have:=AV.vgj hf;rw [hnh] at this;cases this
 have hself:(a.tmps.setIfInBounds d v).getD d Go.undef=v:=by simp [hlt]
 have hlive:∀ t,live (σ.set d av) t->live σ t:=fun t ⟨i,x,hi,hx⟩=>by
  rcases getElem?_set_cases hi with ⟨_,rfl⟩ | ⟨_,hi⟩
  . exact htok t hx
  . exact ⟨i,x,hi,hx⟩
 refine RelI.mk h.hd (by simpa [Act.put] using h.hs) ?_ h.m0 h.mb ?_ ?_ ?_ (fun t ht=>h.toks t (hlive t ht)) (fun t t' g ht ht'=>h.tinj t t' g (hlive t ht) (hlive t' ht')) ?_ h.size h.os h.tape h.output h.frame
 . intro i x hi;show x5d _ w τ (a.tmps.setIfInBounds d v) ((a.tmps.setIfInBounds d v).getD i Go.undef) x
   rcases getElem?_set_cases hi with ⟨rfl,rfl⟩ | ⟨hne,hi⟩
   . rw [hself];exact hok.keep (fun _ _ _ h1 h2=>⟨h1,h2⟩) (fun _ _=>rfl) (fun s b hr=>by cases x<;>simp [AV.rf,AV.xeo] at hr hav) (fun _=>rfl)
   . rw [getD_set_ne (Ne.symm hne)];exact (h.slot i x hi).keep (fun _ _ _ h1 h2=>⟨h1,h2⟩) (fun _ _=>rfl) (fun s b hr=>by obtain ⟨hv,h1,h2⟩:=h.refs i x s b hi hr;exact getD_set_ne (hns s b hv h1 h2) v) (fun _=>rfl)
 . intro i x hi hh;show (∀ o',M (blk ((a.tmps.setIfInBounds d v).getD i Go.undef)) o')/\(_<=blk ((a.tmps.setIfInBounds d v).getD i Go.undef)\/E.X (blk ((a.tmps.setIfInBounds d v).getD i Go.undef)))/\(_->_<=blk ((a.tmps.setIfInBounds d v).getD i Go.undef))/\(_->(a.tmps.setIfInBounds d v).getD i Go.undef=_)
   rcases getElem?_set_cases hi with ⟨rfl,rfl⟩ | ⟨hne,hi⟩
   . rw [hself];exact ⟨hM,.inl hN,fun _=>hN,fun e=>by rw [hfrs] at e;cases e⟩
   . rw [getD_set_ne (Ne.symm hne)];exact h.hold i x hi hh
 . intro i j x y hi hj hx hy;show blk ((a.tmps.setIfInBounds d v).getD i Go.undef)=blk ((a.tmps.setIfInBounds d v).getD j Go.undef)->_
   rcases getElem?_set_cases hi with ⟨rfl,rfl⟩ | ⟨hne,hi'⟩
   . rcases getElem?_set_cases hj with ⟨rfl,rfl⟩ | ⟨hne',hj⟩
     . exact fun _=>rfl
     . rw [hself,getD_set_ne (Ne.symm hne')]
       exact fun e=>absurd e.symm (hfree j y hj hy)
   . rcases getElem?_set_cases hj with ⟨rfl,rfl⟩ | ⟨hne',hj⟩
     . rw [hself,getD_set_ne (Ne.symm hne)]
       exact fun e=>absurd e (hfree i x hi' hx)
     . rw [getD_set_ne (Ne.symm hne),getD_set_ne (Ne.symm hne')];exact h.inj i j x y hi' hj hx hy
 . intro i x s b hi hr
   have:∃ hv:AV,σ[s]? = some hv/\hv.fits b=true:=by
    rcases getElem?_set_cases hi with ⟨rfl,rfl⟩ | ⟨hne,hi⟩
    . cases x<;>simp [AV.rf,AV.xeo] at hr hav
    . exact h.refs i x s b hi hr
   obtain ⟨hv,h1,h2⟩:=this;exact ⟨hv,by rw [List.getElem?_set_ne (hns s b hv h1 h2)];exact h1,h2⟩
 . intro t i x ht hi hx;show _≠some (blk ((a.tmps.setIfInBounds d v).getD i Go.undef))
   rcases getElem?_set_cases hi with ⟨rfl,rfl⟩ | ⟨hne,hi⟩
   . rw [hself];exact hfreet t (hlive t ht)
   . rw [getD_set_ne (Ne.symm hne)];exact h.tbox t i x (hlive t ht) hi hx
structure wuw (b:Nat) (w w':World):Prop where
 os:w'.os=w.os
 tape:w'.tape=w.tape
 output:w'.output=w.output
 size:w.heap.size<=w'.heap.size
 block:∀ k,k<w.heap.size->k≠b->w'.heap[k]? = w.heap[k]?
theorem wuw.keeps {b:Nat} {w w':World} (h:wuw b w w') {M:Nat->Nat->Prop} (hM:∀ o,M b o):xhx M M w w':=fun b' o u hm hc=>⟨hm,by
 have hl:=World.block_lt_of_cell? w _ hc
 have:=h.block b' hl (fun e=>hm (by rw [e];exact hM o))
 simp only [World.cell?,this] at hc ⊢
 exact hc⟩
theorem RelI.turn {E:Env} {τ:Nat->TV} {M:Nat->Nat->Prop} {σ:List AV} {a:Act} {w w':World} (h:RelI E τ M σ a w) {s:Nat} {old new:AV} (hs:σ[s]? = some old) (ho:old.xeo=true) (hn:new.xeo=true)
 (hf:∀ b,old.fits b=true->new.fits b=true) (hfr:new.fresh=old.fresh) (hbx:wuw (blk (a.tmps.getD s Go.undef)) w w') (hok:x5d M w' τ a.tmps (a.tmps.getD s Go.undef) new)
 (htok:∀ t,new.y1a t->live σ t):RelI E τ M (σ.set s new) a w':=by
 generalize hb:blk (a.tmps.getD s Go.undef)=b at *;have hM:∀ o,M b o:=hb▸(h.hold s old hs ho).1;have hk:xhx M M w w':=hbx.keeps hM
 have hlive:∀ t,live (σ.set s new) t->live σ t:=fun t ⟨i,x,hi,hx⟩=>by
  rcases getElem?_set_cases hi with ⟨_,rfl⟩ | ⟨_,hi⟩
  . exact htok t hx
  . exact ⟨i,x,hi,hx⟩
 refine RelI.mk h.hd (by simpa using h.hs) ?_ h.m0 (fun b o hm=>Nat.lt_of_lt_of_le (h.mb b o hm) hbx.size) ?_ ?_ ?_ ?_ ?_ ?_ (Nat.le_trans h.size hbx.size) (hbx.os.trans h.os) (hbx.tape.trans h.tape) (hbx.output.trans h.output) ?_
 . intro i x hi
   rcases getElem?_set_cases hi with ⟨rfl,rfl⟩ | ⟨hne,hi⟩
   . exact hok
   . refine (h.slot i x hi).keep hk (fun _ _=>rfl) (fun _ _ _=>rfl) (fun hh=>hbx.block _ ((h.slot i x hi).y87 hh) ?_)
     exact fun e=>hne (h.inj i s x old hi hs hh ho (e.trans hb.symm))
 . intro i x hi hh
   rcases getElem?_set_cases hi with ⟨rfl,rfl⟩ | ⟨hne,hi⟩
   . exact hfr▸h.hold i old hs ho
   . exact h.hold i x hi hh
 . intro i j x y hi hj hx hy
   have key:∀(i:Nat) (x:AV),(σ.set s new)[i]? = some x->x.xeo=true->∃ x':AV,σ[i]? = some x'/\x'.xeo=true:=fun i x hi hx=>by
    rcases getElem?_set_cases hi with ⟨rfl,rfl⟩ | ⟨hne,hi⟩
    . exact ⟨old,hs,ho⟩
    . exact ⟨x,hi,hx⟩
   obtain ⟨x',hi',hx'⟩:=key i x hi hx;obtain ⟨y',hj',hy'⟩:=key j y hj hy;exact h.inj i j x' y' hi' hj' hx' hy'
 . intro i x s' b' hi hr
   have:∃ hv:AV,σ[s']? = some hv/\hv.fits b'=true:=by
    rcases getElem?_set_cases hi with ⟨rfl,rfl⟩ | ⟨hne,hi⟩
    . cases x<;>simp [AV.rf,AV.xeo] at hr hn
    . exact h.refs i x s' b' hi hr
   obtain ⟨hv,h1,h2⟩:=this;by_cases e:s'=s
   . subst e;rw [hs] at h1;cases h1;have hl:s'<σ.length:=(List.getElem?_eq_some_iff.1 hs).1;exact ⟨new,by simp [hl],hf _ h2⟩
   . exact ⟨hv,by rw [List.getElem?_set_ne (Ne.symm e)];exact h1,h2⟩
 . intro t ht
   rcases h.toks t (hlive t ht) with h' | ⟨e,n,xs,hown,hm⟩
   . exact .inl h'
   . rcases hown.2 with ⟨h1,_⟩ | ⟨g,cap,cur,hv,hg,hh,hnc,r⟩
     . exact .inl ⟨none,h1⟩
     . cases cap with
       | zero=>exact .inl ⟨some ⟨g,0,none⟩,by rw [hv];simp at hnc;rw [hnc]⟩
       | succ cap=>
        refine .inr ⟨e,n,xs,⟨hown.1,.inr ⟨g,cap+1,cur,hv,hg,?_,hnc,r⟩⟩,hm⟩;rw [hbx.block g (Array.getElem?_eq_some_iff.1 hh).1]
        . exact hh
        . rintro rfl;exact h.tbox t s old (hlive t ht) hs ho (by rw [hv,hb];rfl)
 . exact fun t t' g ht ht'=>h.tinj t t' g (hlive t ht) (hlive t' ht')
 . intro t i x ht hi hx
   rcases getElem?_set_cases hi with ⟨rfl,rfl⟩ | ⟨hne,hi⟩
   . exact h.tbox t i old (hlive t ht) hs ho
   . exact h.tbox t i x (hlive t ht) hi hx
 . intro k hk' hx;rw [hbx.block k (Nat.lt_of_lt_of_le hk' h.size)]
   . exact h.frame k hk' hx
   . rintro rfl
     rcases (h.hold s old hs ho).2.1 with h1 | h1
     . rw [hb] at h1;omega
     . rw [hb] at h1;exact hx h1
inductive OV where
 | bx (cs:List Cell)
 | wn (c:Cell) (lo n:Nat)
def wyi (σ:List AV) (x:Operand):Option (Nat×OV):=match x with
 | .tmp t=>match gt σ t with
  | .box cs=>some (t,.bx (yf8 cs))
  | .obx cs=>some (t,.bx (yf8 cs))
  | .ptr s off=>if off=0 then match gt σ s with
   | .box cs=>some (s,.bx (yf8 cs))
   | .obx cs=>some (s,.bx (yf8 cs))
   | _=>none
   else none
  | .arr _ c _=>some (t,.wn c 0 c.cnt)
  | .asl s=>match gt σ s with
   | .arr _ c _=>some (s,.wn c 0 c.cnt)
   | _=>none
  | .awn s m lo n=>match gt σ s with
   | .arr _ c _=>if m=c.esz/\lo+n<=c.cnt/\(n≠0\/lo=0) then some (s,.wn c lo n) else none
   | _=>none
  | _=>none
 | _=>none
def xk7 (σ:List AV) (x:Operand):List Nat:=match wyi σ x with
 | some (s,_)=>s::orr x
 | none=>orr x
def wu1 (σ:List AV):List Operand->Option (List AV×Nat×Nat×OV)
 | []=>none
 | x::r=>match wyi σ x with
  | some (s,ov)=>match zk4 σ r with
   | some l=>some (.any::l,0,s,ov)
   | none=>none
  | none=>match argA (opd σ x),wu1 σ r with
   | some av,some (l,j,s,ov)=>some (av::l,j+1,s,ov)
   | _,_=>none
def yg5 (s:Nat):Nat->List AV->List (Nat×AV)
 | _,[]=>[]
 | i,av::r=>if hitB s i av=true then (i,.any)::yg5 s (i+1) r else yg5 s (i+1) r
theorem w8z (s:Nat):∀(σ:List AV) (k:Nat) (p:Nat×AV),p∈yg5 s k σ->k<=p.1
 | [],_,p,h=>by cases h
 | av::r,k,p,h=>by
  have ih:=w8z s r (k+1) p;unfold yg5 at h;split at h
  . rcases List.mem_cons.1 h with rfl | h
    . exact Nat.le_refl _
    . exact Nat.le_of_succ_le (ih h)
  . exact Nat.le_of_succ_le (ih h)
theorem z1d (s:Nat):∀(σ:List AV) (k i:Nat),i<σ.length->
 ((yg5 s k σ).reverse.find? (fun p=>p.1==k+i))=if hitB s (k+i) (gt σ i)=true then some (k+i,AV.any) else none
 | [],_,i,h=>by simp at h
 | av::r,k,i,h=>by
  have none_of:(yg5 s (k+1) r).reverse.find? (fun p=>p.1==k)=none:=by
   rw [List.find?_eq_none];intro p hp
   have:=w8z s r (k+1) p (List.mem_reverse.1 hp)
   simp only [beq_iff_eq];omega
  cases i with
  | zero=>
   have hg:gt (av::r) 0=av:=rfl;rw [hg,Nat.add_zero];unfold yg5
   split
   . rw [List.reverse_cons,List.find?_append,none_of];simp
   . exact none_of
  | succ i=>
   have ih:=z1d s r (k+1) i (by simpa using h);have hg:gt (av::r) (i+1)=gt r i:=rfl;rw [hg,show k+(i+1)=k+1+i by omega,<-ih]
   have hd:yg5 s k (av::r)=if hitB s k av=true then (k,.any)::yg5 s (k+1) r else yg5 s (k+1) r:=rfl
   rw [hd]
   split
   . rw [List.reverse_cons,List.find?_append];simp [show ¬k=k+1+i by omega]
   . rfl
theorem v9o (s:Nat) (σ:List AV):app (yg5 s 0 σ) σ=yov s σ:=by
 apply y8c (by rw [v7o,wx9]);intro i hi;rw [v7o] at hi;have h1:=ze6 (yg5 s 0 σ) σ i hi;have h2:=z1d s σ 0 i hi;simp only [Nat.zero_add] at h2
 have h3:gt (yov s σ) i=ve8 s i (gt σ i):=by
  unfold yov Slot.gt;rw [v2r]
  cases hh:σ[i]? with
  | none=>rw [List.getElem?_eq_none_iff] at hh;omega
  | some x=>simp
 rw [h1,h2,h3];unfold ve8
 split<;>rfl
theorem y4x {s i:Nat}:yg5 s i []=[]:=rfl
theorem y00 {tk:List Nat} {i:Nat}:xv8 tk i []=[]:=rfl
theorem yoe {T e:TypeId} {i:TypeInfo} {z:Value} (ht:P.underlying T=some (.slice e)) (hi:P.info? e=some i) (hz:i.zero=some z) (w:World) (ty:TypeId) {ad0:Option Addr} {n old:Nat} {xs:List Value} {yad:Option Addr} {m ycap:Nat} {news:List Value}
 (hfd:(Builtin.firstCells i.size m (.slice yad m ycap)).run P w.drew=.ok news.toArray w.drew) (hfo:(Builtin.firstCells i.size n (.slice ad0 n old)).run P w.drew=.ok xs.toArray w.drew)
 (ho:old<n+m) (hbound:(n+m)*i.bytes<=140737488355328) (h63:n+m<=9223372036854775807) :
 (Builtin.append_ #[T,T] ty #[.slice ad0 n old,.slice yad m ycap]).run P w=.ok (.slice (some ⟨w.heap.size,0,none⟩) (n+m) (grownCap w (n+m) old e))
   (w.drew.alloc (.cells ((xs++news).toArray++Builtin.zeroCells z.cells (grownCap w (n+m) old e-(n+m))) e)):=by
 have hn:¬(n+m<=old):=by omega
 have h63':¬(9223372036854775807<((n:Int)+(m:Int))):=by omega
 have hfit:=growslice_fits (need:=n+m) (old:=old) (bytes:=i.bytes) ho hbound
 have h48':¬(281474976710656<Builtin.nextslicecap (n+m) old*i.bytes):=by omega
 simp [Builtin.append_,run_underlying ht,sizeOf,typeInfo,zeroValue,hi,hz,Builtin.lenOf,hn,h63',h48',Question.forced,hfd,hfo,newRow,grownCap]
 congr 2
 apply Array.ext';simp [List.append_assoc]
def va0 (σ:List AV) (x:Operand):Option (Nat×Cell):=match x with
 | .tmp t=>match gt σ t with
  | .arr [] c none=>some (t,c)
  | .asl s=>match gt σ s with
   | .arr [] c none=>some (s,c)
   | _=>none
  | _=>none
 | _=>none
def vbr (σ:List AV) (ti:TI) (d:Nat) (x y:Operand):Option (List Nat×List (Nat×AV)):=
 match ti.sh with
 | .slice _ es eb ik=>match va0 σ x,opd σ y with
  | some (s,c),.one cy=>match wek es eb ik c cy.bare with
   | some c'=>if nh σ d&&c.isSl then some (List.range σ.length,yg5 s 0 σ++[(d,.arr [] c' none)]) else none
   | none=>none
  | _,_=>none
 | _=>none
theorem xaw {M : Nat → Nat → Prop} {w : World} {es eb : Nat} {ik : Option IntKind} {c cy c' : Cell} (hes : 0 < es) (h : wek es eb ik c cy = some c') (hu : c.uni) {vy : Value} (hy : RdC M w vy cy) :
 ∃(m:Nat) (news:List Value) (fy:List Cell),(∃ ad cap,vy=.slice ad m cap)/\news.length=m*es/\RdD M w news fy/\(news=[]\/∃ b off cap,vy=.slice (some ⟨b,off,none⟩) m cap/\∀ j u,news[j]? = some u->¬M b (off+j)/\w.cell? ⟨b,off+j,none⟩=some u)/\
  c'.uni/\c'.cnt=c.cnt+m/\c'.esz=es/\c.esz=es/\c'.flat=c.flat++fy/\(c.cnt+m)*eb<=140737488355328/\c.cnt+m<=9223372036854775807:=by
 unfold wek at h;split at h
 . rename_i k;split at h
   . rename_i l l' hl hl';split at h
     . rename_i hc;obtain ⟨rfl,hb1,hb2⟩:=hc
       cases h
       have hcc:c=.ints k l:=by
        cases c with
        | ints k' l0=>simp only [wei] at hl;split at hl<;>first | (rename_i e;subst e;cases hl;rfl) | cases hl
        | sl=>cases hl
        | _=>exact hu.elim
       subst hcc;obtain ⟨hyl,hyc⟩:=hy.zh8 hl';exact ⟨l'.length,l'.map (Value.int k),l'.map fun n=>.raw (.int k n),hyl,by simp,whs k l',hyc,trivial,by simp [Cell.cnt],rfl,rfl,by simp [Cell.flat],hb1,hb2⟩
     . cases h
   . cases h
 . split at h
   . rename_i l l' hl hl';split at h
     . rename_i hc;obtain ⟨hb1,hb2⟩:=hc
       cases h
       have hcc:c=.sl es l:=by
        cases c with
        | sl n0 l0=>simp only [wuv] at hl;split at hl<;>first | (rename_i e;subst e;cases hl;rfl) | cases hl
        | ints=>cases hl
        | _=>exact hu.elim
       subst hcc;obtain ⟨hyl,hyn,us,hul,hur,hyc⟩:=hy.xov hes hl';refine ⟨l'.length,us,l'.flatten,hyl,hul,hur,hyc,fun r hr=>?_,by simp [Cell.cnt],rfl,rfl,by simp [Cell.flat],hb1,hb2⟩
       rcases List.mem_append.1 hr with h | h
       . exact hu r h
       . exact hyn r h
     . cases h
   . cases h
theorem xt0 {E:Env} {τ:Nat->TV} {M:Nat->Nat->Prop} {σ:List AV} {a:Act} {w:World} (hI:RelI E τ M σ a w) {x:Operand} {s:Nat} {c:Cell} (h:va0 σ x=some (s,c)) :
 σ[s]? = some (.arr [] c none)/\a.eval x=a.tmps.getD s Go.undef:=by
 unfold va0 at h;split at h
 case h_2=>cases h
 rename_i t;split at h
 . rename_i c0 hg
   cases h;exact ⟨w3d hg (by simp),rfl⟩
 . rename_i s0 hg0;split at h
   . rename_i c0 hg
     cases h
     have:=hI.gt t
     rw [hg0] at this;exact ⟨w3d hg (by simp),this⟩
   . cases h
 . cases h
theorem ve9 {σ:List AV} {o:Oper} {T:TypeId} {x y:Operand} (ho:o.op=.call { callee:=.builtin .append,args:=#[x,y],argTypes:=#[T,T] }) {d:Nat} (hdst:o.dst=some d) {ti:TI} (hti:mkTI P T=some ti)
 {rd:List Nat} {eff:List (Nat×AV)} (hA:vbr σ ti d x y=some (rd,eff)):ztu P o σ rd [] eff:=by
 obtain ⟨ds,i0,z0,hd0,hi0,hz0,_,_,_,_,_,hsh'⟩:=(xky hti).ex;unfold vbr at hA;split at hA
 case h_2=>cases hA
 rename_i e es eb ik hsh;split at hA
 case h_2=>cases hA
 rename_i s c cy hx hy;split at hA
 case h_2=>cases hA
 rename_i c' z1o;split at hA
 case isFalse=>cases hA
 rename_i hn;simp only [Bool.and_eq_true] at hn;simp only [Option.some.injEq,Prod.mk.injEq] at hA;obtain ⟨rfl,rfl⟩:=hA;obtain ⟨rfl,j,z',hj,hz',hjs,hjb,hes0,hzs,hik⟩:=wit (hsh'.symm.trans hsh);have hes:0<es:=Nat.pos_of_ne_zero hes0;intro E σ' a w hag _ ⟨τ,M,hI⟩ K Q hK;have hσ:σ'=σ:=y8c hag.1 (fun i hi=>hag.2 i (List.mem_range.2 (by rw [<-hag.1];exact hi)));subst hσ;obtain ⟨hs,hev⟩:=xt0 hI hx;have sy:=hI.opd y;rw [hy] at sy;have sy:RdT M w τ (a.eval y) cy:=sy;obtain ⟨b,Tb,vs,q,cap,e1,hheap,hr,_,hu,hcap,hcap'⟩:=hI.slot s _ hs;simp only [List.length_nil,List.nil_append] at e1 hheap;obtain ⟨m,news,fy,⟨yad,ycap,hyv⟩,hnl,hnr,hnc,hu',hcnt',hesz',hesz,hflat',hb1,hb2⟩:=xaw hes z1o hu sy.bare;have hold:=hI.hold s _ hs rfl
 have hblk:blk (a.tmps.getD s Go.undef)=b:=by rw [e1];rfl
 rw [hblk] at hold
 have hvl:vs.length=c.cnt*es:=by rw [hr.length,Cell.zjv hu,hesz]
 rw [hesz] at hcap';obtain ⟨old,h1,h2⟩:=z5w hn.1
 have hne:d≠s:=fun e=>by subst e;rw [hs] at h1;cases h1;cases h2
 have hfin:app (yg5 s 0 σ'++[(d,.arr [] c' none)]) σ'=(yov s σ').set d (.arr [] c' none):=by
  rw [y56,v9o];rfl
 have hd1:∃ old1,(yov s σ')[d]? = some old1/\old1.xeo=false:=by
  unfold yov;rw [v2r,h1];refine ⟨_,rfl,?_⟩
  rcases wln s (0+d) old with e | ⟨e,_⟩
  . rw [e];rfl
  . rw [e];exact h2
 obtain ⟨old1,hd1,hd2⟩:=hd1
 have hfree:∀(i:Nat) (x:AV),(yov s σ')[i]? = some x->x.xeo=true->blk (a.tmps.getD i Go.undef)≠b:=fun i x hi hx e=>by
  obtain ⟨y,hy,rfl⟩:=xx2 hi
  rcases wln s i y with e' | ⟨e',hne',_⟩
  . rw [e'] at hx;cases hx
  . rw [e'] at hx;exact hne' (hI.inj i s y _ hy hs hx rfl (e.trans hblk.symm))
 have hfreet:∀ t,live (yov s σ') t->tokB (τ t).v≠some b:=fun t ⟨i,y,hi,hy⟩=>by
  obtain ⟨x,hx,rfl⟩:=xx2 hi
  rcases wln s i x with e' | ⟨e',_⟩
  . rw [e'] at hy;exact hy.elim
  . rw [e'] at hy
    have:=hI.tbox t s _ ⟨i,x,hx,hy⟩ hs rfl
    rw [hblk] at this;exact this
 have hrunop:∀ v' w',(Builtin.append_ #[T,T] o.type #[.slice (some ⟨b,0,none⟩) c.cnt cap,.slice yad m ycap]).run P w=.ok v' w'->(execOp a.eval o).run P w=.ok (.value v') w':=fun v' w' hr'=>by
  simp [execOp,ho,resolve,invoke,builtin,hev,e1,hyv,hr']
 have hn1:∀ u∈news,u.oneCell'=true:=hnr.oneL
 have hnc':news=[]\/∃ b off cap,Value.slice yad m ycap=.slice (some ⟨b,off,none⟩) m cap/\∀ j u,news[j]? = some u->w.cell? ⟨b,off+j,none⟩=some u:=hnc.imp id fun ⟨b',off,cap',e',hh⟩=>⟨b',off,cap',by rw [<-hyv];exact e',fun j u hj=>(hh j u hj).2⟩
 have put:∀ v' w' (E':Env) (M':Nat->Nat->Prop),(execOp a.eval o).run P w=.ok (.value v') w'->RelI E τ M' ((yov s σ').set d (.arr [] c' none)) (a.put (some d) v') w'->o.wp P a w K Q:=fun v' w' _ M' hr' hR=>by
  unfold Oper.wp;rw [hr'];show K (a.put o.dst v') w';rw [hdst];exact hK _ _ ⟨τ,M',by rw [hfin];exact hR⟩
 by_cases hroom:c.cnt+m<=cap
 ·
  have hf:(Builtin.firstCells j.size m (.slice yad m ycap)).run P w=.ok news.toArray w:=yqx w m _ news ⟨_,_,rfl⟩ (by rw [hjs];exact hnl) hnc'
  have hfit:c.cnt*es+news.length<=(vs++q).length:=by
   rw [hnl,<-Nat.add_mul];refine Nat.le_trans (Nat.mul_le_mul_right _ hroom) ?_;rw [List.length_append];exact hcap'
  have hrun:=z9o (P:=P) hd0 hj w o.type b Tb c.cnt cap _ hheap m (.slice yad m ycap) news ⟨_,_,rfl⟩ (by rw [hjs];exact hnl) hf hn1 hroom (by rw [hjs];simpa using hfit);rw [hjs] at hrun;simp only at hrun;generalize hnew:((vs++q).take (c.cnt*es)++news++(vs++q).drop (c.cnt*es+news.length)).toArray=new at hrun
  have hnew':new=(([]:List Value)++((vs++news)++(vs++q).drop (c.cnt*es+news.length))).toArray:=by
   rw [<-hnew,<-hvl,List.take_left];simp
  have hb0:b<w.heap.size:=(Array.getElem?_eq_some_iff.1 hheap).1;have hbx:wuw b w (w.setRow b new):=⟨rfl,rfl,rfl,by simp,fun k _ hk=>setRow_other w b k _ hk⟩
  have hI':RelI E τ M σ' a (w.setRow b new):=by
   have h3:=hI.turn (new:=.arr [] c none) hs rfl rfl (fun _ h=>h) rfl (by rw [hblk];exact hbx) (by
    refine ⟨b,Tb,vs,news++(vs++q).drop (c.cnt*es+news.length),cap,e1,?_,hr.keep (hbx.keeps hold.1),fun p hp=>(by cases hp),hu,hcap,?_⟩
    . rw [setRow_heap w b _ new Tb (0,0) hheap,hnew'];simp
    . rw [hesz];simp only [List.length_append,List.length_drop]
      omega) (fun t ht=>ht.elim)
   have:σ'.set s (.arr [] c none)=σ':=by
    apply List.ext_getElem?;intro i;rw [List.getElem?_set]
    split
    . rename_i e;subst e;rw [hs];simp [(List.getElem?_eq_some_iff.1 hs).1]
    . rfl
   rwa [this] at h3
  refine put _ _ E _ (hrunop _ _ hrun) ((hI'.yov s).take hd1 hd2 (.slice (some ⟨b,0,none⟩) (c.cnt+m) cap) (.arr [] c' none) rfl rfl (hold.2.2.1 rfl) hold.1 hfree hfreet ?_ (fun t ht=>ht.elim));refine ⟨b,Tb,vs++news,(vs++q).drop (c.cnt*es+news.length),cap,by rw [hcnt'];rfl,?_,?_,fun p hp=>(by cases hp),hu',by rw [hcnt'];exact hroom,?_⟩
  . rw [setRow_heap w b _ new Tb (0,0) hheap,hnew']
  . rw [hflat'];exact (hr.app hnr).keep (hbx.keeps hold.1)
  . rw [hesz'];simp only [List.length_append,List.length_drop] at hfit ⊢;omega
 ·
  have hfd:(Builtin.firstCells j.size m (.slice yad m ycap)).run P w.drew=.ok news.toArray w.drew:=yqx w.drew m _ news ⟨_,_,rfl⟩ (by rw [hjs];exact hnl) hnc'
  have hfo:(Builtin.firstCells j.size c.cnt (.slice (some ⟨b,0,none⟩) c.cnt cap)).run P w.drew=.ok vs.toArray w.drew:=yqx w.drew c.cnt _ vs ⟨_,_,rfl⟩ (by rw [hjs];exact hvl) (.inr ⟨b,0,cap,rfl,fun j u hj=>by
   rw [Nat.zero_add];have hlt:j<vs.length:=(List.getElem?_eq_some_iff.1 hj).1
   have:w.drew.heap[b]? = some (.cells (vs++q).toArray Tb (0,0)):=hheap
   simp only [World.cell?,this,List.getElem?_toArray]
   rw [List.getElem?_append_left hlt];exact hj⟩)
  have hrun:=yoe (P:=P) hd0 hj hz' w o.type hfd hfo (by omega) (by rw [hjb];exact hb1) hb2;generalize hgc:grownCap w (c.cnt+m) cap e=gc at hrun
  have hge:c.cnt+m<=gc:=by rw [<-hgc];exact grownCap_ge w (c.cnt+m) cap e
  have hbl:Below w.heap.size w (w.drew.alloc (.cells ((vs++news).toArray++Builtin.zeroCells z'.cells (gc-(c.cnt+m))) e)):=((Below.refl _ _).drew).alloc (Nat.le_refl _) _;have hheap':(w.drew.alloc (.cells ((vs++news).toArray++Builtin.zeroCells z'.cells (gc-(c.cnt+m))) e)).heap[w.heap.size]? = some (.cells ((vs++news).toArray++Builtin.zeroCells z'.cells (gc-(c.cnt+m))) e (0,0)):=wm8 w.drew _;refine put _ _ E _ (hrunop _ _ hrun) ((hI.yov s).vfk hbl hd1 hd2 (.slice (some ⟨w.heap.size,0,none⟩) (c.cnt+m) gc) (.arr [] c' none) rfl rfl (Nat.le_refl _) (by simp [blk]) ?_ (fun t ht=>ht.elim));refine ⟨w.heap.size,e,vs++news,(Builtin.zeroCells z'.cells (gc-(c.cnt+m))).toList,gc,by rw [hcnt'];rfl,?_,?_,fun p hp=>(by cases hp),hu',by rw [hcnt'];exact hge,?_⟩
  . rw [hheap']
    congr 2
    apply Array.ext';simp
  . rw [hflat'];refine (hr.app hnr).keep (fun b' o u hm hc=>?_);have hl:=World.block_lt_of_cell? w _ hc;exact ⟨fun hh=>hh.elim hm (fun hh=>by simp only [blk] at hh;simp only at hl;omega),(xhx.below hbl b' o u hm hc).2⟩
  . rw [hesz',List.length_append,hvl,hnl,Array.length_toList,size_zeroCells,hzs,<-Nat.add_mul,<-Nat.add_mul];exact Nat.mul_le_mul_right _ (by omega)
def nilV:Value->Bool
 | .slice none 0 0=>true
 | _=>false
def nilO:Operand->Bool
 | .const v=>nilV v
 | .tmp _=>false
 | .global _=>false
 | .func _=>false
theorem vi3 {x:Operand} (h:nilO x=true):x=.const (.slice none 0 0):=by
 cases x with
 | const v=>
  simp only [nilO] at h;unfold nilV at h;split at h
  . rfl
  . cases h
 | _=>cases h
def tiX {α:Type} (P:Program) (t:TypeId) (k:TI->Option α):Option α:=match mkTI P t with
 | some ti=>k ti
 | none=>none
theorem y08 {α:Type} {t:TypeId} {k:TI->Option α} {r:α} (h:tiX P t k=some r):∃ ti,mkTI P t=some ti/\k ti=some r:=by
 unfold tiX at h;split at h
 . rename_i ti hti;exact ⟨ti,hti,h⟩
 . cases h
def zx0 (σ:List AV) (x:Operand):Bool:=match x with
 | .tmp t=>match gt σ t with
  | .arr _ _ _ | .asl _=>true
  | _=>false
 | _=>false
def eqOp:BinOp->Bool
 | .eql=>true
 | .neq=>true
 | _=>false
def ws9:AV->AV->Bool
 | .one (.raw (.bool _)),.one (.raw (.bool _))=>true
 | _,_=>false
def bbA (ti:TI) (op:BinOp) (x y:AV):Option AV:=match ti.sh with
 | .bool=>match x,y with
  | .one (.raw (.bool a)),.one (.raw (.bool b))=>match op with
   | .eql=>some (.one (.raw (.bool (a==b))))
   | .neq=>some (.one (.raw (.bool (a != b))))
   | _=>none
  | _,_=>none
 | _=>none
theorem z5t {d:TypeDesc} (h:shOf P d=.bool):d=.bool:=by
 cases d with
 | bool=>rfl
 | slice e=>
  exfalso;revert h;unfold shOf;dsimp only
  split
  . split
    . split<;>simp
    . simp
  . simp
 | struct fl=>
  exfalso;revert h;unfold shOf;dsimp only;split<;>simp
 | _=>simp [shOf] at h
theorem zf0 {σ:List AV} {o:Oper} {op:BinOp} {T U:TypeId} {x y:Operand} (ho:o.op=.binOp op T x y U) {ti:TI} (hti:mkTI P T=some ti) {av:AV} (hb:bbA ti op (opd σ x) (opd σ y)=some av) {r:List Nat×List (Nat×AV)}
 (h:val σ o (orr x++orr y) av=some r):ztu P o σ r.1 [] r.2:=by
 unfold bbA at hb;split at hb
 case h_2=>cases hb
 rename_i hsh;split at hb
 case h_2=>cases hb
 rename_i u v hx hy;obtain ⟨d,i,z,hd,hi,hz,_,_,_,_,_,hsh'⟩:=(xky hti).ex;obtain rfl:=z5t (hsh'.symm.trans hsh)
 have heq:∀ w:World,(Op.equal T (.bool u) (.bool v)).run P w=.ok (u==v) w:=fun w=>by
  show (Op.equalIn (9999+1) T (.bool u) (.bool v)).run P w=_;unfold Op.equalIn;simp [z6x hd]
 have eva:∀(E:Env) (τ:Nat->TV) (M:Nat->Nat->Prop) (σ':List AV) (a:Act) (w:World),(∀ x':Operand,(∀ t∈orr x',t∈orr x++orr y)->opd σ' x'=opd σ x')->RelI E τ M σ' a w->a.eval x=.bool u/\a.eval y=.bool v:=fun E τ M σ' a w hop hI=>by
  have sx:=hI.opd x;have sy:=hI.opd y;rw [hop x (fun t ht=>by simp [ht]),hx] at sx;rw [hop y (fun t ht=>by simp [ht]),hy] at sy;exact ⟨RdC.xcn sx,RdC.xcn sy⟩
 split at hb
 . cases hb;refine ztu.pure h rfl rfl (fun E τ M σ' a w hop _ hI=>⟨.bool (u==v),?_,RdC.raw rfl,fun t ht=>ht.elim⟩);obtain ⟨ex,ey⟩:=eva E τ M σ' a w hop hI;simp [execOp,ho,ex,ey,eqGuard,binOp,heq]
 . cases hb;refine ztu.pure h rfl rfl (fun E τ M σ' a w hop _ hI=>⟨.bool (u != v),?_,RdC.raw rfl,fun t ht=>ht.elim⟩);obtain ⟨ex,ey⟩:=eva E τ M σ' a w hop hI;simp [execOp,ho,ex,ey,eqGuard,binOp,heq,bne]
 . cases hb
def isX (σ:List AV):Op->Bool
 | .binOp op _ x y _=>match nilO y with
  | true=>true
  | false=>match eqOp op with
   | true=>ws9 (opd σ x) (opd σ y)
   | false=>false
 | .buildSlice _ n _=>n==0
 | .call c=>match c.callee with
  | .builtin .append=>match c.args.toList with
   | [x,_]=>zx0 σ x
   | _=>false
  | .builtin .max=>true
  | .builtin .min=>true
  | _=>false
 | _=>false
def maxV (b:Bool):AV->AV->Option AV
 | .one (.raw (.int k x)),.one (.raw (.int k' y))=>if k=k' then some (.one (.raw (.int k (match b with | true=>max x y | false=>min x y)))) else none
 | _,_=>none
theorem zv0 {σ:List AV} {o:Oper} {b:Bool} {x y:Operand} {ts:Array TypeId} (ho:o.op=.call { callee:=.builtin (match b with | true=>.max | false=>.min),args:=#[x,y],argTypes:=ts }) {av:AV} (hb:maxV b (opd σ x) (opd σ y)=some av)
 {r:List Nat×List (Nat×AV)} (h:val σ o (orr x++orr y) av=some r):ztu P o σ r.1 [] r.2:=by
 unfold maxV at hb;split at hb
 . rename_i k u k' v hx hy;split at hb
   . rename_i hkk;subst hkk
     cases hb;refine ztu.pure h rfl rfl (fun E τ M σ' a w hop hgt hI=>⟨_,?_,RdC.raw rfl,fun t ht=>ht.elim⟩);have sx:=hI.opd x;rw [hop x (fun t ht=>List.mem_append.2 (.inl ht)),hx] at sx;have sy:=hI.opd y;rw [hop y (fun t ht=>List.mem_append.2 (.inr ht)),hy] at sy;have ex:a.eval x=.int k u:=RdC.xcn sx;have ey:a.eval y=.int k v:=RdC.xcn sy
     cases b with
     | true=>
      have:(if v > u then v else u)=max u v:=by split<;>omega
      simp [execOp,ho,resolve,invoke,builtin,Builtin.max_,Builtin.max2,ex,ey,this]
     | false=>
      have:(if v<u then v else u)=min u v:=by split<;>omega
      simp [execOp,ho,resolve,invoke,builtin,Builtin.min_,Builtin.min2,ex,ey,this]
   . cases hb
 . cases hb
def valX (σ:List AV) (o:Oper) (rd:List Nat) (a:Option AV):Option (List Nat×List (Nat×AV)):=match a with
 | some av=>val σ o rd av
 | none=>none
def opX (P:Program) (σ:List AV) (o:Oper):Option (List Nat×List (Nat×AV)):=
 match o.op with
 | .binOp op T x y _=>match nilO y with
  | true=>tiX P T fun ti=>valX σ o (orr x) (nilA σ ti op x)
  | false=>tiX P T fun ti=>valX σ o (orr x++orr y) (bbA ti op (opd σ x) (opd σ y))
 | .buildSlice T n ps=>if n=0 then tiX P T fun ti=>valX σ o [] (wpp ti ps.toList) else none
 | .call c=>match c.callee with
  | .builtin .append=>match c.args.toList,c.argTypes.toList,o.dst with
   | [x,y],[T,U],some d=>if T=U then tiX P T fun ti=>vbr σ ti d x y else none
   | _,_,_=>none
  | .builtin .max=>match c.args.toList with
   | [x,y]=>valX σ o (orr x++orr y) (maxV true (opd σ x) (opd σ y))
   | _=>none
  | .builtin .min=>match c.args.toList with
   | [x,y]=>valX σ o (orr x++orr y) (maxV false (opd σ x) (opd σ y))
   | _=>none
  | _=>none
 | _=>none
theorem vfz {σ:List AV} {o:Oper} {rd:List Nat} {a:Option AV} {r:List Nat×List (Nat×AV)} (h:valX σ o rd a=some r):∃ av,a=some av/\val σ o rd av=some r:=by
 unfold valX at h;split at h
 . rename_i av;exact ⟨av,rfl,h⟩
 . cases h
theorem wti {σ:List AV} {o:Oper} {r:List Nat×List (Nat×AV)} (h:opX P σ o=some r):ztu P o σ r.1 [] r.2:=by
 unfold opX at h;split at h
 . rename_i op T x y U ho;split at h
   . rename_i hnil;obtain ⟨ti,hti,hk⟩:=y08 h;obtain ⟨av,hav,hr⟩:=vfz hk;rw [vi3 hnil] at ho;exact ydx ho hti hav hr
   . obtain ⟨ti,hti,hk⟩:=y08 h;obtain ⟨av,hav,hr⟩:=vfz hk;exact zf0 ho hti hav hr
 . rename_i T n ps ho;split at h
   . rename_i hn;obtain ⟨ti,hti,hk⟩:=y08 h;obtain ⟨av,hav,hr⟩:=vfz hk;exact zxk (by rw [ho]) hn hti hav hr
   . cases h
 . rename_i c ho;obtain ⟨callee,args,argTypes⟩:=c;simp only at h;split at h
   . split at h
     . rename_i x y T U d ha ht hd;split at h
       . rename_i hTU;subst hTU;obtain ⟨ti,hti,hk⟩:=y08 h
         have ea:args=#[x,y]:=by cases args;simp at ha;rw [ha]
         have et:argTypes=#[T,T]:=by cases argTypes;simp at ht;rw [ht]
         rw [ea,et] at ho;exact ve9 ho hd hti hk
       . cases h
     . cases h
   . split at h
     . rename_i x y ha;obtain ⟨av,hav,hr⟩:=vfz h
       have ea:args=#[x,y]:=by cases args;simp at ha;rw [ha]
       rw [ea] at ho;exact zv0 (b:=true) ho hav hr
     . cases h
   . split at h
     . rename_i x y ha;obtain ⟨av,hav,hr⟩:=vfz h
       have ea:args=#[x,y]:=by cases args;simp at ha;rw [ha]
       rw [ea] at ho;exact zv0 (b:=false) ho hav hr
     . cases h
   . cases h
 . cases h
inductive OR where
 | eff (rd tk:List Nat) (eff:List (Nat×AV))
 | call (f:FuncId) (args:List AV) (rd:List Nat)
 | fn (p:(Nat->Nat->Prop)->World->Value->Prop) (args:List AV) (rd:List Nat)
 | mk (f:FuncId) (caps:List AV) (rd:List Nat)
 | own (f:FuncId) (l:List AV) (j s:Nat) (ov:OV) (rd:List Nat)
 | bad
def OR.of:Option (List Nat×List (Nat×AV))->OR
 | some (rd,e)=>.eff rd [] e
 | none=>.bad
def vtj:Value->Option FuncId
 | .func (.func f) fs cs=>match fs.toList,cs.toList with
  | [],[]=>some f
  | _,_=>none
 | _=>none
theorem vyp {v:Value} {f:FuncId} (h:vtj v=some f):v=.func (.func f) #[] #[]:=by
 unfold vtj at h;split at h
 . rename_i f' fs cs;split at h
   . rename_i h1 h2
     cases h
     have e1:fs=#[]:=by rw [<-Array.toArray_toList (xs:=fs),h1]
     have e2:cs=#[]:=by rw [<-Array.toArray_toList (xs:=cs),h2]
     rw [e1,e2]
   . cases h
 . cases h
def v7c (P:Program) (t:TypeId) (k:TI->OR):OR:=match mkTI P t with
 | some ti=>k ti
 | none=>.bad
def vofA (σ:List AV) (o:Oper) (rd:List Nat) (a:Option AV):OR:=match a with
 | some av=>.of (val σ o rd av)
 | none=>.bad
def vofB (σ:List AV) (o:Oper) (a:Option (List Nat×AV)):OR:=match a with
 | some (rd,av)=>.of (val σ o rd av)
 | none=>.bad
def yn5 (ti:TI) (av:AV):Bool:=match ti.sh with
 | .slice _ es _ _=>match av with
  | .one c=>match c.bare with
   | .ints _ _=>es==1
   | .sl n _=>es==n
   | _=>true
  | _=>true
 | _=>true
def wxq (P:Program) (ti:TI) (k:TI->OR):OR:=match ti.sh with
 | .slice e _ _ _=>v7c P e k
 | _=>.bad
def zdb (ti:TI):Bool:=match ti.sh with
 | .array _ _ es=>es != 0
 | _=>true
def AV.w2m:AV->Bool
 | .arr _ _ _ | .asl _ | .awn _ _ _ _=>true
 | _=>false
def opB (P:Program) (σ:List AV) (o:Oper):OR:=
 match o.op with
 | .move x=>.of (val σ o (orr x) (cpy x (opd σ x)))
 | .assign x=>.of (val σ o (orr x) (cpy x (opd σ x)))
 | .pick c x y=>vofA σ o (orr c++orr x++orr y) (zrn σ c x y)
 | .alloc T=>v7c P T fun ti=>.of (val σ o [] (.box ti.zc))
 | .box _ x=>match zyf (opd σ x) with
  | some cs=>.of (val σ o (orr x) (.box cs))
  | none=>.bad
 | .load T x=>v7c P T fun ti=>vofB σ o (vge σ ti x)
 | .store T x y=>match o.dst with
  | none=>v7c P T fun ti=>match y92 σ ti x y with
   | some (rd,s,av)=>.eff rd [] [(s,av)]
   | none=>.bad
  | some _=>.bad
 | .fieldAddr S x f=>v7c P S fun ti=>vofA σ o (orr x) (wqd σ ti x f)
 | .extract x n=>vofA σ o (orr x) (yry σ x n)
 | .indexAddr T x y=>v7c P T fun ti=>vofB σ o (xq4 σ ti x y)
 | .binOp op _ x y _=>vofA σ o (orr x++orr y) (binA σ op x y)
 | .unOp op _ x=>vofA σ o (orr x) (unA σ op x)
 | .convert S D x=>v7c P S fun ts=>v7c P D fun td=>vofA σ o (orr x) (zj2 σ ts td x)
 | .slice T x lo hi none=>v7c P T fun ti=>match (opd σ x).w2m with
  | true=>vofB σ o (yly σ ti x lo hi)
  | false=>if yn5 ti (opd σ x) then vofA σ o (orr x++orrO lo++orrO hi) (zd3 σ ti x lo hi none) else .bad
 | .slice T x lo hi mx=>v7c P T fun ti=>if yn5 ti (opd σ x) then vofA σ o (orr x++orrO lo++orrO hi++orrO mx) (zd3 σ ti x lo hi mx) else .bad
 | .makeSlice T x y=>v7c P T fun ti=>wxq P ti fun te=>vofA σ o (orr x++orr y) (zsp σ ti te x y)
 | .build T ps=>v7c P T fun ti=>if zdb ti&&ti.sh.agg then vofA σ o (orrs ps.toList) (whu σ ti ps.toList) else .bad
 | .buildSlice T n ps=>v7c P T fun ti=>wxq P ti fun te=>vofA σ o (orrs ps.toList) (zz4 σ ti te n ps.toList)
 | .call c => match c.callee with
  | .builtin .len=>match c.args.toList,c.argTypes.toList with
   | [x],[T]=>v7c P T fun ti=>if w8n σ ti x then vofB σ o (lenA σ x) else .bad
   | _,_=>.bad
  | .builtin .append=>match c.args.toList,c.argTypes.toList,o.dst with
   | [x,y],[T,U],some d=>if T=U then v7c P T fun ti=>match ypu σ ti d x y with
    | some (rd,tk,eff)=>.eff rd tk eff
    | none=>.bad
    else .bad
   | _,_,_=>.bad
  | .value (.func f)=>match zk4 σ c.args.toList with
   | some l=>if x9b σ o then .call f l (zny o++orrL c.args.toList) else .bad
   | none=>match wu1 σ c.args.toList with
    | some (l,j,s,ov)=>if x9b σ o then .own f l j s ov (zny o++s::orrL c.args.toList) else .bad
    | none=>.bad
  | .value (.tmp t)=>match gt σ t,zk4 σ c.args.toList with
   | .one (.raw v),some l=>match vtj v with
    | some f=>if x9b σ o then .call f l (zny o++t::orrL c.args.toList) else .bad
    | none=>.bad
   | .one (.fnp p),some l=>if x9b σ o then .fn p l (zny o++t::orrL c.args.toList) else .bad
   | _,_=>.bad
  | _=>.bad
 | .makeFunc (.func f) fs cs=>match fs.toList,zk4 σ cs.toList,o.dst with
  | [],some l,some d=>if nh σ d then .mk f l (d::orrL cs.toList) else .bad
  | _,_,_=>.bad
 | _=>.bad
theorem yhc {σ:List AV} {o:Oper} {rd0:List Nat} {av:AV} (hs:∀ r,val σ o rd0 av=some r->ztu P o σ r.1 [] r.2) {rd tk:List Nat} {eff:List (Nat×AV)} (h:OR.of (val σ o rd0 av)=.eff rd tk eff):tk=[]/\ztu P o σ rd tk eff:=by
 cases hv:val σ o rd0 av with
 | none=>rw [hv] at h;cases h
 | some r=>rw [hv] at h;cases h;exact ⟨rfl,hs r hv⟩
theorem x81 {α:Type} {a:Array α} {l:List α} (h:a.toList=l):a=l.toArray:=by rw [<-h]
theorem v0d {σ:List AV} {ti:TI} {d:Nat} {x y:Operand} {rd tk:List Nat} {eff:List (Nat×AV)} (h:ypu σ ti d x y=some (rd,tk,eff)):∀ t∈tk,∀ i,(gt σ i).y1a t->i∈rd:=by
 unfold ypu at h;split at h
 case h_2=>cases h
 split at h
 case h_2=>cases h
 split at h
 case h_2=>cases h
 split at h
 case h_2=>cases h
 split at h
 case isFalse=>cases h
 simp only [Option.some.injEq,Prod.mk.injEq] at h;obtain ⟨rfl,rfl,rfl⟩:=h;intro t ht i hi
 have hlt:i<σ.length:=by
  rcases Nat.lt_or_ge i σ.length with h | h
  . exact h
  . unfold gt at hi;rw [List.getElem?_eq_none h] at hi;exact hi.elim
 have key:∀ tk:List Nat,t∈tk->i∈(xv8 tk 0 σ).map (·.1):=fun tk ht=>by
  have hf:=ynz tk σ 0 i hlt;simp only [Nat.zero_add] at hf;rw [if_neg (fun hall=>AV.ydj ((List.all_eq_true.1 hall) t ht) hi)] at hf
  have:=List.mem_of_find?_eq_some hf
  exact List.mem_map.2 ⟨_,by simpa using this,rfl⟩
 simp only [List.mem_cons,List.mem_append];exact .inr (.inr (key _ ht))
theorem yue {σ:List AV} {o:Oper} {rd0:List Nat} {a:Option AV} (hs:∀ av,a=some av->∀ r,val σ o rd0 av=some r->ztu P o σ r.1 [] r.2) {rd tk:List Nat} {eff:List (Nat×AV)} (h:vofA σ o rd0 a=.eff rd tk eff):tk=[]/\ztu P o σ rd tk eff:=by
 unfold vofA at h;split at h
 . exact yhc (hs _ rfl) h
 . cases h
theorem v06 {σ:List AV} {o:Oper} {a:Option (List Nat×AV)} (hs:∀ rd0 av,a=some (rd0,av)->∀ r,val σ o rd0 av=some r->ztu P o σ r.1 [] r.2) {rd tk:List Nat} {eff:List (Nat×AV)} (h:vofB σ o a=.eff rd tk eff):tk=[]/\ztu P o σ rd tk eff:=by
 unfold vofB at h;split at h
 . exact yhc (hs _ _ rfl) h
 . cases h
theorem znh {t:TypeId} {k:TI->OR} {r:OR} (hr:r≠.bad) (h:v7c P t k=r):∃ ti,mkTI P t=some ti/\k ti=r:=by
 unfold v7c at h;split at h
 . rename_i ti hti;exact ⟨ti,hti,h⟩
 . exact absurd h.symm hr
theorem x0h {ti:TI} {k:TI->OR} {r:OR} (hr:r≠.bad) (h:wxq P ti k=r):∃ e es eb ik te,ti.sh=.slice e es eb ik/\mkTI P e=some te/\k te=r:=by
 unfold wxq at h;split at h
 . rename_i e es eb ik hs;obtain ⟨te,h1,h2⟩:=znh hr h;exact ⟨e,es,eb,ik,te,hs,h1,h2⟩
 . exact absurd h.symm hr
theorem v42 {σ:List AV} {o:Oper} {rd tk:List Nat} {eff:List (Nat×AV)} (h:opB P σ o=.eff rd tk eff):ztu P o σ rd tk eff/\(∀ t∈tk,∀ i,(gt σ i).y1a t->i∈rd):=by
 have nt:(tk=[]/\ztu P o σ rd tk eff)->ztu P o σ rd tk eff/\(∀ t∈tk,∀ i,(gt σ i).y1a t->i∈rd):=fun ⟨h1,h2⟩=>⟨h2,by rw [h1];intro t ht;cases ht⟩
 have nb:OR.eff rd tk eff≠.bad:=by simp
 unfold opB at h;split at h
 . rename_i x ho;exact nt (yhc (fun r hr=>vjc (.inl ho) hr) h)
 . rename_i x ho;exact nt (yhc (fun r hr=>vjc (.inr ho) hr) h)
 . rename_i c x y ho;exact nt (yue (fun av ha r hr=>xxx ho ha hr) h)
 . rename_i T ho;obtain ⟨ti,hti,hk⟩:=znh nb h;exact nt (yhc (fun r hr=>whc ho hti hr) hk)
 . rename_i T x ho;split at h
   . rename_i cs hcs;exact nt (yhc (fun r hr=>v4a ho hcs hr) h)
   . cases h
 . rename_i T x ho;obtain ⟨ti,hti,hk⟩:=znh nb h;exact nt (v06 (fun rd0 av ha r hr=>vsf ho hti ha hr) hk)
 . rename_i T x y ho;split at h
   . rename_i hd;obtain ⟨ti,hti,hk⟩:=znh nb h;split at hk
     . rename_i rd' s av hst
       cases hk;exact nt ⟨rfl,ykx ho hd hti hst⟩
     . cases hk
   . cases h
 . rename_i S x f ho;obtain ⟨ti,hti,hk⟩:=znh nb h;exact nt (yue (fun av ha r hr=>wly ho hti ha hr) hk)
 . rename_i x n ho;exact nt (yue (fun av ha r hr=>zr0 ho ha hr) h)
 . rename_i T x y ho;obtain ⟨ti,hti,hk⟩:=znh nb h;exact nt (v06 (fun rd0 av ha r hr=>v0u ho hti ha hr) hk)
 . rename_i op T x y U ho;exact nt (yue (fun av ha r hr=>xx6 ho ha hr) h)
 . rename_i op T x ho;exact nt (yue (fun av ha r hr=>v4p ho ha hr) h)
 . rename_i S D x ho;obtain ⟨ts,hts,hk⟩:=znh nb h;obtain ⟨td,htd,hk⟩:=znh nb hk;exact nt (yue (fun av ha r hr=>zmd ho hts htd ha hr) hk)
 . rename_i T x lo hi ho;obtain ⟨ti,hti,hk⟩:=znh nb h;split at hk
   . exact nt (v06 (fun rd0 av ha r hr=>zm2 ho hti ha hr) hk)
   . split at hk
     . rename_i hok;refine nt (yue (fun av ha r hr=>xub ho hti (fun e es eb ik hsh c hc=>?_) ha (by simpa [orrO] using hr)) hk);unfold yn5 at hok;simp only [hsh,hc] at hok;refine ⟨fun k L e=>?_,fun n rows e=>?_⟩
       . rw [e] at hok;simpa using hok
       . rw [e] at hok;simpa using hok
     . cases hk
 . rename_i T x lo hi mx _ ho;obtain ⟨ti,hti,hk⟩:=znh nb h;split at hk
   . rename_i hok;refine nt (yue (fun av ha r hr=>xub ho hti (fun e es eb ik hsh c hc=>?_) ha hr) hk);unfold yn5 at hok;simp only [hsh,hc] at hok;refine ⟨fun k L e=>?_,fun n rows e=>?_⟩
     . rw [e] at hok;simpa using hok
     . rw [e] at hok;simpa using hok
   . cases hk
 . rename_i T x y ho;obtain ⟨ti,hti,hk⟩:=znh nb h;obtain ⟨e,es,eb,ik,te,hs,hte,hk⟩:=x0h nb hk;exact nt (yue (fun av ha r hr=>zko ho hti (fun e' es' eb' ik' hs'=>by rw [hs] at hs';cases hs';exact hte) ha hr) hk)
 . rename_i T ps ho;obtain ⟨ti,hti,hk⟩:=znh nb h;split at hk
   . rename_i hok;simp only [Bool.and_eq_true] at hok;refine nt (yue (fun av ha r hr=>yc2 (by rw [ho]) hti (fun n e es hs=>?_) ha hok.2 hr) hk)
     have:=hok.1
     unfold zdb at this;rw [hs] at this;simpa using this
   . cases hk
 . rename_i T n ps ho;obtain ⟨ti,hti,hk⟩:=znh nb h;obtain ⟨e,es,eb,ik,te,hs,hte,hk⟩:=x0h nb hk;exact nt (yue (fun av ha r hr=>x2l (by rw [ho]) hti (fun e' es' eb' ik' hs'=>by rw [hs] at hs';cases hs';exact hte) ha hr) hk)
 . rename_i c ho;obtain ⟨callee,args,argTypes⟩:=c;simp only at h;split at h
   . split at h
     . rename_i x T ha ht;obtain ⟨ti,hti,hk⟩:=znh nb h;split at hk
       . rename_i hfit;rw [x81 ha,x81 ht] at ho;exact nt (v06 (fun rd0 av hb r hr=>xtu ho hti hfit hb hr) hk)
       . cases hk
     . cases h
   . split at h
     . rename_i x y T U d ha ht hd;split at h
       . rename_i hTU;subst hTU;obtain ⟨ti,hti,hk⟩:=znh nb h;split at hk
         . rename_i rd' tk' eff' hA
           cases hk;rw [x81 ha,x81 ht] at ho;exact ⟨y8p ho hd hti hA,v0d hA⟩
         . cases hk
       . cases h
     . cases h
   . split at h
     . split at h<;>cases h
     . split at h
       . split at h<;>cases h
       . cases h
   . split at h
     . split at h
       . split at h<;>cases h
       . cases h
     . split at h<;>cases h
     . cases h
   . cases h
 . split at h
   . split at h<;>cases h
   . cases h
 . cases h
end Go.Slot
