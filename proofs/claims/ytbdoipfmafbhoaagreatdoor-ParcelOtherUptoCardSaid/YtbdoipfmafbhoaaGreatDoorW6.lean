/- The proof, part W6: Mt, Mu, Mv, Mw, Mo. -/
import Derived.Test.YtbdoipfmafbhoaaGreatDoorW5
namespace Go.Slot
open Go Go.RowKit
variable {P:Program}
def ch (a0 a1 a2 a3 a4 a5 a6 a7 a8 a9 a10 a11 a12 a13 a14 a15:AV) (r:List AV):List AV:=a0::a1::a2::a3::a4::a5::a6::a7::a8::a9::a10::a11::a12::a13::a14::a15::r
def AV.frzd:AV->AV
 | .box cs=>.elt (v8h cs)
 | .arr _ c none=>.one c
 | av=>av
def zuj (s:Nat) (hv:AV) (i:Nat) (av:AV):AV:=
 if i=s then hv.frzd else match av with
 | .ptr s' off=>if s'=s then (match hv with | .box cs=>.elt (v8h (cs.drop off)) | _=>.any) else av
 | .asl s'=>if s'=s then (match hv with | .arr _ c none=>.one c | _=>.any) else av
 | .awn s' m lo n=>if s'=s then (match hv with | .arr _ c none=>if lo+n<=c.cnt/\m=c.esz then .one (c.sub lo n) else .any | _=>.any) else av
 | .pel s' m i f=>if s'=s then (match hv with | .arr _ c none=>if m=c.esz then (match c.at i f with | some cs=>.elt cs | none=>.any) else .any | _=>.any) else av
 | _=>av
def xhy (s:Nat) (hv:AV):Nat->List AV->List AV
 | _,[]=>[]
 | i,av::r=>zuj s hv i av::xhy s hv (i+1) r
def hitB (s i:Nat) (av:AV):Bool:=if i=s then true else match av.rf with
 | some (s',_)=>s'==s
 | none=>false
def wyq (s i:Nat) (av:AV):AV:=if hitB s i av=true then .any else av
def vbm (s:Nat):Nat->List AV->List AV
 | _,[]=>[]
 | i,av::r=>wyq s i av::vbm s (i+1) r
def vos (s:Nat) (J:List AV):List AV:=vbm s 0 J
theorem xpp (s:Nat):∀(k:Nat) (J:List AV) (i:Nat),(vbm s k J)[i]? = (J[i]?).map (wyq s (k+i))
 | _,[],i=>by simp [vbm]
 | k,av::r,0=>by simp [vbm]
 | k,av::r,i+1=>by
  simp only [vbm,List.getElem?_cons_succ];rw [xpp s (k+1) r i,show k+1+i=k+(i+1) by omega]
theorem y5i (s:Nat):∀(k:Nat) (J:List AV),(vbm s k J).length=J.length
 | _,[]=>rfl
 | k,av::r=>by simp [vbm,y5i s (k+1) r]
theorem zvo (s:Nat) (J:List AV):(vos s J).length=J.length:=y5i s 0 J
theorem z7e {s:Nat} {J:List AV} {i:Nat} {y:AV} (h:(vos s J)[i]? = some y):∃ x,J[i]? = some x/\y=wyq s i x:=by
 unfold vos at h;rw [xpp] at h;simp only [Nat.zero_add,Option.map_eq_some_iff] at h;obtain ⟨x,hx,rfl⟩:=h;exact ⟨x,hx,rfl⟩
theorem wey (s i:Nat) (x:AV):(wyq s i x=.any)\/(wyq s i x=x/\i≠s/\∀ s' b,x.rf=some (s',b)->s'≠s):=by
 unfold wyq
 split
 . exact .inl rfl
 . rename_i h;unfold hitB at h;split at h
   . exact absurd rfl h
   . rename_i hne;refine .inr ⟨rfl,hne,fun s' b e=>?_⟩;rw [e] at h;simpa using h
theorem RelI.vos {E:Env} {τ:Nat->TV} {M:Nat->Nat->Prop} {J:List AV} {a:Act} {w:World} (h:RelI E τ M J a w) (s:Nat):RelI E τ M (Go.Slot.vos s J) a w:=by
 have hlive:∀ t,live (Go.Slot.vos s J) t->live J t:=fun t ⟨i,y,hi,hy⟩=>by
  obtain ⟨x,hx,rfl⟩:=z7e hi
  rcases wey s i x with e | ⟨e,_⟩
  . rw [e] at hy;exact hy.elim
  . rw [e] at hy;exact ⟨i,x,hx,hy⟩
 have hh:∀(i:Nat) (y:AV),(Go.Slot.vos s J)[i]? = some y->y.yco=true->J[i]? = some y:=fun (i:Nat) (y:AV) hi hy=>by
  obtain ⟨x,hx,rfl⟩:=z7e hi
  rcases wey s i x with e | ⟨e,_⟩
  . rw [e] at hy;cases hy
  . rw [e];exact hx
 refine RelI.mk h.hd (by rw [zvo];exact h.hs) ?_ h.m0 h.mb (fun i y hi hy=>h.hold i y (hh i y hi hy) hy) (fun i j y z hi hj hy hz=>h.inj i j y z (hh i y hi hy) (hh j z hj hz) hy hz) ?_
  (fun t ht=>h.toks t (hlive t ht)) (fun t t' g ht ht'=>h.tinj t t' g (hlive t ht) (hlive t' ht')) (fun t i y ht hi hy=>h.tbox t i y (hlive t ht) (hh i y hi hy) hy) h.size h.os h.tape h.output h.frame
 . intro i y hi;obtain ⟨x,hx,rfl⟩:=z7e hi
   rcases wey s i x with e | ⟨e,_⟩
   . rw [e];exact trivial
   . rw [e];exact h.slot i x hx
 . intro i y s' b hi hr;obtain ⟨x,hx,rfl⟩:=z7e hi
   rcases wey s i x with e | ⟨e,hne,hrf⟩
   . rw [e] at hr;cases hr
   . rw [e] at hr;obtain ⟨hv,h1,h2⟩:=h.refs i x s' b hx hr;have hs':=hrf s' b hr;refine ⟨hv,?_,h2⟩;unfold Go.Slot.vos;rw [xpp,h1];simp only [Nat.zero_add,Option.map_some,Option.some.injEq]
     have:hv.rf=none:=by cases hv<;>first | rfl | (cases b<;>cases h2)
     unfold wyq hitB;rw [if_neg hs',this];simp
theorem RelI.take {E:Env} {τ:Nat->TV} {M:Nat->Nat->Prop} {J:List AV} {a:Act} {w:World} (h:RelI E τ M J a w) {d:Nat} {old:AV} (hd:J[d]? = some old) (hnh:old.yco=false) (v:Value) (av:AV) (hav:av.yco=true) (hfrs:av.fresh=true)
 (hN:E.N<=blk v) (hM:∀ o,M (blk v) o) (hfree:∀(i:Nat) (x:AV),J[i]? = some x->x.yco=true->blk (a.tmps.getD i Go.undef)≠blk v) (hfreet:∀ t,live J t->tokB (τ t).v≠some (blk v))
 (hok:yhf M w τ a.tmps v av) (htok:∀ t,av.wjv t->live J t):RelI E τ M (J.set d av) (a.put (some d) v) w:=by
 have hlt:d<a.tmps.size:=h.lt hd
 have hns:∀(s:Nat) (b:Bool) (hv:AV),J[s]? = some hv->hv.fits b=true->d≠s:=fun s b hv hs hf e=>by
  subst e;rw [hd] at hs;cases hs;have:=AV.yno hf;rw [hnh] at this;cases this
 have hself:(a.tmps.setIfInBounds d v).getD d Go.undef=v:=by simp [hlt]
 have hlive:∀ t,live (J.set d av) t->live J t:=fun t ⟨i,x,hi,hx⟩=>by
  rcases getElem?_set_cases hi with ⟨_,rfl⟩ | ⟨_,hi⟩
  . exact htok t hx
  . exact ⟨i,x,hi,hx⟩
 refine RelI.mk h.hd (by simpa [Act.put] using h.hs) ?_ h.m0 h.mb ?_ ?_ ?_ (fun t ht=>h.toks t (hlive t ht)) (fun t t' g ht ht'=>h.tinj t t' g (hlive t ht) (hlive t' ht')) ?_ h.size h.os h.tape h.output h.frame
 . intro i x hi;show yhf _ w τ (a.tmps.setIfInBounds d v) ((a.tmps.setIfInBounds d v).getD i Go.undef) x
   rcases getElem?_set_cases hi with ⟨rfl,rfl⟩ | ⟨hne,hi⟩
   . rw [hself];exact hok.keep (fun _ _ _ h1 h2=>⟨h1,h2⟩) (fun _ _=>rfl) (fun s b hr=>by cases x<;>simp [AV.rf,AV.yco] at hr hav) (fun _=>rfl)
   . rw [getD_set_ne (Ne.symm hne)];exact (h.slot i x hi).keep (fun _ _ _ h1 h2=>⟨h1,h2⟩) (fun _ _=>rfl) (fun s b hr=>by obtain ⟨hv,h1,h2⟩:=h.refs i x s b hi hr;exact getD_set_ne (hns s b hv h1 h2) v) (fun _=>rfl)
 . intro i x hi hh;show (∀ o',M (blk ((a.tmps.setIfInBounds d v).getD i Go.undef)) o')/\(_<=blk ((a.tmps.setIfInBounds d v).getD i Go.undef)\/E.X (blk ((a.tmps.setIfInBounds d v).getD i Go.undef)))/\(_->_<=blk ((a.tmps.setIfInBounds d v).getD i Go.undef))/\(_->(a.tmps.setIfInBounds d v).getD i Go.undef=_)
   rcases getElem?_set_cases hi with ⟨rfl,rfl⟩ | ⟨hne,hi⟩
   . rw [hself];exact ⟨hM,.inl hN,fun _=>hN,fun e=>by rw [hfrs] at e;cases e⟩
   . rw [getD_set_ne (Ne.symm hne)];exact h.hold i x hi hh
 . intro i j x y hi hj hx hy;show blk ((a.tmps.setIfInBounds d v).getD i Go.undef)=blk ((a.tmps.setIfInBounds d v).getD j Go.undef)->_
   rcases getElem?_set_cases hi with ⟨rfl,rfl⟩ | ⟨hne,hi'⟩
   . rcases getElem?_set_cases hj with ⟨rfl,rfl⟩ | ⟨hne',hj⟩
     . exact fun _=>rfl
     . rw [hself,getD_set_ne (Ne.symm hne')]
       exact fun e=>absurd e.symm (hfree j y hj hy)
   . rcases getElem?_set_cases hj with ⟨rfl,rfl⟩ | ⟨hne',hj⟩
     . rw [hself,getD_set_ne (Ne.symm hne)]
       exact fun e=>absurd e (hfree i x hi' hx)
     . rw [getD_set_ne (Ne.symm hne),getD_set_ne (Ne.symm hne')];exact h.inj i j x y hi' hj hx hy
 . intro i x s b hi hr
   have:∃ hv:AV,J[s]? = some hv/\hv.fits b=true:=by
    rcases getElem?_set_cases hi with ⟨rfl,rfl⟩ | ⟨hne,hi⟩
    . cases x<;>simp [AV.rf,AV.yco] at hr hav
    . exact h.refs i x s b hi hr
   obtain ⟨hv,h1,h2⟩:=this;exact ⟨hv,by rw [List.getElem?_set_ne (hns s b hv h1 h2)];exact h1,h2⟩
 . intro t i x ht hi hx;show _≠some (blk ((a.tmps.setIfInBounds d v).getD i Go.undef))
   rcases getElem?_set_cases hi with ⟨rfl,rfl⟩ | ⟨hne,hi⟩
   . rw [hself];exact hfreet t (hlive t ht)
   . rw [getD_set_ne (Ne.symm hne)];exact h.tbox t i x (hlive t ht) hi hx
structure xfc (b:Nat) (w w':World):Prop where
 os:w'.os=w.os
 tape:w'.tape=w.tape
 output:w'.output=w.output
 size:w.heap.size<=w'.heap.size
 block:∀ k,k<w.heap.size->k≠b->w'.heap[k]? = w.heap[k]?
theorem xfc.keeps {b:Nat} {w w':World} (h:xfc b w w') {M:Nat->Nat->Prop} (hM:∀ o,M b o):zg8 M M w w':=fun b' o u hm hc=>⟨hm,by
 have hl:=World.block_lt_of_cell? w _ hc
 have:=h.block b' hl (fun e=>hm (by rw [e];exact hM o))
 simp only [World.cell?,this] at hc ⊢
 exact hc⟩
theorem RelI.turn {E:Env} {τ:Nat->TV} {M:Nat->Nat->Prop} {J:List AV} {a:Act} {w w':World} (h:RelI E τ M J a w) {s:Nat} {old new:AV} (hs:J[s]? = some old) (ho:old.yco=true) (hn:new.yco=true)
 (hf:∀ b,old.fits b=true->new.fits b=true) (hfr:new.fresh=old.fresh) (hbx:xfc (blk (a.tmps.getD s Go.undef)) w w') (hok:yhf M w' τ a.tmps (a.tmps.getD s Go.undef) new)
 (htok:∀ t,new.wjv t->live J t):RelI E τ M (J.set s new) a w':=by
 generalize hb:blk (a.tmps.getD s Go.undef)=b at *;have hM:∀ o,M b o:=hb▸(h.hold s old hs ho).1;have hk:zg8 M M w w':=hbx.keeps hM
 have hlive:∀ t,live (J.set s new) t->live J t:=fun t ⟨i,x,hi,hx⟩=>by
  rcases getElem?_set_cases hi with ⟨_,rfl⟩ | ⟨_,hi⟩
  . exact htok t hx
  . exact ⟨i,x,hi,hx⟩
 refine RelI.mk h.hd (by simpa using h.hs) ?_ h.m0 (fun b o hm=>Nat.lt_of_lt_of_le (h.mb b o hm) hbx.size) ?_ ?_ ?_ ?_ ?_ ?_ (Nat.le_trans h.size hbx.size) (hbx.os.trans h.os) (hbx.tape.trans h.tape) (hbx.output.trans h.output) ?_
 . intro i x hi
   rcases getElem?_set_cases hi with ⟨rfl,rfl⟩ | ⟨hne,hi⟩
   . exact hok
   . refine (h.slot i x hi).keep hk (fun _ _=>rfl) (fun _ _ _=>rfl) (fun hh=>hbx.block _ ((h.slot i x hi).vgz hh) ?_)
     exact fun e=>hne (h.inj i s x old hi hs hh ho (e.trans hb.symm))
 . intro i x hi hh
   rcases getElem?_set_cases hi with ⟨rfl,rfl⟩ | ⟨hne,hi⟩
   . exact hfr▸h.hold i old hs ho
   . exact h.hold i x hi hh
 . intro i j x y hi hj hx hy
   have key:∀(i:Nat) (x:AV),(J.set s new)[i]? = some x->x.yco=true->∃ x':AV,J[i]? = some x'/\x'.yco=true:=fun i x hi hx=>by
    rcases getElem?_set_cases hi with ⟨rfl,rfl⟩ | ⟨hne,hi⟩
    . exact ⟨old,hs,ho⟩
    . exact ⟨x,hi,hx⟩
   obtain ⟨x',hi',hx'⟩:=key i x hi hx;obtain ⟨y',hj',hy'⟩:=key j y hj hy;exact h.inj i j x' y' hi' hj' hx' hy'
 . intro i x s' b' hi hr
   have:∃ hv:AV,J[s']? = some hv/\hv.fits b'=true:=by
    rcases getElem?_set_cases hi with ⟨rfl,rfl⟩ | ⟨hne,hi⟩
    . cases x<;>simp [AV.rf,AV.yco] at hr hn
    . exact h.refs i x s' b' hi hr
   obtain ⟨hv,h1,h2⟩:=this;by_cases e:s'=s
   . subst e;rw [hs] at h1;cases h1;have hl:s'<J.length:=(List.getElem?_eq_some_iff.1 hs).1;exact ⟨new,by simp [hl],hf _ h2⟩
   . exact ⟨hv,by rw [List.getElem?_set_ne (Ne.symm e)];exact h1,h2⟩
 . intro t ht
   rcases h.toks t (hlive t ht) with h' | ⟨e,n,xs,hown,hm⟩
   . exact .inl h'
   . rcases hown.2 with ⟨h1,_⟩ | ⟨g,cap,cur,hv,hg,hh,hnc,r⟩
     . exact .inl ⟨none,h1⟩
     . cases cap with
       | zero=>exact .inl ⟨some ⟨g,0,none⟩,by rw [hv];simp at hnc;rw [hnc]⟩
       | succ cap=>
        refine .inr ⟨e,n,xs,⟨hown.1,.inr ⟨g,cap+1,cur,hv,hg,?_,hnc,r⟩⟩,hm⟩;rw [hbx.block g (Array.getElem?_eq_some_iff.1 hh).1]
        . exact hh
        . rintro rfl;exact h.tbox t s old (hlive t ht) hs ho (by rw [hv,hb];rfl)
 . exact fun t t' g ht ht'=>h.tinj t t' g (hlive t ht) (hlive t' ht')
 . intro t i x ht hi hx
   rcases getElem?_set_cases hi with ⟨rfl,rfl⟩ | ⟨hne,hi⟩
   . exact h.tbox t i old (hlive t ht) hs ho
   . exact h.tbox t i x (hlive t ht) hi hx
 . intro k hk' hx;rw [hbx.block k (Nat.lt_of_lt_of_le hk' h.size)]
   . exact h.frame k hk' hx
   . rintro rfl
     rcases (h.hold s old hs ho).2.1 with h1 | h1
     . rw [hb] at h1;omega
     . rw [hb] at h1;exact hx h1
inductive OV where
 | bx (cs:List Cell)
 | wn (c:Cell) (lo n:Nat)
def xmi (J:List AV) (x:Operand):Option (Nat×OV):=match x with
 | .tmp t=>match gt J t with
  | .box cs=>some (t,.bx (v8h cs))
  | .obx cs=>some (t,.bx (v8h cs))
  | .ptr s off=>if off=0 then match gt J s with
   | .box cs=>some (s,.bx (v8h cs))
   | .obx cs=>some (s,.bx (v8h cs))
   | _=>none
   else none
  | .arr _ c _=>some (t,.wn c 0 c.cnt)
  | .asl s=>match gt J s with
   | .arr _ c _=>some (s,.wn c 0 c.cnt)
   | _=>none
  | .awn s m lo n=>match gt J s with
   | .arr _ c _=>if m=c.esz/\lo+n<=c.cnt/\(n≠0\/lo=0) then some (s,.wn c lo n) else none
   | _=>none
  | _=>none
 | _=>none
def zu8 (J:List AV) (x:Operand):List Nat:=match xmi J x with
 | some (s,_)=>s::orr x
 | none=>orr x
def z1q (J:List AV):List Operand->Option (List AV×Nat×Nat×OV)
 | []=>none
 | x::r=>match xmi J x with
  | some (s,ov)=>match w2d J r with
   | some l=>some (.any::l,0,s,ov)
   | none=>none
  | none=>match argA (opd J x),z1q J r with
   | some av,some (l,j,s,ov)=>some (av::l,j+1,s,ov)
   | _,_=>none
def xpu (s:Nat):Nat->List AV->List (Nat×AV)
 | _,[]=>[]
 | i,av::r=>if hitB s i av=true then (i,.any)::xpu s (i+1) r else xpu s (i+1) r
theorem vc9 (s:Nat):∀(J:List AV) (k:Nat) (p:Nat×AV),p∈xpu s k J->k<=p.1
 | [],_,p,h=>by cases h
 | av::r,k,p,h=>by
  have ih:=vc9 s r (k+1) p;unfold xpu at h;split at h
  . rcases List.mem_cons.1 h with rfl | h
    . exact Nat.le_refl _
    . exact Nat.le_of_succ_le (ih h)
  . exact Nat.le_of_succ_le (ih h)
theorem zax (s:Nat):∀(J:List AV) (k i:Nat),i<J.length->
 ((xpu s k J).reverse.find? (fun p=>p.1==k+i))=if hitB s (k+i) (gt J i)=true then some (k+i,AV.any) else none
 | [],_,i,h=>by simp at h
 | av::r,k,i,h=>by
  have none_of:(xpu s (k+1) r).reverse.find? (fun p=>p.1==k)=none:=by
   rw [List.find?_eq_none];intro p hp
   have:=vc9 s r (k+1) p (List.mem_reverse.1 hp)
   simp only [beq_iff_eq];omega
  cases i with
  | zero=>
   have hg:gt (av::r) 0=av:=rfl;rw [hg,Nat.add_zero];unfold xpu
   split
   . rw [List.reverse_cons,List.find?_append,none_of];simp
   . exact none_of
  | succ i=>
   have ih:=zax s r (k+1) i (by simpa using h);have hg:gt (av::r) (i+1)=gt r i:=rfl;rw [hg,show k+(i+1)=k+1+i by omega,<-ih]
   have hd:xpu s k (av::r)=if hitB s k av=true then (k,.any)::xpu s (k+1) r else xpu s (k+1) r:=rfl
   rw [hd]
   split
   . rw [List.reverse_cons,List.find?_append];simp [show ¬k=k+1+i by omega]
   . rfl
theorem wl0 (s:Nat) (J:List AV):app (xpu s 0 J) J=vos s J:=by
 apply zy2 (by rw [xpx,zvo]);intro i hi;rw [xpx] at hi;have h1:=xeo (xpu s 0 J) J i hi;have h2:=zax s J 0 i hi;simp only [Nat.zero_add] at h2
 have h3:gt (vos s J) i=wyq s i (gt J i):=by
  unfold vos Slot.gt;rw [xpp]
  cases hh:J[i]? with
  | none=>rw [List.getElem?_eq_none_iff] at hh;omega
  | some x=>simp
 rw [h1,h2,h3];unfold wyq
 split<;>rfl
theorem vk7 {s i:Nat}:xpu s i []=[]:=rfl
theorem zqi {tk:List Nat} {i:Nat}:wr3 tk i []=[]:=rfl
theorem yik {T e:TypeId} {i:TypeInfo} {z:Value} (ht:P.underlying T=some (.slice e)) (hi:P.info? e=some i) (hz:i.zero=some z) (w:World) (ty:TypeId) {ad0:Option Addr} {n old:Nat} {xs:List Value} {yad:Option Addr} {m ycap:Nat} {news:List Value}
 (hfd:(Builtin.firstCells i.size m (.slice yad m ycap)).run P w.drew=.ok news.toArray w.drew) (hfo:(Builtin.firstCells i.size n (.slice ad0 n old)).run P w.drew=.ok xs.toArray w.drew)
 (ho:old<n+m) (hbound:(n+m)*i.bytes<=140737488355328) (h63:n+m<=9223372036854775807) :
 (Builtin.append_ #[T,T] ty #[.slice ad0 n old,.slice yad m ycap]).run P w=.ok (.slice (some ⟨w.heap.size,0,none⟩) (n+m) (grownCap w (n+m) old e))
   (w.drew.alloc (.cells ((xs++news).toArray++Builtin.zeroCells z.cells (grownCap w (n+m) old e-(n+m))) e)):=by
 have hn:¬(n+m<=old):=by omega
 have h63':¬(9223372036854775807<((n:Int)+(m:Int))):=by omega
 have hfit:=growslice_fits (need:=n+m) (old:=old) (bytes:=i.bytes) ho hbound
 have h48':¬(281474976710656<Builtin.nextslicecap (n+m) old*i.bytes):=by omega
 simp [Builtin.append_,run_underlying ht,sizeOf,typeInfo,zeroValue,hi,hz,Builtin.lenOf,hn,h63',h48',Question.forced,hfd,hfo,newRow,grownCap]
 congr 2
 apply Array.ext';simp [List.append_assoc]
def xo5 (J:List AV) (x:Operand):Option (Nat×Cell):=match x with
 | .tmp t=>match gt J t with
  | .arr [] c none=>some (t,c)
  | .asl s=>match gt J s with
   | .arr [] c none=>some (s,c)
   | _=>none
  | _=>none
 | _=>none
def yly (J:List AV) (ti:TI) (d:Nat) (x y:Operand):Option (List Nat×List (Nat×AV)):=
 match ti.sh with
 | .slice _ es eb ik=>match xo5 J x,opd J y with
  | some (s,c),.one cy=>match xl4 es eb ik c cy.bare with
   | some c'=>if nh J d&&c.isSl then some (List.range J.length,xpu s 0 J++[(d,.arr [] c' none)]) else none
   | none=>none
  | _,_=>none
 | _=>none
theorem xm9 {M : Nat → Nat → Prop} {w : World} {es eb : Nat} {ik : Option IntKind} {c cy c' : Cell} (hes : 0 < es) (h : xl4 es eb ik c cy = some c') (hu : c.uni) {vy : Value} (hy : RdC M w vy cy) :
 ∃(m:Nat) (news:List Value) (fy:List Cell),(∃ ad cap,vy=.slice ad m cap)/\news.length=m*es/\RdD M w news fy/\(news=[]\/∃ b off cap,vy=.slice (some ⟨b,off,none⟩) m cap/\∀ j u,news[j]? = some u->¬M b (off+j)/\w.cell? ⟨b,off+j,none⟩=some u)/\
  c'.uni/\c'.cnt=c.cnt+m/\c'.esz=es/\c.esz=es/\c'.flat=c.flat++fy/\(c.cnt+m)*eb<=140737488355328/\c.cnt+m<=9223372036854775807:=by
 unfold xl4 at h;split at h
 . rename_i k;split at h
   . rename_i l l' hl hl';split at h
     . rename_i hc;obtain ⟨rfl,hb1,hb2⟩:=hc
       cases h
       have hcc:c=.ints k l:=by
        cases c with
        | ints k' l0=>simp only [vyk] at hl;split at hl<;>first | (rename_i e;subst e;cases hl;rfl) | cases hl
        | sl=>cases hl
        | _=>exact hu.elim
       subst hcc;obtain ⟨hyl,hyc⟩:=hy.vua hl';exact ⟨l'.length,l'.map (Value.int k),l'.map fun n=>.raw (.int k n),hyl,by simp,zly k l',hyc,trivial,by simp [Cell.cnt],rfl,rfl,by simp [Cell.flat],hb1,hb2⟩
     . cases h
   . cases h
 . split at h
   . rename_i l l' hl hl';split at h
     . rename_i hc;obtain ⟨hb1,hb2⟩:=hc
       cases h
       have hcc:c=.sl es l:=by
        cases c with
        | sl n0 l0=>simp only [vh8] at hl;split at hl<;>first | (rename_i e;subst e;cases hl;rfl) | cases hl
        | ints=>cases hl
        | _=>exact hu.elim
       subst hcc;obtain ⟨hyl,hyn,us,hul,hur,hyc⟩:=hy.vzp hes hl';refine ⟨l'.length,us,l'.flatten,hyl,hul,hur,hyc,fun r hr=>?_,by simp [Cell.cnt],rfl,rfl,by simp [Cell.flat],hb1,hb2⟩
       rcases List.mem_append.1 hr with h | h
       . exact hu r h
       . exact hyn r h
     . cases h
   . cases h
theorem z4u {E:Env} {τ:Nat->TV} {M:Nat->Nat->Prop} {J:List AV} {a:Act} {w:World} (hI:RelI E τ M J a w) {x:Operand} {s:Nat} {c:Cell} (h:xo5 J x=some (s,c)) :
 J[s]? = some (.arr [] c none)/\a.eval x=a.tmps.getD s Go.undef:=by
 unfold xo5 at h;split at h
 case h_2=>cases h
 rename_i t;split at h
 . rename_i c0 hg
   cases h;exact ⟨y2m hg (by simp),rfl⟩
 . rename_i s0 hg0;split at h
   . rename_i c0 hg
     cases h
     have:=hI.gt t
     rw [hg0] at this;exact ⟨y2m hg (by simp),this⟩
   . cases h
 . cases h
theorem wq1 {J:List AV} {o:Oper} {T:TypeId} {x y:Operand} (ho:o.op=.call { callee:=.builtin .append,args:=#[x,y],argTypes:=#[T,T] }) {d:Nat} (hdst:o.dst=some d) {ti:TI} (hti:mkTI P T=some ti)
 {rd:List Nat} {eff:List (Nat×AV)} (hA:yly J ti d x y=some (rd,eff)):zwl P o J rd [] eff:=by
 obtain ⟨ds,i0,z0,hd0,hi0,hz0,_,_,_,_,_,hsh'⟩:=(x03 hti).ex;unfold yly at hA;split at hA
 case h_2=>cases hA
 rename_i e es eb ik hsh;split at hA
 case h_2=>cases hA
 rename_i s c cy hx hy;split at hA
 case h_2=>cases hA
 rename_i c' xut;split at hA
 case isFalse=>cases hA
 rename_i hn;simp only [Bool.and_eq_true] at hn;simp only [Option.some.injEq,Prod.mk.injEq] at hA;obtain ⟨rfl,rfl⟩:=hA;obtain ⟨rfl,j,z',hj,hz',hjs,hjb,hes0,hzs,hik⟩:=x8u (hsh'.symm.trans hsh);have hes:0<es:=Nat.pos_of_ne_zero hes0;intro E J' a w hag _ ⟨τ,M,hI⟩ K Q hK;have hσ:J'=J:=zy2 hag.1 (fun i hi=>hag.2 i (List.mem_range.2 (by rw [<-hag.1];exact hi)));subst hσ;obtain ⟨hs,hev⟩:=z4u hI hx;have sy:=hI.opd y;rw [hy] at sy;have sy:RdT M w τ (a.eval y) cy:=sy;obtain ⟨b,Tb,vs,q,cap,e1,hheap,hr,_,hu,hcap,hcap'⟩:=hI.slot s _ hs;simp only [List.length_nil,List.nil_append] at e1 hheap;obtain ⟨m,news,fy,⟨yad,ycap,hyv⟩,hnl,hnr,hnc,hu',hcnt',hesz',hesz,hflat',hb1,hb2⟩:=xm9 hes xut hu sy.bare;have hold:=hI.hold s _ hs rfl
 have hblk:blk (a.tmps.getD s Go.undef)=b:=by rw [e1];rfl
 rw [hblk] at hold
 have hvl:vs.length=c.cnt*es:=by rw [hr.length,Cell.ygf hu,hesz]
 rw [hesz] at hcap';obtain ⟨old,h1,h2⟩:=wgw hn.1
 have hne:d≠s:=fun e=>by subst e;rw [hs] at h1;cases h1;cases h2
 have hfin:app (xpu s 0 J'++[(d,.arr [] c' none)]) J'=(vos s J').set d (.arr [] c' none):=by
  rw [wvu,wl0];rfl
 have hd1:∃ old1,(vos s J')[d]? = some old1/\old1.yco=false:=by
  unfold vos;rw [xpp,h1];refine ⟨_,rfl,?_⟩
  rcases wey s (0+d) old with e | ⟨e,_⟩
  . rw [e];rfl
  . rw [e];exact h2
 obtain ⟨old1,hd1,hd2⟩:=hd1
 have hfree:∀(i:Nat) (x:AV),(vos s J')[i]? = some x->x.yco=true->blk (a.tmps.getD i Go.undef)≠b:=fun i x hi hx e=>by
  obtain ⟨y,hy,rfl⟩:=z7e hi
  rcases wey s i y with e' | ⟨e',hne',_⟩
  . rw [e'] at hx;cases hx
  . rw [e'] at hx;exact hne' (hI.inj i s y _ hy hs hx rfl (e.trans hblk.symm))
 have hfreet:∀ t,live (vos s J') t->tokB (τ t).v≠some b:=fun t ⟨i,y,hi,hy⟩=>by
  obtain ⟨x,hx,rfl⟩:=z7e hi
  rcases wey s i x with e' | ⟨e',_⟩
  . rw [e'] at hy;exact hy.elim
  . rw [e'] at hy
    have:=hI.tbox t s _ ⟨i,x,hx,hy⟩ hs rfl
    rw [hblk] at this;exact this
 have hrunop:∀ v' w',(Builtin.append_ #[T,T] o.type #[.slice (some ⟨b,0,none⟩) c.cnt cap,.slice yad m ycap]).run P w=.ok v' w'->(execOp a.eval o).run P w=.ok (.value v') w':=fun v' w' hr'=>by
  simp [execOp,ho,resolve,invoke,builtin,hev,e1,hyv,hr']
 have hn1:∀ u∈news,u.oneCell'=true:=hnr.oneL
 have hnc':news=[]\/∃ b off cap,Value.slice yad m ycap=.slice (some ⟨b,off,none⟩) m cap/\∀ j u,news[j]? = some u->w.cell? ⟨b,off+j,none⟩=some u:=hnc.imp id fun ⟨b',off,cap',e',hh⟩=>⟨b',off,cap',by rw [<-hyv];exact e',fun j u hj=>(hh j u hj).2⟩
 have put:∀ v' w' (E':Env) (M':Nat->Nat->Prop),(execOp a.eval o).run P w=.ok (.value v') w'->RelI E τ M' ((vos s J').set d (.arr [] c' none)) (a.put (some d) v') w'->o.wp P a w K Q:=fun v' w' _ M' hr' hR=>by
  unfold Oper.wp;rw [hr'];show K (a.put o.dst v') w';rw [hdst];exact hK _ _ ⟨τ,M',by rw [hfin];exact hR⟩
 by_cases hroom:c.cnt+m<=cap
 ·
  have hf:(Builtin.firstCells j.size m (.slice yad m ycap)).run P w=.ok news.toArray w:=y5n w m _ news ⟨_,_,rfl⟩ (by rw [hjs];exact hnl) hnc'
  have hfit:c.cnt*es+news.length<=(vs++q).length:=by
   rw [hnl,<-Nat.add_mul];refine Nat.le_trans (Nat.mul_le_mul_right _ hroom) ?_;rw [List.length_append];exact hcap'
  have hrun:=w2e (P:=P) hd0 hj w o.type b Tb c.cnt cap _ hheap m (.slice yad m ycap) news ⟨_,_,rfl⟩ (by rw [hjs];exact hnl) hf hn1 hroom (by rw [hjs];simpa using hfit);rw [hjs] at hrun;simp only at hrun;generalize hnew:((vs++q).take (c.cnt*es)++news++(vs++q).drop (c.cnt*es+news.length)).toArray=new at hrun
  have hnew':new=(([]:List Value)++((vs++news)++(vs++q).drop (c.cnt*es+news.length))).toArray:=by
   rw [<-hnew,<-hvl,List.take_left];simp
  have hb0:b<w.heap.size:=(Array.getElem?_eq_some_iff.1 hheap).1;have hbx:xfc b w (w.setRow b new):=⟨rfl,rfl,rfl,by simp,fun k _ hk=>setRow_other w b k _ hk⟩
  have hI':RelI E τ M J' a (w.setRow b new):=by
   have h3:=hI.turn (new:=.arr [] c none) hs rfl rfl (fun _ h=>h) rfl (by rw [hblk];exact hbx) (by
    refine ⟨b,Tb,vs,news++(vs++q).drop (c.cnt*es+news.length),cap,e1,?_,hr.keep (hbx.keeps hold.1),fun p hp=>(by cases hp),hu,hcap,?_⟩
    . rw [setRow_heap w b _ new Tb (0,0) hheap,hnew'];simp
    . rw [hesz];simp only [List.length_append,List.length_drop]
      omega) (fun t ht=>ht.elim)
   have:J'.set s (.arr [] c none)=J':=by
    apply List.ext_getElem?;intro i;rw [List.getElem?_set]
    split
    . rename_i e;subst e;rw [hs];simp [(List.getElem?_eq_some_iff.1 hs).1]
    . rfl
   rwa [this] at h3
  refine put _ _ E _ (hrunop _ _ hrun) ((hI'.vos s).take hd1 hd2 (.slice (some ⟨b,0,none⟩) (c.cnt+m) cap) (.arr [] c' none) rfl rfl (hold.2.2.1 rfl) hold.1 hfree hfreet ?_ (fun t ht=>ht.elim));refine ⟨b,Tb,vs++news,(vs++q).drop (c.cnt*es+news.length),cap,by rw [hcnt'];rfl,?_,?_,fun p hp=>(by cases hp),hu',by rw [hcnt'];exact hroom,?_⟩
  . rw [setRow_heap w b _ new Tb (0,0) hheap,hnew']
  . rw [hflat'];exact (hr.app hnr).keep (hbx.keeps hold.1)
  . rw [hesz'];simp only [List.length_append,List.length_drop] at hfit ⊢;omega
 ·
  have hfd:(Builtin.firstCells j.size m (.slice yad m ycap)).run P w.drew=.ok news.toArray w.drew:=y5n w.drew m _ news ⟨_,_,rfl⟩ (by rw [hjs];exact hnl) hnc'
  have hfo:(Builtin.firstCells j.size c.cnt (.slice (some ⟨b,0,none⟩) c.cnt cap)).run P w.drew=.ok vs.toArray w.drew:=y5n w.drew c.cnt _ vs ⟨_,_,rfl⟩ (by rw [hjs];exact hvl) (.inr ⟨b,0,cap,rfl,fun j u hj=>by
   rw [Nat.zero_add];have hlt:j<vs.length:=(List.getElem?_eq_some_iff.1 hj).1
   have:w.drew.heap[b]? = some (.cells (vs++q).toArray Tb (0,0)):=hheap
   simp only [World.cell?,this,List.getElem?_toArray]
   rw [List.getElem?_append_left hlt];exact hj⟩)
  have hrun:=yik (P:=P) hd0 hj hz' w o.type hfd hfo (by omega) (by rw [hjb];exact hb1) hb2;generalize hgc:grownCap w (c.cnt+m) cap e=gc at hrun
  have hge:c.cnt+m<=gc:=by rw [<-hgc];exact grownCap_ge w (c.cnt+m) cap e
  have hbl:Below w.heap.size w (w.drew.alloc (.cells ((vs++news).toArray++Builtin.zeroCells z'.cells (gc-(c.cnt+m))) e)):=((Below.refl _ _).drew).alloc (Nat.le_refl _) _;have hheap':(w.drew.alloc (.cells ((vs++news).toArray++Builtin.zeroCells z'.cells (gc-(c.cnt+m))) e)).heap[w.heap.size]? = some (.cells ((vs++news).toArray++Builtin.zeroCells z'.cells (gc-(c.cnt+m))) e (0,0)):=zvd w.drew _;refine put _ _ E _ (hrunop _ _ hrun) ((hI.vos s).zp7 hbl hd1 hd2 (.slice (some ⟨w.heap.size,0,none⟩) (c.cnt+m) gc) (.arr [] c' none) rfl rfl (Nat.le_refl _) (by simp [blk]) ?_ (fun t ht=>ht.elim));refine ⟨w.heap.size,e,vs++news,(Builtin.zeroCells z'.cells (gc-(c.cnt+m))).toList,gc,by rw [hcnt'];rfl,?_,?_,fun p hp=>(by cases hp),hu',by rw [hcnt'];exact hge,?_⟩
  . rw [hheap']
    congr 2
    apply Array.ext';simp
  . rw [hflat'];refine (hr.app hnr).keep (fun b' o u hm hc=>?_);have hl:=World.block_lt_of_cell? w _ hc;exact ⟨fun hh=>hh.elim hm (fun hh=>by simp only [blk] at hh;simp only at hl;omega),(zg8.below hbl b' o u hm hc).2⟩
  . rw [hesz',List.length_append,hvl,hnl,Array.length_toList,size_zeroCells,hzs,<-Nat.add_mul,<-Nat.add_mul];exact Nat.mul_le_mul_right _ (by omega)
def nilV:Value->Bool
 | .slice none 0 0=>true
 | _=>false
def nilO:Operand->Bool
 | .const v=>nilV v
 | .tmp _=>false
 | .global _=>false
 | .func _=>false
theorem vgx {x:Operand} (h:nilO x=true):x=.const (.slice none 0 0):=by
 cases x with
 | const v=>
  simp only [nilO] at h;unfold nilV at h;split at h
  . rfl
  . cases h
 | _=>cases h
def tiX {α:Type} (P:Program) (t:TypeId) (k:TI->Option α):Option α:=match mkTI P t with
 | some ti=>k ti
 | none=>none
theorem wkl {α:Type} {t:TypeId} {k:TI->Option α} {r:α} (h:tiX P t k=some r):∃ ti,mkTI P t=some ti/\k ti=some r:=by
 unfold tiX at h;split at h
 . rename_i ti hti;exact ⟨ti,hti,h⟩
 . cases h
def yho (J:List AV) (x:Operand):Bool:=match x with
 | .tmp t=>match gt J t with
  | .arr _ _ _ | .asl _=>true
  | _=>false
 | _=>false
def eqOp:BinOp->Bool
 | .eql=>true
 | .neq=>true
 | _=>false
def yhi:AV->AV->Bool
 | .one (.raw (.bool _)),.one (.raw (.bool _))=>true
 | _,_=>false
def bbA (ti:TI) (op:BinOp) (x y:AV):Option AV:=match ti.sh with
 | .bool=>match x,y with
  | .one (.raw (.bool a)),.one (.raw (.bool b))=>match op with
   | .eql=>some (.one (.raw (.bool (a==b))))
   | .neq=>some (.one (.raw (.bool (a != b))))
   | _=>none
  | _,_=>none
 | _=>none
theorem z7o {d:TypeDesc} (h:shOf P d=.bool):d=.bool:=by
 cases d with
 | bool=>rfl
 | slice e=>
  exfalso;revert h;unfold shOf;dsimp only
  split
  . split
    . split<;>simp
    . simp
  . simp
 | struct fl=>
  exfalso;revert h;unfold shOf;dsimp only;split<;>simp
 | _=>simp [shOf] at h
theorem yo3 {J:List AV} {o:Oper} {op:BinOp} {T U:TypeId} {x y:Operand} (ho:o.op=.binOp op T x y U) {ti:TI} (hti:mkTI P T=some ti) {av:AV} (hb:bbA ti op (opd J x) (opd J y)=some av) {r:List Nat×List (Nat×AV)}
 (h:val J o (orr x++orr y) av=some r):zwl P o J r.1 [] r.2:=by
 unfold bbA at hb;split at hb
 case h_2=>cases hb
 rename_i hsh;split at hb
 case h_2=>cases hb
 rename_i u v hx hy;obtain ⟨d,i,z,hd,hi,hz,_,_,_,_,_,hsh'⟩:=(x03 hti).ex;obtain rfl:=z7o (hsh'.symm.trans hsh)
 have heq:∀ w:World,(Op.equal T (.bool u) (.bool v)).run P w=.ok (u==v) w:=fun w=>by
  show (Op.equalIn (9999+1) T (.bool u) (.bool v)).run P w=_;unfold Op.equalIn;simp [yot hd]
 have eva:∀(E:Env) (τ:Nat->TV) (M:Nat->Nat->Prop) (J':List AV) (a:Act) (w:World),(∀ x':Operand,(∀ t∈orr x',t∈orr x++orr y)->opd J' x'=opd J x')->RelI E τ M J' a w->a.eval x=.bool u/\a.eval y=.bool v:=fun E τ M J' a w hop hI=>by
  have sx:=hI.opd x;have sy:=hI.opd y;rw [hop x (fun t ht=>by simp [ht]),hx] at sx;rw [hop y (fun t ht=>by simp [ht]),hy] at sy;exact ⟨RdC.y6j sx,RdC.y6j sy⟩
 split at hb
 . cases hb;refine zwl.pure h rfl rfl (fun E τ M J' a w hop _ hI=>⟨.bool (u==v),?_,RdC.raw rfl,fun t ht=>ht.elim⟩);obtain ⟨ex,ey⟩:=eva E τ M J' a w hop hI;simp [execOp,ho,ex,ey,eqGuard,binOp,heq]
 . cases hb;refine zwl.pure h rfl rfl (fun E τ M J' a w hop _ hI=>⟨.bool (u != v),?_,RdC.raw rfl,fun t ht=>ht.elim⟩);obtain ⟨ex,ey⟩:=eva E τ M J' a w hop hI;simp [execOp,ho,ex,ey,eqGuard,binOp,heq,bne]
 . cases hb
def isX (J:List AV):Op->Bool
 | .binOp op _ x y _=>match nilO y with
  | true=>true
  | false=>match eqOp op with
   | true=>yhi (opd J x) (opd J y)
   | false=>false
 | .buildSlice _ n _=>n==0
 | .call c=>match c.callee with
  | .builtin .append=>match c.args.toList with
   | [x,_]=>yho J x
   | _=>false
  | .builtin .max=>true
  | .builtin .min=>true
  | _=>false
 | _=>false
def maxV (b:Bool):AV->AV->Option AV
 | .one (.raw (.int k x)),.one (.raw (.int k' y))=>if k=k' then some (.one (.raw (.int k (match b with | true=>max x y | false=>min x y)))) else none
 | _,_=>none
theorem wlw {J:List AV} {o:Oper} {b:Bool} {x y:Operand} {ts:Array TypeId} (ho:o.op=.call { callee:=.builtin (match b with | true=>.max | false=>.min),args:=#[x,y],argTypes:=ts }) {av:AV} (hb:maxV b (opd J x) (opd J y)=some av)
 {r:List Nat×List (Nat×AV)} (h:val J o (orr x++orr y) av=some r):zwl P o J r.1 [] r.2:=by
 unfold maxV at hb;split at hb
 . rename_i k u k' v hx hy;split at hb
   . rename_i hkk;subst hkk
     cases hb;refine zwl.pure h rfl rfl (fun E τ M J' a w hop hgt hI=>⟨_,?_,RdC.raw rfl,fun t ht=>ht.elim⟩);have sx:=hI.opd x;rw [hop x (fun t ht=>List.mem_append.2 (.inl ht)),hx] at sx;have sy:=hI.opd y;rw [hop y (fun t ht=>List.mem_append.2 (.inr ht)),hy] at sy;have ex:a.eval x=.int k u:=RdC.y6j sx;have ey:a.eval y=.int k v:=RdC.y6j sy
     cases b with
     | true=>
      have:(if v > u then v else u)=max u v:=by split<;>omega
      simp [execOp,ho,resolve,invoke,builtin,Builtin.max_,Builtin.max2,ex,ey,this]
     | false=>
      have:(if v<u then v else u)=min u v:=by split<;>omega
      simp [execOp,ho,resolve,invoke,builtin,Builtin.min_,Builtin.min2,ex,ey,this]
   . cases hb
 . cases hb
def valX (J:List AV) (o:Oper) (rd:List Nat) (a:Option AV):Option (List Nat×List (Nat×AV)):=match a with
 | some av=>val J o rd av
 | none=>none
def opX (P:Program) (J:List AV) (o:Oper):Option (List Nat×List (Nat×AV)):=
 match o.op with
 | .binOp op T x y _=>match nilO y with
  | true=>tiX P T fun ti=>valX J o (orr x) (nilA J ti op x)
  | false=>tiX P T fun ti=>valX J o (orr x++orr y) (bbA ti op (opd J x) (opd J y))
 | .buildSlice T n ps=>if n=0 then tiX P T fun ti=>valX J o [] (y8f ti ps.toList) else none
 | .call c=>match c.callee with
  | .builtin .append=>match c.args.toList,c.argTypes.toList,o.dst with
   | [x,y],[T,U],some d=>if T=U then tiX P T fun ti=>yly J ti d x y else none
   | _,_,_=>none
  | .builtin .max=>match c.args.toList with
   | [x,y]=>valX J o (orr x++orr y) (maxV true (opd J x) (opd J y))
   | _=>none
  | .builtin .min=>match c.args.toList with
   | [x,y]=>valX J o (orr x++orr y) (maxV false (opd J x) (opd J y))
   | _=>none
  | _=>none
 | _=>none
theorem v03 {J:List AV} {o:Oper} {rd:List Nat} {a:Option AV} {r:List Nat×List (Nat×AV)} (h:valX J o rd a=some r):∃ av,a=some av/\val J o rd av=some r:=by
 unfold valX at h;split at h
 . rename_i av;exact ⟨av,rfl,h⟩
 . cases h
theorem yej {J:List AV} {o:Oper} {r:List Nat×List (Nat×AV)} (h:opX P J o=some r):zwl P o J r.1 [] r.2:=by
 unfold opX at h;split at h
 . rename_i op T x y U ho;split at h
   . rename_i hnil;obtain ⟨ti,hti,hk⟩:=wkl h;obtain ⟨av,hav,hr⟩:=v03 hk;rw [vgx hnil] at ho;exact x4c ho hti hav hr
   . obtain ⟨ti,hti,hk⟩:=wkl h;obtain ⟨av,hav,hr⟩:=v03 hk;exact yo3 ho hti hav hr
 . rename_i T n ps ho;split at h
   . rename_i hn;obtain ⟨ti,hti,hk⟩:=wkl h;obtain ⟨av,hav,hr⟩:=v03 hk;exact vyb (by rw [ho]) hn hti hav hr
   . cases h
 . rename_i c ho;obtain ⟨callee,args,argTypes⟩:=c;simp only at h;split at h
   . split at h
     . rename_i x y T U d ha ht hd;split at h
       . rename_i hTU;subst hTU;obtain ⟨ti,hti,hk⟩:=wkl h
         have ea:args=#[x,y]:=by cases args;simp at ha;rw [ha]
         have et:argTypes=#[T,T]:=by cases argTypes;simp at ht;rw [ht]
         rw [ea,et] at ho;exact wq1 ho hd hti hk
       . cases h
     . cases h
   . split at h
     . rename_i x y ha;obtain ⟨av,hav,hr⟩:=v03 h
       have ea:args=#[x,y]:=by cases args;simp at ha;rw [ha]
       rw [ea] at ho;exact wlw (b:=true) ho hav hr
     . cases h
   . split at h
     . rename_i x y ha;obtain ⟨av,hav,hr⟩:=v03 h
       have ea:args=#[x,y]:=by cases args;simp at ha;rw [ha]
       rw [ea] at ho;exact wlw (b:=false) ho hav hr
     . cases h
   . cases h
 . cases h
inductive OR where
 | eff (rd tk:List Nat) (eff:List (Nat×AV))
 | call (f:FuncId) (args:List AV) (rd:List Nat)
 | fn (p:(Nat->Nat->Prop)->World->Value->Prop) (args:List AV) (rd:List Nat)
 | mk (f:FuncId) (caps:List AV) (rd:List Nat)
 | own (f:FuncId) (l:List AV) (j s:Nat) (ov:OV) (rd:List Nat)
 | bad
def OR.of:Option (List Nat×List (Nat×AV))->OR
 | some (rd,e)=>.eff rd [] e
 | none=>.bad
def xul:Value->Option FuncId
 | .func (.func f) fs cs=>match fs.toList,cs.toList with
  | [],[]=>some f
  | _,_=>none
 | _=>none
theorem zu0 {v:Value} {f:FuncId} (h:xul v=some f):v=.func (.func f) #[] #[]:=by
 unfold xul at h;split at h
 . rename_i f' fs cs;split at h
   . rename_i h1 h2
     cases h
     have e1:fs=#[]:=by rw [<-Array.toArray_toList (xs:=fs),h1]
     have e2:cs=#[]:=by rw [<-Array.toArray_toList (xs:=cs),h2]
     rw [e1,e2]
   . cases h
 . cases h
def yrq (P:Program) (t:TypeId) (k:TI->OR):OR:=match mkTI P t with
 | some ti=>k ti
 | none=>.bad
def vofA (J:List AV) (o:Oper) (rd:List Nat) (a:Option AV):OR:=match a with
 | some av=>.of (val J o rd av)
 | none=>.bad
def vofB (J:List AV) (o:Oper) (a:Option (List Nat×AV)):OR:=match a with
 | some (rd,av)=>.of (val J o rd av)
 | none=>.bad
def v9f (ti:TI) (av:AV):Bool:=match ti.sh with
 | .slice _ es _ _=>match av with
  | .one c=>match c.bare with
   | .ints _ _=>es==1
   | .sl n _=>es==n
   | _=>true
  | _=>true
 | _=>true
def zna (P:Program) (ti:TI) (k:TI->OR):OR:=match ti.sh with
 | .slice e _ _ _=>yrq P e k
 | _=>.bad
def vqb (ti:TI):Bool:=match ti.sh with
 | .array _ _ es=>es != 0
 | _=>true
def AV.wj2:AV->Bool
 | .arr _ _ _ | .asl _ | .awn _ _ _ _=>true
 | _=>false
def opB (P:Program) (J:List AV) (o:Oper):OR:=
 match o.op with
 | .move x=>.of (val J o (orr x) (cpy x (opd J x)))
 | .assign x=>.of (val J o (orr x) (cpy x (opd J x)))
 | .pick c x y=>vofA J o (orr c++orr x++orr y) (vbz J c x y)
 | .alloc T=>yrq P T fun ti=>.of (val J o [] (.box ti.zc))
 | .box _ x=>match x3a (opd J x) with
  | some cs=>.of (val J o (orr x) (.box cs))
  | none=>.bad
 | .load T x=>yrq P T fun ti=>vofB J o (y4v J ti x)
 | .store T x y=>match o.dst with
  | none=>yrq P T fun ti=>match w0o J ti x y with
   | some (rd,s,av)=>.eff rd [] [(s,av)]
   | none=>.bad
  | some _=>.bad
 | .fieldAddr S x f=>yrq P S fun ti=>vofA J o (orr x) (zgc J ti x f)
 | .extract x n=>vofA J o (orr x) (xl3 J x n)
 | .indexAddr T x y=>yrq P T fun ti=>vofB J o (vq0 J ti x y)
 | .binOp op _ x y _=>vofA J o (orr x++orr y) (binA J op x y)
 | .unOp op _ x=>vofA J o (orr x) (unA J op x)
 | .convert S D x=>yrq P S fun ts=>yrq P D fun td=>vofA J o (orr x) (y1c J ts td x)
 | .slice T x lo hi none=>yrq P T fun ti=>match (opd J x).wj2 with
  | true=>vofB J o (w2j J ti x lo hi)
  | false=>if v9f ti (opd J x) then vofA J o (orr x++orrO lo++orrO hi) (vx5 J ti x lo hi none) else .bad
 | .slice T x lo hi mx=>yrq P T fun ti=>if v9f ti (opd J x) then vofA J o (orr x++orrO lo++orrO hi++orrO mx) (vx5 J ti x lo hi mx) else .bad
 | .makeSlice T x y=>yrq P T fun ti=>zna P ti fun te=>vofA J o (orr x++orr y) (xse J ti te x y)
 | .build T ps=>yrq P T fun ti=>if vqb ti&&ti.sh.agg then vofA J o (orrs ps.toList) (zzn J ti ps.toList) else .bad
 | .buildSlice T n ps=>yrq P T fun ti=>zna P ti fun te=>vofA J o (orrs ps.toList) (vqs J ti te n ps.toList)
 | .call c => match c.callee with
  | .builtin .len=>match c.args.toList,c.argTypes.toList with
   | [x],[T]=>yrq P T fun ti=>if zcu J ti x then vofB J o (lenA J x) else .bad
   | _,_=>.bad
  | .builtin .append=>match c.args.toList,c.argTypes.toList,o.dst with
   | [x,y],[T,U],some d=>if T=U then yrq P T fun ti=>match y4f J ti d x y with
    | some (rd,tk,eff)=>.eff rd tk eff
    | none=>.bad
    else .bad
   | _,_,_=>.bad
  | .value (.func f)=>match w2d J c.args.toList with
   | some l=>if xah J o then .call f l (zvv o++orrL c.args.toList) else .bad
   | none=>match z1q J c.args.toList with
    | some (l,j,s,ov)=>if xah J o then .own f l j s ov (zvv o++s::orrL c.args.toList) else .bad
    | none=>.bad
  | .value (.tmp t)=>match gt J t,w2d J c.args.toList with
   | .one (.raw v),some l=>match xul v with
    | some f=>if xah J o then .call f l (zvv o++t::orrL c.args.toList) else .bad
    | none=>.bad
   | .one (.fnp p),some l=>if xah J o then .fn p l (zvv o++t::orrL c.args.toList) else .bad
   | _,_=>.bad
  | _=>.bad
 | .makeFunc (.func f) fs cs=>match fs.toList,w2d J cs.toList,o.dst with
  | [],some l,some d=>if nh J d then .mk f l (d::orrL cs.toList) else .bad
  | _,_,_=>.bad
 | _=>.bad
theorem y5o {J:List AV} {o:Oper} {rd0:List Nat} {av:AV} (hs:∀ r,val J o rd0 av=some r->zwl P o J r.1 [] r.2) {rd tk:List Nat} {eff:List (Nat×AV)} (h:OR.of (val J o rd0 av)=.eff rd tk eff):tk=[]/\zwl P o J rd tk eff:=by
 cases hv:val J o rd0 av with
 | none=>rw [hv] at h;cases h
 | some r=>rw [hv] at h;cases h;exact ⟨rfl,hs r hv⟩
theorem v4f {α:Type} {a:Array α} {l:List α} (h:a.toList=l):a=l.toArray:=by rw [<-h]
theorem vcg {J:List AV} {ti:TI} {d:Nat} {x y:Operand} {rd tk:List Nat} {eff:List (Nat×AV)} (h:y4f J ti d x y=some (rd,tk,eff)):∀ t∈tk,∀ i,(gt J i).wjv t->i∈rd:=by
 unfold y4f at h;split at h
 case h_2=>cases h
 split at h
 case h_2=>cases h
 split at h
 case h_2=>cases h
 split at h
 case h_2=>cases h
 split at h
 case isFalse=>cases h
 simp only [Option.some.injEq,Prod.mk.injEq] at h;obtain ⟨rfl,rfl,rfl⟩:=h;intro t ht i hi
 have hlt:i<J.length:=by
  rcases Nat.lt_or_ge i J.length with h | h
  . exact h
  . unfold gt at hi;rw [List.getElem?_eq_none h] at hi;exact hi.elim
 have key:∀ tk:List Nat,t∈tk->i∈(wr3 tk 0 J).map (·.1):=fun tk ht=>by
  have hf:=xrf tk J 0 i hlt;simp only [Nat.zero_add] at hf;rw [if_neg (fun hall=>AV.wfl ((List.all_eq_true.1 hall) t ht) hi)] at hf
  have:=List.mem_of_find?_eq_some hf
  exact List.mem_map.2 ⟨_,by simpa using this,rfl⟩
 simp only [List.mem_cons,List.mem_append];exact .inr (.inr (key _ ht))
theorem yxa {J:List AV} {o:Oper} {rd0:List Nat} {a:Option AV} (hs:∀ av,a=some av->∀ r,val J o rd0 av=some r->zwl P o J r.1 [] r.2) {rd tk:List Nat} {eff:List (Nat×AV)} (h:vofA J o rd0 a=.eff rd tk eff):tk=[]/\zwl P o J rd tk eff:=by
 unfold vofA at h;split at h
 . exact y5o (hs _ rfl) h
 . cases h
theorem v4a {J:List AV} {o:Oper} {a:Option (List Nat×AV)} (hs:∀ rd0 av,a=some (rd0,av)->∀ r,val J o rd0 av=some r->zwl P o J r.1 [] r.2) {rd tk:List Nat} {eff:List (Nat×AV)} (h:vofB J o a=.eff rd tk eff):tk=[]/\zwl P o J rd tk eff:=by
 unfold vofB at h;split at h
 . exact y5o (hs _ _ rfl) h
 . cases h
theorem vpb {t:TypeId} {k:TI->OR} {r:OR} (hr:r≠.bad) (h:yrq P t k=r):∃ ti,mkTI P t=some ti/\k ti=r:=by
 unfold yrq at h;split at h
 . rename_i ti hti;exact ⟨ti,hti,h⟩
 . exact absurd h.symm hr
theorem xbo {ti:TI} {k:TI->OR} {r:OR} (hr:r≠.bad) (h:zna P ti k=r):∃ e es eb ik te,ti.sh=.slice e es eb ik/\mkTI P e=some te/\k te=r:=by
 unfold zna at h;split at h
 . rename_i e es eb ik hs;obtain ⟨te,h1,h2⟩:=vpb hr h;exact ⟨e,es,eb,ik,te,hs,h1,h2⟩
 . exact absurd h.symm hr
theorem w3u {J:List AV} {o:Oper} {rd tk:List Nat} {eff:List (Nat×AV)} (h:opB P J o=.eff rd tk eff):zwl P o J rd tk eff/\(∀ t∈tk,∀ i,(gt J i).wjv t->i∈rd):=by
 have nt:(tk=[]/\zwl P o J rd tk eff)->zwl P o J rd tk eff/\(∀ t∈tk,∀ i,(gt J i).wjv t->i∈rd):=fun ⟨h1,h2⟩=>⟨h2,by rw [h1];intro t ht;cases ht⟩
 have nb:OR.eff rd tk eff≠.bad:=by simp
 unfold opB at h;split at h
 . rename_i x ho;exact nt (y5o (fun r hr=>wo2 (.inl ho) hr) h)
 . rename_i x ho;exact nt (y5o (fun r hr=>wo2 (.inr ho) hr) h)
 . rename_i c x y ho;exact nt (yxa (fun av ha r hr=>zs7 ho ha hr) h)
 . rename_i T ho;obtain ⟨ti,hti,hk⟩:=vpb nb h;exact nt (y5o (fun r hr=>xfl ho hti hr) hk)
 . rename_i T x ho;split at h
   . rename_i cs hcs;exact nt (y5o (fun r hr=>yd1 ho hcs hr) h)
   . cases h
 . rename_i T x ho;obtain ⟨ti,hti,hk⟩:=vpb nb h;exact nt (v4a (fun rd0 av ha r hr=>yo1 ho hti ha hr) hk)
 . rename_i T x y ho;split at h
   . rename_i hd;obtain ⟨ti,hti,hk⟩:=vpb nb h;split at hk
     . rename_i rd' s av hst
       cases hk;exact nt ⟨rfl,wpz ho hd hti hst⟩
     . cases hk
   . cases h
 . rename_i S x f ho;obtain ⟨ti,hti,hk⟩:=vpb nb h;exact nt (yxa (fun av ha r hr=>wd0 ho hti ha hr) hk)
 . rename_i x n ho;exact nt (yxa (fun av ha r hr=>yfo ho ha hr) h)
 . rename_i T x y ho;obtain ⟨ti,hti,hk⟩:=vpb nb h;exact nt (v4a (fun rd0 av ha r hr=>xpf ho hti ha hr) hk)
 . rename_i op T x y U ho;exact nt (yxa (fun av ha r hr=>w5m ho ha hr) h)
 . rename_i op T x ho;exact nt (yxa (fun av ha r hr=>zio ho ha hr) h)
 . rename_i S D x ho;obtain ⟨ts,hts,hk⟩:=vpb nb h;obtain ⟨td,htd,hk⟩:=vpb nb hk;exact nt (yxa (fun av ha r hr=>yl1 ho hts htd ha hr) hk)
 . rename_i T x lo hi ho;obtain ⟨ti,hti,hk⟩:=vpb nb h;split at hk
   . exact nt (v4a (fun rd0 av ha r hr=>xeb ho hti ha hr) hk)
   . split at hk
     . rename_i hok;refine nt (yxa (fun av ha r hr=>x83 ho hti (fun e es eb ik hsh c hc=>?_) ha (by simpa [orrO] using hr)) hk);unfold v9f at hok;simp only [hsh,hc] at hok;refine ⟨fun k L e=>?_,fun n rows e=>?_⟩
       . rw [e] at hok;simpa using hok
       . rw [e] at hok;simpa using hok
     . cases hk
 . rename_i T x lo hi mx _ ho;obtain ⟨ti,hti,hk⟩:=vpb nb h;split at hk
   . rename_i hok;refine nt (yxa (fun av ha r hr=>x83 ho hti (fun e es eb ik hsh c hc=>?_) ha hr) hk);unfold v9f at hok;simp only [hsh,hc] at hok;refine ⟨fun k L e=>?_,fun n rows e=>?_⟩
     . rw [e] at hok;simpa using hok
     . rw [e] at hok;simpa using hok
   . cases hk
 . rename_i T x y ho;obtain ⟨ti,hti,hk⟩:=vpb nb h;obtain ⟨e,es,eb,ik,te,hs,hte,hk⟩:=xbo nb hk;exact nt (yxa (fun av ha r hr=>ytn ho hti (fun e' es' eb' ik' hs'=>by rw [hs] at hs';cases hs';exact hte) ha hr) hk)
 . rename_i T ps ho;obtain ⟨ti,hti,hk⟩:=vpb nb h;split at hk
   . rename_i hok;simp only [Bool.and_eq_true] at hok;refine nt (yxa (fun av ha r hr=>z5w (by rw [ho]) hti (fun n e es hs=>?_) ha hok.2 hr) hk)
     have:=hok.1
     unfold vqb at this;rw [hs] at this;simpa using this
   . cases hk
 . rename_i T n ps ho;obtain ⟨ti,hti,hk⟩:=vpb nb h;obtain ⟨e,es,eb,ik,te,hs,hte,hk⟩:=xbo nb hk;exact nt (yxa (fun av ha r hr=>ys0 (by rw [ho]) hti (fun e' es' eb' ik' hs'=>by rw [hs] at hs';cases hs';exact hte) ha hr) hk)
 . rename_i c ho;obtain ⟨callee,args,argTypes⟩:=c;simp only at h;split at h
   . split at h
     . rename_i x T ha ht;obtain ⟨ti,hti,hk⟩:=vpb nb h;split at hk
       . rename_i hfit;rw [v4f ha,v4f ht] at ho;exact nt (v4a (fun rd0 av hb r hr=>wao ho hti hfit hb hr) hk)
       . cases hk
     . cases h
   . split at h
     . rename_i x y T U d ha ht hd;split at h
       . rename_i hTU;subst hTU;obtain ⟨ti,hti,hk⟩:=vpb nb h;split at hk
         . rename_i rd' tk' eff' hA
           cases hk;rw [v4f ha,v4f ht] at ho;exact ⟨zu3 ho hd hti hA,vcg hA⟩
         . cases hk
       . cases h
     . cases h
   . split at h
     . split at h<;>cases h
     . split at h
       . split at h<;>cases h
       . cases h
   . split at h
     . split at h
       . split at h<;>cases h
       . cases h
     . split at h<;>cases h
     . cases h
   . cases h
 . split at h
   . split at h<;>cases h
   . cases h
 . cases h
end Go.Slot
