/- The proof, part P3: Mt, Mu, Mv, Mw, Mo. -/
import Derived.Test.YtmegdbbbllffkaaGreatP2
namespace Go.Slot
open Go Go.RowKit
variable {P:Program}
variable {E:Env} {τ:Nat->TV} {M:Nat->Nat->Prop} {a:Act} {w w':World} {i j lo:Nat} {y x:Operand} {fn:Func} {f:FuncId} {o:Oper} {ts:Array TypeId} {tk rd rd0:List Nat} {T:TypeId} {ti:TI} {α:Type}
def ch (a0 a1 a2 a3 a4 a5 a6 a7 a8 a9 a10 a11 a12 a13 a14 a15:AV) (r:List AV):List AV:=a0::a1::a2::a3::a4::a5::a6::a7::a8::a9::a10::a11::a12::a13::a14::a15::r
def zyh:List AV->List AV
 | a0::a1::a2::a3::a4::a5::a6::a7::a8::a9::a10::a11::a12::a13::a14::a15::r=>ch a0 a1 a2 a3 a4 a5 a6 a7 a8 a9 a10 a11 a12 a13 a14 a15 (zyh r)
 | l=>l
theorem wbd:∀ l:List AV,zyh l=l
 | []=>rfl
 | [a0]=>rfl
 | [a0,a1]=>rfl
 | [a0,a1,a2]=>rfl
 | [a0,a1,a2,a3]=>rfl
 | [a0,a1,a2,a3,a4]=>rfl
 | [a0,a1,a2,a3,a4,a5]=>rfl
 | [a0,a1,a2,a3,a4,a5,a6]=>rfl
 | [a0,a1,a2,a3,a4,a5,a6,a7]=>rfl
 | [a0,a1,a2,a3,a4,a5,a6,a7,a8]=>rfl
 | [a0,a1,a2,a3,a4,a5,a6,a7,a8,a9]=>rfl
 | [a0,a1,a2,a3,a4,a5,a6,a7,a8,a9,a10]=>rfl
 | [a0,a1,a2,a3,a4,a5,a6,a7,a8,a9,a10,a11]=>rfl
 | [a0,a1,a2,a3,a4,a5,a6,a7,a8,a9,a10,a11,a12]=>rfl
 | [a0,a1,a2,a3,a4,a5,a6,a7,a8,a9,a10,a11,a12,a13]=>rfl
 | [a0,a1,a2,a3,a4,a5,a6,a7,a8,a9,a10,a11,a12,a13,a14]=>rfl
 | a0::a1::a2::a3::a4::a5::a6::a7::a8::a9::a10::a11::a12::a13::a14::a15::r=>by
  have ih:=wbd r;show ch a0 a1 a2 a3 a4 a5 a6 a7 a8 a9 a10 a11 a12 a13 a14 a15 (zyh r)=_;rw [ih];rfl
def AV.frzd:AV->AV
 | .box cs=>.elt (zcr cs)
 | .arr _ c none=>.one c
 | av=>av
variable {I:List AV} {av res:AV} {r:List Nat×List (Nat×AV)}
def ypi (s:Nat) (hv:AV) (i:Nat) (av:AV):AV:=
 if i=s then hv.frzd else match av with
 | .ptr s' off=>if s'=s then (match hv with | .box cs=>.elt (zcr (cs.drop off)) | _=>.any) else av
 | .asl s'=>if s'=s then (match hv with | .arr _ c none=>.one c | _=>.any) else av
 | .awn s' m lo n=>if s'=s then (match hv with | .arr _ c none=>if lo+n<=c.cnt/\m=c.esz then .one (c.sub lo n) else .any | _=>.any) else av
 | .pel s' m i f=>if s'=s then (match hv with | .arr _ c none=>if m=c.esz then (match c.at i f with | some cs=>.elt cs | none=>.any) else .any | _=>.any) else av
 | _=>av
def ye6 (s:Nat) (hv:AV):Nat->List AV->List AV
 | _,[]=>[]
 | i,av::r=>ypi s hv i av::ye6 s hv (i+1) r
def frz (s:Nat) (I:List AV):List AV:=match gt I s with
 | .box cs=>ye6 s (.box cs) 0 I
 | .arr pre c none=>ye6 s (.arr pre c none) 0 I
 | _=>I
theorem z5f (s:Nat) (hv:AV):∀(k:Nat) (I:List AV) (i:Nat),(ye6 s hv k I)[i]? = (I[i]?).map (ypi s hv (k+i))
 | _,[],i=>by simp [ye6]
 | k,av::r,0=>by simp [ye6]
 | k,av::r,i+1=>by
  have:=z5f s hv (k+1) r i
  simpa [ye6,Nat.add_assoc,Nat.add_comm 1 i] using this
theorem vis (s:Nat) (hv:AV):∀(k:Nat) (I:List AV),(ye6 s hv k I).length=I.length
 | _,[]=>rfl
 | k,av::r=>by simp [ye6,vis s hv (k+1) r]
theorem RelI.freeze (h:RelI E τ M I a w) {s:Nat} {hv:AV} (hs:I[s]? = some hv) (hf:hv.fresh=true) :
 ∃ M',RelI E τ M' (ye6 s hv 0 I) a w:=by
 have hh:hv.vy8=true:=by cases hv<;>first | rfl | cases hf
 obtain ⟨b,hb⟩:∃ b,blk (a.tmps.getD s Go.undef)=b:=⟨_,rfl⟩;have hold:=h.hold s hv hs hh;rw [hb] at hold;have hN:=hold.2.2.1 hf;refine ⟨fun b' o=>M b' o/\b'≠b,?_⟩;have hk:ya3 M (fun b' o=>M b' o/\b'≠b) w w:=ya3.shrink w (fun _ _ h=>h.1)
 have hMb:∀ o,¬(M b o/\b≠b):=fun o h=>h.2 rfl
 have hget:∀(i:Nat) (y:AV),(ye6 s hv 0 I)[i]? = some y->∃ x,I[i]? = some x/\y=ypi s hv i x:=fun i y hi=>by
  rw [z5f] at hi;simp only [Nat.zero_add,Option.map_eq_some_iff] at hi;obtain ⟨x,hx,rfl⟩:=hi;exact ⟨x,hx,rfl⟩
 have hss:=h.slot s hv hs
 have boxrd:∀ cs,hv=.box cs->∃ vs:List Value,a.tmps.getD s Go.undef=.pointer (some ⟨b,0,none⟩)/\(∀ off j u,(vs.drop off)[j]? = some u->w.cell? ⟨b,off+j,none⟩=some u)/\RdD (fun b' o=>M b' o/\b'≠b) w vs (zcr cs):=fun cs e=>by
  subst e;obtain ⟨b',vs,T,e1,hheap,hr⟩:=hss
  have:b'=b:=by rw [e1] at hb;exact hb
  subst this;exact ⟨vs,e1,fun off j u hj=>y2q hheap off j u hj,hr.bare.keep hk⟩
 have arrrd:∀ pre c,hv=.arr pre c none->∃ cap,a.tmps.getD s Go.undef=.slice (some ⟨b,pre.length,none⟩) c.cnt cap/\RdC (fun b' o=>M b' o/\b'≠b) w (.slice (some ⟨b,pre.length,none⟩) c.cnt cap) c/\c.uni/\
  ∃ vs,RdD (fun b' o=>M b' o/\b'≠b) w vs c.flat/\∀ i u,vs[i]? = some u->w.cell? ⟨b,pre.length+i,none⟩=some u:=fun pre c e=>by
  subst e;obtain ⟨b',T,vs,q,cap,e1,hheap,hr,_,hu,hcap,_⟩:=hss
  have:b'=b:=by rw [e1] at hb;exact hb
  subst this;refine ⟨cap,e1,zjx hheap (hr.keep hk) hu hcap hMb,hu,vs,hr.keep hk,fun i u hi=>?_⟩;have hlt:i<vs.length:=(List.getElem?_eq_some_iff.1 hi).1;simp only [World.cell?,hheap];simp only [List.getElem?_toArray];rw [List.getElem?_append_right (by omega),List.getElem?_append_left (by omega)];rw [show pre.length+i-pre.length=i by omega];exact hi
 have hslot:∀(i:Nat) (x:AV),I[i]? = some x->vi6 (fun b' o=>M b' o/\b'≠b) w τ a.tmps (a.tmps.getD i Go.undef) (ypi s hv i x)/\(∀ t,(ypi s hv i x).vjg t->live I t)/\
  ((ypi s hv i x).vy8=true->i≠s/\ypi s hv i x=x)/\(∀ s' b',(ypi s hv i x).rf=some (s',b')->s'≠s/\i≠s/\ypi s hv i x=x):=fun i x hi=>by
  have same:i≠s->(∀ s' b',x.rf=some (s',b')->s'≠s)->vi6 (fun b' o=>M b' o/\b'≠b) w τ a.tmps (a.tmps.getD i Go.undef) x/\(∀ t,x.vjg t->live I t)/\(x.vy8=true->i≠s/\x=x)/\(∀ s' b',x.rf=some (s',b')->s'≠s/\i≠s/\x=x):=fun his hrf=>
   ⟨(h.slot i x hi).keep hk (fun _ _=>rfl) (fun _ _ _=>rfl) (fun _=>rfl),fun t ht=>⟨i,x,hi,ht⟩,fun _=>⟨his,rfl⟩,fun s' b' hr=>⟨hrf s' b' hr,his,rfl⟩⟩
  have dat:∀ y:AV,vi6 (fun b' o=>M b' o/\b'≠b) w τ a.tmps (a.tmps.getD i Go.undef) y->(∀ t,¬y.vjg t)->y.vy8=false->y.rf=none->
   vi6 (fun b' o=>M b' o/\b'≠b) w τ a.tmps (a.tmps.getD i Go.undef) y/\(∀ t,y.vjg t->live I t)/\(y.vy8=true->i≠s/\y=x)/\(∀ s' b',y.rf=some (s',b')->s'≠s/\i≠s/\y=x):=fun y h1 h2 h3 h4=>
   ⟨h1,fun t ht=>absurd ht (h2 t),fun e=>(by rw [h3] at e;cases e),fun s' b' e=>(by rw [h4] at e;cases e)⟩
  have anyc:=dat .any trivial (fun _ ht=>ht) rfl rfl;unfold ypi;by_cases his:i=s
  . rw [if_pos his];subst his
    cases hv with
    | box cs=>
     obtain ⟨vs,e1,hc,hr⟩:=boxrd cs rfl;exact dat _ ⟨b,0,vs,e1,fun j u hj=>⟨fun hx=>hx.2 rfl,hc 0 j u (by simpa using hj)⟩,hr⟩ (fun _ ht=>ht) rfl rfl
    | arr pre c post=>
     cases post with
     | some _=>cases hf
     | none=>
      obtain ⟨cap,e1,hr,_⟩:=arrrd pre c rfl;exact dat (.one c) (by rw [e1];exact RdT.of hr) (fun t ht=>hr.wo7 t ht) rfl rfl
    | _=>cases hf
  . rw [if_neg his];have hx:=h.slot i x hi
    cases x with
    | ptr s' off =>
     simp only
     split
     . rename_i e;subst e
       cases hv with
       | box cs=>
        obtain ⟨vs,e1,hc,hr⟩:=boxrd cs rfl;have hx:a.tmps.getD i Go.undef=.pointer (some ⟨blk (a.tmps.getD s' Go.undef),off,none⟩):=hx;rw [hb] at hx;refine dat _ ⟨b,off,vs.drop off,hx,fun j u hj=>⟨fun hx=>hx.2 rfl,hc off j u hj⟩,?_⟩ (fun _ ht=>ht) rfl rfl;rw [x89];exact hr.drop off
       | _=>exact anyc
     . rename_i e;exact same his (fun s' b' hr=>by simp only [AV.rf,Option.some.injEq,Prod.mk.injEq] at hr;rw [<-hr.1];exact e)
    | asl s' =>
     simp only
     split
     . rename_i e;subst e
       cases hv with
       | arr pre c post=>
        cases post with
        | some _=>cases hf
        | none=>
         obtain ⟨cap,e1,hr,_⟩:=arrrd pre c rfl;have hx:a.tmps.getD i Go.undef=a.tmps.getD s' Go.undef:=hx;exact dat (.one c) (by rw [hx,e1];exact RdT.of hr) (fun t ht=>hr.wo7 t ht) rfl rfl
       | _=>exact anyc
     . rename_i e;exact same his (fun s' b' hr=>by simp only [AV.rf,Option.some.injEq,Prod.mk.injEq] at hr;rw [<-hr.1];exact e)
    | awn s' m lo n =>
     simp only
     split
     . rename_i e;subst e
       cases hv with
       | arr pre c post =>
        cases post with
        | some _=>cases hf
        | none=>
         simp only
         split
         . rename_i hc;obtain ⟨hfit,rfl⟩:=hc;obtain ⟨cap,e1,hr,hu,_⟩:=arrrd pre c rfl;obtain ⟨ad,cap',e2,had,hn,_⟩:=hx;rw [e1] at had
           have:=hr.sub hu hfit (ad:=ad) (fun hne=>had (.inl hne)) hn
           exact dat (.one (c.sub lo n)) (by rw [e2];exact RdT.of this) (fun t ht=>this.wo7 t ht) rfl rfl
         . exact anyc
       | _=>exact anyc
     . rename_i e;exact same his (fun s' b' hr=>by simp only [AV.rf,Option.some.injEq,Prod.mk.injEq] at hr;rw [<-hr.1];exact e)
    | pel s' m i' f =>
     simp only
     split
     . rename_i e;subst e
       cases hv with
       | arr pre c post =>
        cases post with
        | some _=>cases hf
        | none=>
         simp only
         split
         . rename_i hm;subst hm
           split
           . rename_i cs hat;obtain ⟨cap,e1,_,hu,vs,hr,hcl⟩:=arrrd pre c rfl;obtain ⟨hi',r,hdrop⟩:=Cell.va2 hu hat;have hx:a.tmps.getD i Go.undef=.pointer (some ⟨blk (a.tmps.getD s' Go.undef),offV (a.tmps.getD s' Go.undef)+i'*c.esz+f,none⟩):=hx;rw [e1] at hx;have hfull:=hr.drop (i'*c.esz+f);rw [hdrop] at hfull;have hrd':=hfull.take cs.length;rw [List.take_left] at hrd';refine dat (.elt cs) ⟨b,pre.length+i'*c.esz+f,_,hx,fun j u hj=>⟨fun hx=>hx.2 rfl,?_⟩,hrd'⟩ (fun _ ht=>ht) rfl rfl;rw [List.getElem?_take] at hj;split at hj
             . rw [List.getElem?_drop] at hj
               have:=hcl _ u hj
               rw [show pre.length+i'*c.esz+f+j=pre.length+(i'*c.esz+f+j) by omega];exact this
             . cases hj
           . exact anyc
         . exact anyc
       | _=>exact anyc
     . rename_i e;exact same his (fun s' b' hr=>by simp only [AV.rf,Option.some.injEq,Prod.mk.injEq] at hr;rw [<-hr.1];exact e)
    | _=>exact same his (fun s' b' hr=>by cases hr)
 have hlive:∀ t,live (ye6 s hv 0 I) t->live I t:=fun t ⟨i,y,hi,hy⟩=>by
  obtain ⟨x,hx,rfl⟩:=hget i y hi;exact (hslot i x hx).2.1 t hy
 refine RelI.mk h.hd (by rw [vis];exact h.hs) ?_ ?_ (fun b' o hm=>h.mb b' o hm.1) ?_ ?_ ?_ ?_ ?_ ?_ h.size h.os h.tape h.output h.frame
 . intro i y hi;obtain ⟨x,hx,rfl⟩:=hget i y hi;exact (hslot i x hx).1
 . intro b' o hm;refine ⟨h.m0 b' o hm,fun e=>?_⟩
   have:=E.hM b' o hm
   rw [e] at this;exact absurd this (by have:=hN;unfold Env.N at this;omega)
 . intro i y hi hy;obtain ⟨x,hx,rfl⟩:=hget i y hi;obtain ⟨hne,he⟩:=(hslot i x hx).2.2.1 hy;rw [he] at hy ⊢;have h1:=h.hold i x hx hy;refine ⟨fun o=>⟨h1.1 o,fun e=>hne ?_⟩,h1.2⟩;exact h.inj i s x hv hx hs hy hh (e.trans hb.symm)
 . intro i j y z hi hj hy hz;obtain ⟨x,hx,rfl⟩:=hget i y hi;obtain ⟨x',hx',rfl⟩:=hget j z hj;obtain ⟨_,he⟩:=(hslot i x hx).2.2.1 hy;obtain ⟨_,he'⟩:=(hslot j x' hx').2.2.1 hz;rw [he] at hy;rw [he'] at hz;exact h.inj i j x x' hx hx' hy hz
 . intro i y s' b' hi hr;obtain ⟨x,hx,rfl⟩:=hget i y hi;obtain ⟨hne,_,he⟩:=(hslot i x hx).2.2.2 s' b' hr;rw [he] at hr;obtain ⟨hv',h1,h2⟩:=h.refs i x s' b' hx hr;refine ⟨hv',?_,h2⟩;rw [z5f,h1];simp only [Option.map_some,Nat.zero_add,Option.some.injEq];unfold ypi;rw [if_neg hne]
   cases hv'<;>first | rfl | (cases b'<;>cases h2)
 . intro t ht
   rcases h.toks t (hlive t ht) with h' | ⟨e,n,xs,ho,hm⟩
   . exact .inl h'
   . rcases ho.2 with ⟨h1,_⟩ | ⟨g,cap,cur,hv',hg,hh',hnc,r⟩
     . exact .inl ⟨none,h1⟩
     . cases cap with
       | zero=>exact .inl ⟨some ⟨g,0,none⟩,by rw [hv'];simp at hnc;rw [hnc]⟩
       | succ cap=>
        refine .inr ⟨e,n,xs,⟨ho.1,.inr ⟨g,cap+1,cur,hv',hg,hh',hnc,r⟩⟩,fun g' hg' o ho'=>⟨hm g' hg' o ho',fun e=>?_⟩⟩;subst e
        have hgg:g'=g:=by rw [hv'] at hg';simpa [Value.ownBlock] using hg'.symm
        exact h.tbox t s hv (hlive t ht) hs hh (by rw [hv',hb,hgg];rfl)
 . exact fun t t' g ht ht'=>h.tinj t t' g (hlive t ht) (hlive t' ht')
 . intro t i y ht hi hy;obtain ⟨x,hx,rfl⟩:=hget i y hi;obtain ⟨_,he⟩:=(hslot i x hx).2.2.1 hy;rw [he] at hy;exact h.tbox t i x (hlive t ht) hx hy
theorem StLe.frz (s:Nat) (I:List AV):StLe I (Go.Slot.frz s I):=by
 unfold Go.Slot.frz
 split
 . rename_i cs hg;intro E a w ⟨τ,M,hI⟩;obtain ⟨M',h'⟩:=hI.freeze (vxi hg (by simp)) rfl;exact ⟨τ,M',h'⟩
 . rename_i pre c hg;intro E a w ⟨τ,M,hI⟩;obtain ⟨M',h'⟩:=hI.freeze (vxi hg (by simp)) rfl;exact ⟨τ,M',h'⟩
 . exact StLe.refl I
inductive Gh where
 | frz (s:Nat)
 | any (s:Nat)
 | mv (s t:Nat)
 | join
 | lit
def ysb (s:Nat) (I:List AV):List AV:=if nh I s then I.set s .any else I
theorem StLe.ysb (s:Nat) (I:List AV):StLe I (Go.Slot.ysb s I):=by
 unfold Go.Slot.ysb
 split
 . rename_i hn;intro E a w ⟨τ,M,hI⟩;obtain ⟨old,hs,ho⟩:=yn6 hn;have hlt:s<I.length:=(List.getElem?_eq_some_iff.1 hs).1
   have hnot:∀ i x,I[i]? = some x->x.vy8=true->i≠s:=fun i x hi hx e=>by
    subst e;rw [hs] at hi;cases hi;rw [ho] at hx;cases hx
   have hlive:∀ t,live (I.set s .any) t->live I t:=fun t ⟨i,x,hi,hx⟩=>by
    rcases getElem?_set_cases hi with ⟨_,rfl⟩ | ⟨_,hi⟩
    . exact hx.elim
    . exact ⟨i,x,hi,hx⟩
   refine ⟨τ,M,RelI.mk hI.hd (by simpa using hI.hs) ?_ hI.m0 hI.mb ?_ ?_ ?_ (fun t ht=>hI.toks t (hlive t ht)) (fun t t' g h1 h2=>hI.tinj t t' g (hlive t h1) (hlive t' h2)) ?_ hI.size hI.os hI.tape hI.output hI.frame⟩
   . intro i x hi
     rcases getElem?_set_cases hi with ⟨_,rfl⟩ | ⟨_,hi⟩
     . exact trivial
     . exact hI.slot i x hi
   . intro i x hi hx
     rcases getElem?_set_cases hi with ⟨_,rfl⟩ | ⟨_,hi⟩
     . cases hx
     . exact hI.hold i x hi hx
   . intro i j x y hi hj hx hy
     rcases getElem?_set_cases hi with ⟨_,rfl⟩ | ⟨_,hi⟩
     . cases hx
     . rcases getElem?_set_cases hj with ⟨_,rfl⟩ | ⟨_,hj⟩
       . cases hy
       . exact hI.inj i j x y hi hj hx hy
   . intro i x s' b hi hr
     rcases getElem?_set_cases hi with ⟨_,rfl⟩ | ⟨_,hi⟩
     . cases hr
     . obtain ⟨hv,h1,h2⟩:=hI.refs i x s' b hi hr;exact ⟨hv,by rw [List.getElem?_set_ne (Ne.symm (hnot s' hv h1 (AV.wht h2)))];exact h1,h2⟩
   . intro t i x ht hi hx
     rcases getElem?_set_cases hi with ⟨_,rfl⟩ | ⟨_,hi⟩
     . cases hx
     . exact hI.tbox t i x (hlive t ht) hi hx
 . exact StLe.refl I
def hitB (s i:Nat) (av:AV):Bool:=if i=s then true else match av.rf with
 | some (s',_)=>s'==s
 | none=>false
def wsh (s i:Nat) (av:AV):AV:=if hitB s i av=true then .any else av
def vgm (s:Nat):Nat->List AV->List AV
 | _,[]=>[]
 | i,av::r=>wsh s i av::vgm s (i+1) r
def xsc (s:Nat) (I:List AV):List AV:=vgm s 0 I
theorem ypl (s:Nat):∀(k:Nat) (I:List AV) (i:Nat),(vgm s k I)[i]? = (I[i]?).map (wsh s (k+i))
 | _,[],i=>by simp [vgm]
 | k,av::r,0=>by simp [vgm]
 | k,av::r,i+1=>by
  simp only [vgm,List.getElem?_cons_succ];rw [ypl s (k+1) r i,show k+1+i=k+(i+1) by omega]
theorem yho (s:Nat):∀(k:Nat) (I:List AV),(vgm s k I).length=I.length
 | _,[]=>rfl
 | k,av::r=>by simp [vgm,yho s (k+1) r]
theorem z1s (s:Nat) (I:List AV):(xsc s I).length=I.length:=yho s 0 I
theorem w9k {s:Nat} {y:AV} (h:(xsc s I)[i]? = some y):∃ x,I[i]? = some x/\y=wsh s i x:=by
 unfold xsc at h;rw [ypl] at h;simp only [Nat.zero_add,Option.map_eq_some_iff] at h;obtain ⟨x,hx,rfl⟩:=h;exact ⟨x,hx,rfl⟩
theorem zwh (s i:Nat) (x:AV):(wsh s i x=.any)\/(wsh s i x=x/\i≠s/\∀ s' b,x.rf=some (s',b)->s'≠s):=by
 unfold wsh
 split
 . exact .inl rfl
 . rename_i h;unfold hitB at h;split at h
   . exact absurd rfl h
   . rename_i hne;refine .inr ⟨rfl,hne,fun s' b e=>?_⟩;rw [e] at h;simpa using h
theorem RelI.xsc {E:Env} {τ:Nat->TV} {M:Nat->Nat->Prop} {I:List AV} {a:Act} {w:World} (h:RelI E τ M I a w) (s:Nat):RelI E τ M (Go.Slot.xsc s I) a w:=by
 have hlive:∀ t,live (Go.Slot.xsc s I) t->live I t:=fun t ⟨i,y,hi,hy⟩=>by
  obtain ⟨x,hx,rfl⟩:=w9k hi
  rcases zwh s i x with e | ⟨e,_⟩
  . rw [e] at hy;exact hy.elim
  . rw [e] at hy;exact ⟨i,x,hx,hy⟩
 have hh:∀(i:Nat) (y:AV),(Go.Slot.xsc s I)[i]? = some y->y.vy8=true->I[i]? = some y:=fun (i:Nat) (y:AV) hi hy=>by
  obtain ⟨x,hx,rfl⟩:=w9k hi
  rcases zwh s i x with e | ⟨e,_⟩
  . rw [e] at hy;cases hy
  . rw [e];exact hx
 refine RelI.mk h.hd (by rw [z1s];exact h.hs) ?_ h.m0 h.mb (fun i y hi hy=>h.hold i y (hh i y hi hy) hy) (fun i j y z hi hj hy hz=>h.inj i j y z (hh i y hi hy) (hh j z hj hz) hy hz) ?_
  (fun t ht=>h.toks t (hlive t ht)) (fun t t' g ht ht'=>h.tinj t t' g (hlive t ht) (hlive t' ht')) (fun t i y ht hi hy=>h.tbox t i y (hlive t ht) (hh i y hi hy) hy) h.size h.os h.tape h.output h.frame
 . intro i y hi;obtain ⟨x,hx,rfl⟩:=w9k hi
   rcases zwh s i x with e | ⟨e,_⟩
   . rw [e];exact trivial
   . rw [e];exact h.slot i x hx
 . intro i y s' b hi hr;obtain ⟨x,hx,rfl⟩:=w9k hi
   rcases zwh s i x with e | ⟨e,hne,hrf⟩
   . rw [e] at hr;cases hr
   . rw [e] at hr;obtain ⟨hv,h1,h2⟩:=h.refs i x s' b hx hr;have hs':=hrf s' b hr;refine ⟨hv,?_,h2⟩;unfold Go.Slot.xsc;rw [ypl,h1];simp only [Nat.zero_add,Option.map_some,Option.some.injEq]
     have:hv.rf=none:=by cases hv<;>first | rfl | (cases b<;>cases h2)
     unfold wsh hitB;rw [if_neg hs',this];simp
theorem RelI.take (h:RelI E τ M I a w) {d:Nat} {old:AV} (hd:I[d]? = some old) (hnh:old.vy8=false) (v:Value) (av:AV) (hav:av.vy8=true) (hfrs:av.fresh=true)
 (hN:E.N<=blk v) (hM:∀ o,M (blk v) o) (hfree:∀(i:Nat) (x:AV),I[i]? = some x->x.vy8=true->blk (a.tmps.getD i Go.undef)≠blk v) (hfreet:∀ t,live I t->tokB (τ t).v≠some (blk v))
 (hok:vi6 M w τ a.tmps v av) (htok:∀ t,av.vjg t->live I t):RelI E τ M (I.set d av) (a.put (some d) v) w:=by
 have hlt:d<a.tmps.size:=h.lt hd
 have hns:∀(s:Nat) (b:Bool) (hv:AV),I[s]? = some hv->hv.fits b=true->d≠s:=fun s b hv hs hf e=>by
  subst e;rw [hd] at hs;cases hs;have:=AV.wht hf;rw [hnh] at this;cases this
 have hself:(a.tmps.setIfInBounds d v).getD d Go.undef=v:=by simp [hlt]
 have hlive:∀ t,live (I.set d av) t->live I t:=fun t ⟨i,x,hi,hx⟩=>by
  rcases getElem?_set_cases hi with ⟨_,rfl⟩ | ⟨_,hi⟩
  . exact htok t hx
  . exact ⟨i,x,hi,hx⟩
 refine RelI.mk h.hd (by simpa [Act.put] using h.hs) ?_ h.m0 h.mb ?_ ?_ ?_ (fun t ht=>h.toks t (hlive t ht)) (fun t t' g ht ht'=>h.tinj t t' g (hlive t ht) (hlive t' ht')) ?_ h.size h.os h.tape h.output h.frame
 . intro i x hi;show vi6 _ w τ (a.tmps.setIfInBounds d v) ((a.tmps.setIfInBounds d v).getD i Go.undef) x
   rcases getElem?_set_cases hi with ⟨rfl,rfl⟩ | ⟨hne,hi⟩
   . rw [hself];exact hok.keep (fun _ _ _ h1 h2=>⟨h1,h2⟩) (fun _ _=>rfl) (fun s b hr=>by cases x<;>simp [AV.rf,AV.vy8] at hr hav) (fun _=>rfl)
   . rw [getD_set_ne (Ne.symm hne)];exact (h.slot i x hi).keep (fun _ _ _ h1 h2=>⟨h1,h2⟩) (fun _ _=>rfl) (fun s b hr=>by obtain ⟨hv,h1,h2⟩:=h.refs i x s b hi hr;exact getD_set_ne (hns s b hv h1 h2) v) (fun _=>rfl)
 . intro i x hi hh;show (∀ o',M (blk ((a.tmps.setIfInBounds d v).getD i Go.undef)) o')/\(_<=blk ((a.tmps.setIfInBounds d v).getD i Go.undef)\/E.X (blk ((a.tmps.setIfInBounds d v).getD i Go.undef)))/\(_->_<=blk ((a.tmps.setIfInBounds d v).getD i Go.undef))/\(_->(a.tmps.setIfInBounds d v).getD i Go.undef=_)
   rcases getElem?_set_cases hi with ⟨rfl,rfl⟩ | ⟨hne,hi⟩
   . rw [hself];exact ⟨hM,.inl hN,fun _=>hN,fun e=>by rw [hfrs] at e;cases e⟩
   . rw [getD_set_ne (Ne.symm hne)];exact h.hold i x hi hh
 . intro i j x y hi hj hx hy;show blk ((a.tmps.setIfInBounds d v).getD i Go.undef)=blk ((a.tmps.setIfInBounds d v).getD j Go.undef)->_
   rcases getElem?_set_cases hi with ⟨rfl,rfl⟩ | ⟨hne,hi'⟩
   . rcases getElem?_set_cases hj with ⟨rfl,rfl⟩ | ⟨hne',hj⟩
     . exact fun _=>rfl
     . rw [hself,getD_set_ne (Ne.symm hne')]
       exact fun e=>absurd e.symm (hfree j y hj hy)
   . rcases getElem?_set_cases hj with ⟨rfl,rfl⟩ | ⟨hne',hj⟩
     . rw [hself,getD_set_ne (Ne.symm hne)]
       exact fun e=>absurd e (hfree i x hi' hx)
     . rw [getD_set_ne (Ne.symm hne),getD_set_ne (Ne.symm hne')];exact h.inj i j x y hi' hj hx hy
 . intro i x s b hi hr
   have:∃ hv:AV,I[s]? = some hv/\hv.fits b=true:=by
    rcases getElem?_set_cases hi with ⟨rfl,rfl⟩ | ⟨hne,hi⟩
    . cases x<;>simp [AV.rf,AV.vy8] at hr hav
    . exact h.refs i x s b hi hr
   obtain ⟨hv,h1,h2⟩:=this;exact ⟨hv,by rw [List.getElem?_set_ne (hns s b hv h1 h2)];exact h1,h2⟩
 . intro t i x ht hi hx;show _≠some (blk ((a.tmps.setIfInBounds d v).getD i Go.undef))
   rcases getElem?_set_cases hi with ⟨rfl,rfl⟩ | ⟨hne,hi⟩
   . rw [hself];exact hfreet t (hlive t ht)
   . rw [getD_set_ne (Ne.symm hne)];exact h.tbox t i x (hlive t ht) hi hx
def mvS (s t:Nat) (I:List AV):List AV:=match gt I t with
 | .asl s'=>if s'=s then match gt I s with
  | .arr pre c none=>(xsc s I).set t (.arr pre c none)
  | _=>I
  else I
 | _=>I
theorem v0c {d:Nat}:a.put (some d) (a.tmps.getD d Go.undef)=a:=by
 unfold Act.put
 cases a with
 | mk tmps defers=>
  simp only
  congr 1
  apply Array.ext
  . simp
  . intro i h1 h2;rw [Array.getElem_setIfInBounds]
    split
    . rename_i e;subst e;simp [h2]
    . rfl
theorem StLe.mvS (s t : Nat) (I : List AV) : StLe I (Go.Slot.mvS s t I) := by
 unfold Go.Slot.mvS
 split
 . rename_i s' hgt
   split
   . rename_i e;subst e
     split
     . rename_i pre c hgs;intro E a w ⟨τ,M,hI⟩;have hs:=vxi hgs (by simp);have ht:=vxi hgt (by simp)
       have hne:t≠s':=fun e=>by subst e;rw [hs] at ht;cases ht
       have hv:a.tmps.getD t Go.undef=a.tmps.getD s' Go.undef:=by have:=hI.gt t;rw [hgt] at this;exact this
       have hold:=hI.hold s' _ hs rfl;have h1:=hI.xsc s'
       have ht1:(xsc s' I)[t]? = some .any:=by
        unfold xsc;rw [ypl,ht];simp only [Nat.zero_add,Option.map_some,Option.some.injEq];unfold wsh hitB;rw [if_neg hne];simp [AV.rf]
       have h2:=h1.take ht1 rfl (a.tmps.getD t Go.undef) (.arr pre c none) rfl rfl (by rw [hv];exact hold.2.2.1 rfl) (by rw [hv];exact hold.1) (fun i x hi hx e=>by
        obtain ⟨y,hy,rfl⟩:=w9k hi
        rcases zwh s' i y with e' | ⟨e',hne',_⟩
        . rw [e'] at hx;cases hx
        . rw [e'] at hx;rw [hv] at e
          exact hne' (hI.inj i s' y _ hy hs hx rfl e)) (fun d hd=>by
        rw [hv];obtain ⟨i,y,hi,hy⟩:=hd;obtain ⟨x,hx,rfl⟩:=w9k hi
        rcases zwh s' i x with e' | ⟨e',_⟩
        . rw [e'] at hy;exact hy.elim
        . rw [e'] at hy
          exact hI.tbox d s' _ ⟨i,x,hx,hy⟩ hs rfl) (by rw [hv];have:=hI.slot s' _ hs;exact this) (fun d hd=>hd.elim)
       rw [v0c] at h2;exact ⟨τ,M,h2⟩
     . exact StLe.refl I
   . exact StLe.refl I
 . exact StLe.refl I
theorem RelI.tokI (h0:RelI E τ M I a w) {s d:Nat} {old:AV} (hs:I[s]? = some old) (hnh:old.vy8=false) (hnl:¬live I d) (c:Cell)
 (htok:xec E M w ⟨a.tmps.getD s Go.undef,c.esz⟩) (hnb:∀ g,tokB (a.tmps.getD s Go.undef)≠some g) (hr:RdC M w (a.tmps.getD s Go.undef) c) :
 ∃ τ',RelI E τ' M (I.set s (.one (.tok d c))) a w:=by
 have h:=h0.xqa hnl ⟨a.tmps.getD s Go.undef,c.esz⟩;generalize hτ:(fun t=>if t=d then (⟨a.tmps.getD s Go.undef,c.esz⟩:TV) else τ t)=τ' at h
 have hd:τ' d=⟨a.tmps.getD s Go.undef,c.esz⟩:=by rw [<-hτ];simp
 refine ⟨τ',?_⟩;have hlt:s<I.length:=(List.getElem?_eq_some_iff.1 hs).1
 have hnot:∀(i:Nat) (x:AV),I[i]? = some x->x.vy8=true->i≠s:=fun i x hi hx e=>by
  subst e;rw [hs] at hi;cases hi;rw [hnh] at hx;cases hx
 have hlive:∀ t,live (I.set s (.one (.tok d c))) t->t=d\/live I t:=fun t ⟨i,x,hi,hx⟩=>by
  rcases getElem?_set_cases hi with ⟨_,rfl⟩ | ⟨_,hi⟩
  . rcases hx with hx | hx
    . exact .inl hx.symm
    . exact absurd hx (hr.wo7 t)
  . exact .inr ⟨i,x,hi,hx⟩
 refine RelI.mk h.hd (by simpa using h.hs) ?_ h.m0 h.mb ?_ ?_ ?_ ?_ ?_ ?_ h.size h.os h.tape h.output h.frame
 . intro i x hi
   rcases getElem?_set_cases hi with ⟨rfl,rfl⟩ | ⟨_,hi⟩
   . exact ⟨by rw [hd];exact ⟨rfl,rfl⟩,hr⟩
   . exact h.slot i x hi
 . intro i x hi hx
   rcases getElem?_set_cases hi with ⟨_,rfl⟩ | ⟨_,hi⟩
   . cases hx
   . exact h.hold i x hi hx
 . intro i j x y hi hj hx hy
   rcases getElem?_set_cases hi with ⟨_,rfl⟩ | ⟨_,hi⟩
   . cases hx
   . rcases getElem?_set_cases hj with ⟨_,rfl⟩ | ⟨_,hj⟩
     . cases hy
     . exact h.inj i j x y hi hj hx hy
 . intro i x s' b hi hrf
   rcases getElem?_set_cases hi with ⟨_,rfl⟩ | ⟨_,hi⟩
   . cases hrf
   . obtain ⟨hv,h1,h2⟩:=h.refs i x s' b hi hrf;exact ⟨hv,by rw [List.getElem?_set_ne (Ne.symm (hnot s' hv h1 (AV.wht h2)))];exact h1,h2⟩
 . intro t ht
   rcases hlive t ht with rfl | ht
   . rw [hd];exact htok
   . exact h.toks t ht
 . intro t t' g ht ht' hne hg
   rcases hlive t ht with rfl | ht1
   . rw [hd] at hg;exact absurd hg (hnb g)
   . rcases hlive t' ht' with rfl | ht2
     . rw [hd];exact hnb g
     . exact h.tinj t t' g ht1 ht2 hne hg
 . intro t i x ht hi hx
   rcases getElem?_set_cases hi with ⟨_,rfl⟩ | ⟨_,hi⟩
   . cases hx
   . rcases hlive t ht with rfl | ht
     . rw [hd];exact hnb _
     . exact h.tbox t i x ht hi hx
def xws:Cell->Bool
 | .ints _ []=>true
 | .sl _ []=>true
 | _=>false
def noRoom:AV->Bool
 | .one (.raw (.slice none 0 0))=>true
 | .one .zc=>true
 | _=>false
theorem StLe.tokI (s d:Nat) (c:Cell) {I:List AV} (hc:xws c=true) (hn:xtr d I=true) (hs:noRoom (gt I s)=true):StLe I (I.set s (.one (.tok d c))):=by
 intro E a w ⟨τ,M,hI⟩
 have key:∃ ad,a.tmps.getD s Go.undef=.slice ad 0 0/\∃ old,I[s]? = some old/\old.vy8=false:=by
  have h:=hI.gt s;unfold noRoom at hs;split at hs
  . rename_i hg;rw [hg] at h;exact ⟨none,RdC.zb6 h,_,vxi hg (by simp),rfl⟩
  . rename_i hg;rw [hg] at h;have h:RdC M w (a.tmps.getD s Go.undef) .zc:=h;generalize hv:a.tmps.getD s Go.undef=v at h
    cases h;exact ⟨_,rfl,_,vxi hg (by simp),rfl⟩
  . cases hs
 obtain ⟨ad,hv,old,h1,h2⟩:=key
 have hr:RdC M w (.slice ad 0 0) c:=by
  unfold xws at hc;split at hc
  . exact RdC.ysc _
  . exact RdC.zcSl _
  . cases hc
 obtain ⟨τ',h'⟩:=hI.tokI h1 h2 (xbp hn) c (by rw [hv];exact .inl ⟨ad,rfl⟩) (by rw [hv];intro g;cases ad<;>simp [tokB]) (by rw [hv];exact hr);exact ⟨τ',M,h'⟩
def ghA:Gh->List AV->List AV
 | .frz s,I=>frz s I
 | .any s,I=>ysb s I
 | .mv s t,I=>mvS s t I
 | .join,I=>I
 | .lit,I=>I
def ghL:List Gh->List AV->List AV
 | [],I=>I
 | g::r,I=>ghL r (zyh (ghA g I))
theorem StLe.ghA (g:Gh) (I:List AV):StLe I (Go.Slot.ghA g I):=by
 cases g with
 | frz s=>exact StLe.frz s I
 | any s=>exact StLe.ysb s I
 | mv s t=>exact StLe.mvS s t I
 | join=>exact StLe.refl I
 | lit=>exact StLe.refl I
theorem StLe.ghL:∀(l:List Gh) (I:List AV),StLe I (Go.Slot.ghL l I)
 | [],I=>StLe.refl I
 | g::r,I=>(StLe.ghA g I).trans (by unfold Go.Slot.ghL;rw [wbd];exact StLe.ghL r _)
def anyH (av:AV):AV:=match av.vy8 with
 | true=>av
 | false=>.any
def yr1:Bool->List Nat->List Nat
 | true,[]=>[]
 | true,_::ks=>ks
 | false,ks=>ks
def vct:Bool->AV->AV
 | true,av=>av
 | false,av=>anyH av
def isK:List Nat->Nat->Bool
 | [],_=>false
 | k::_,i=>i==k
def z9t:List Nat->Nat->List AV->List AV
 | _,_,[]=>[]
 | ks,i,av::r=>vct (isK ks i) av::z9t (yr1 (isK ks i) ks) (i+1) r
def zjk (keep:List Nat) (I:List AV):List AV:=z9t keep 0 I
theorem x4n (av:AV):anyH av=av\/(anyH av=.any/\av.vy8=false):=by
 unfold anyH
 cases h:av.vy8 with
 | true=>exact .inl rfl
 | false=>exact .inr ⟨rfl,rfl⟩
theorem vbv:∀(keep:List Nat) (k:Nat) (I:List AV) (i:Nat),∃ f:AV->AV,(z9t keep k I)[i]? = (I[i]?).map f/\∀ x,f x=x\/(f x=.any/\x.vy8=false)
 | _,_,[],i=>⟨id,by simp [z9t],fun x=>.inl rfl⟩
 | ks,k,av::r,0=>by
  refine ⟨vct (isK ks k),by simp [z9t],fun x=>?_⟩
  cases isK ks k with
  | true=>exact .inl rfl
  | false=>exact x4n x
 | ks,k,av::r,i+1=>by
  obtain ⟨f,h1,h2⟩:=vbv (yr1 (isK ks k) ks) (k+1) r i;exact ⟨f,by simpa [z9t] using h1,h2⟩
theorem xev:∀(keep:List Nat) (k:Nat) (I:List AV),(z9t keep k I).length=I.length
 | _,_,[]=>by simp [z9t]
 | ks,k,av::r=>by simp [z9t,xev (yr1 (isK ks k) ks) (k+1) r]
theorem StLe.only (keep:List Nat) (I:List AV):StLe I (zjk keep I):=by
 intro E a w ⟨τ,M,h⟩
 have get:∀(i:Nat) (y:AV),(zjk keep I)[i]? = some y->∃ x,I[i]? = some x/\(y=x\/(y=.any/\x.vy8=false)):=fun i y hi=>by
  obtain ⟨f,h1,h2⟩:=vbv keep 0 I i;unfold zjk at hi;rw [h1] at hi;simp only [Option.map_eq_some_iff] at hi;obtain ⟨x,hx,rfl⟩:=hi;exact ⟨x,hx,h2 x⟩
 have hh:∀(i:Nat) (y:AV),(zjk keep I)[i]? = some y->y.vy8=true->I[i]? = some y:=fun i y hi hy=>by
  obtain ⟨x,hx,rfl | ⟨rfl,_⟩⟩:=get i y hi
  . exact hx
  . cases hy
 have hlive:∀ t,live (zjk keep I) t->live I t:=fun t ⟨i,y,hi,hy⟩=>by
  obtain ⟨x,hx,rfl | ⟨rfl,_⟩⟩:=get i y hi
  . exact ⟨i,y,hx,hy⟩
  . exact hy.elim
 refine ⟨τ,M,RelI.mk h.hd (by unfold zjk;rw [xev];exact h.hs) ?_ h.m0 h.mb (fun i y hi hy=>h.hold i y (hh i y hi hy) hy) (fun i j y z hi hj hy hz=>h.inj i j y z (hh i y hi hy) (hh j z hj hz) hy hz) ?_
  (fun t ht=>h.toks t (hlive t ht)) (fun t t' g ht ht'=>h.tinj t t' g (hlive t ht) (hlive t' ht')) (fun t i y ht hi hy=>h.tbox t i y (hlive t ht) (hh i y hi hy) hy) h.size h.os h.tape h.output h.frame⟩
 . intro i y hi;obtain ⟨x,hx,rfl | ⟨rfl,_⟩⟩:=get i y hi
   . exact h.slot i y hx
   . exact trivial
 . intro i y s' b hi hr;obtain ⟨x,hx,rfl | ⟨rfl,_⟩⟩:=get i y hi
   . obtain ⟨hv,h1,h2⟩:=h.refs i y s' b hx hr;obtain ⟨f,h3,h4⟩:=vbv keep 0 I s';refine ⟨hv,?_,h2⟩;unfold zjk;rw [h3,h1]
     rcases h4 hv with e | ⟨_,e⟩
     . simp [e]
     . rw [AV.wht h2] at e;cases e
   . cases hr
structure xsb (b:Nat) (w w':World):Prop where
 os:w'.os=w.os
 tape:w'.tape=w.tape
 output:w'.output=w.output
 size:w.heap.size<=w'.heap.size
 block:∀ k,k<w.heap.size->k≠b->w'.heap[k]? = w.heap[k]?
theorem xsb.keeps {b:Nat} (h:xsb b w w') (hM:∀ o,M b o):ya3 M M w w':=fun b' o u hm hc=>⟨hm,by
 have hl:=World.block_lt_of_cell? w _ hc
 have:=h.block b' hl (fun e=>hm (by rw [e];exact hM o))
 simp only [World.cell?,this] at hc ⊢
 exact hc⟩
theorem RelI.turn (h:RelI E τ M I a w) {s:Nat} {old new:AV} (hs:I[s]? = some old) (ho:old.vy8=true) (hn:new.vy8=true)
 (hf:∀ b,old.fits b=true->new.fits b=true) (hfr:new.fresh=old.fresh) (hbx:xsb (blk (a.tmps.getD s Go.undef)) w w') (hok:vi6 M w' τ a.tmps (a.tmps.getD s Go.undef) new)
 (htok:∀ t,new.vjg t->live I t):RelI E τ M (I.set s new) a w':=by
 generalize hb:blk (a.tmps.getD s Go.undef)=b at *;have hM:∀ o,M b o:=hb▸(h.hold s old hs ho).1;have hk:ya3 M M w w':=hbx.keeps hM
 have hlive:∀ t,live (I.set s new) t->live I t:=fun t ⟨i,x,hi,hx⟩=>by
  rcases getElem?_set_cases hi with ⟨_,rfl⟩ | ⟨_,hi⟩
  . exact htok t hx
  . exact ⟨i,x,hi,hx⟩
 refine RelI.mk h.hd (by simpa using h.hs) ?_ h.m0 (fun b o hm=>Nat.lt_of_lt_of_le (h.mb b o hm) hbx.size) ?_ ?_ ?_ ?_ ?_ ?_ (Nat.le_trans h.size hbx.size) (hbx.os.trans h.os) (hbx.tape.trans h.tape) (hbx.output.trans h.output) ?_
 . intro i x hi
   rcases getElem?_set_cases hi with ⟨rfl,rfl⟩ | ⟨hne,hi⟩
   . exact hok
   . refine (h.slot i x hi).keep hk (fun _ _=>rfl) (fun _ _ _=>rfl) (fun hh=>hbx.block _ ((h.slot i x hi).xeq hh) ?_)
     exact fun e=>hne (h.inj i s x old hi hs hh ho (e.trans hb.symm))
 . intro i x hi hh
   rcases getElem?_set_cases hi with ⟨rfl,rfl⟩ | ⟨hne,hi⟩
   . exact hfr▸h.hold i old hs ho
   . exact h.hold i x hi hh
 . intro i j x y hi hj hx hy
   have key:∀(i:Nat) (x:AV),(I.set s new)[i]? = some x->x.vy8=true->∃ x':AV,I[i]? = some x'/\x'.vy8=true:=fun i x hi hx=>by
    rcases getElem?_set_cases hi with ⟨rfl,rfl⟩ | ⟨hne,hi⟩
    . exact ⟨old,hs,ho⟩
    . exact ⟨x,hi,hx⟩
   obtain ⟨x',hi',hx'⟩:=key i x hi hx;obtain ⟨y',hj',hy'⟩:=key j y hj hy;exact h.inj i j x' y' hi' hj' hx' hy'
 . intro i x s' b' hi hr
   have:∃ hv:AV,I[s']? = some hv/\hv.fits b'=true:=by
    rcases getElem?_set_cases hi with ⟨rfl,rfl⟩ | ⟨hne,hi⟩
    . cases x<;>simp [AV.rf,AV.vy8] at hr hn
    . exact h.refs i x s' b' hi hr
   obtain ⟨hv,h1,h2⟩:=this;by_cases e:s'=s
   . subst e;rw [hs] at h1;cases h1;have hl:s'<I.length:=(List.getElem?_eq_some_iff.1 hs).1;exact ⟨new,by simp [hl],hf _ h2⟩
   . exact ⟨hv,by rw [List.getElem?_set_ne (Ne.symm e)];exact h1,h2⟩
 . intro t ht
   rcases h.toks t (hlive t ht) with h' | ⟨e,n,xs,hown,hm⟩
   . exact .inl h'
   . rcases hown.2 with ⟨h1,_⟩ | ⟨g,cap,cur,hv,hg,hh,hnc,r⟩
     . exact .inl ⟨none,h1⟩
     . cases cap with
       | zero=>exact .inl ⟨some ⟨g,0,none⟩,by rw [hv];simp at hnc;rw [hnc]⟩
       | succ cap=>
        refine .inr ⟨e,n,xs,⟨hown.1,.inr ⟨g,cap+1,cur,hv,hg,?_,hnc,r⟩⟩,hm⟩;rw [hbx.block g (Array.getElem?_eq_some_iff.1 hh).1]
        . exact hh
        . rintro rfl;exact h.tbox t s old (hlive t ht) hs ho (by rw [hv,hb];rfl)
 . exact fun t t' g ht ht'=>h.tinj t t' g (hlive t ht) (hlive t' ht')
 . intro t i x ht hi hx
   rcases getElem?_set_cases hi with ⟨rfl,rfl⟩ | ⟨hne,hi⟩
   . exact h.tbox t i old (hlive t ht) hs ho
   . exact h.tbox t i x (hlive t ht) hi hx
 . intro k hk' hx;rw [hbx.block k (Nat.lt_of_lt_of_le hk' h.size)]
   . exact h.frame k hk' hx
   . rintro rfl
     rcases (h.hold s old hs ho).2.1 with h1 | h1
     . rw [hb] at h1;omega
     . rw [hb] at h1;exact hx h1
def vr1:Nat->TV:=fun _=>⟨Go.undef,0⟩
def XOk (M:Nat->Nat->Prop) (w:World) (v:Value) (av:AV):Prop:=vi6 M w vr1 #[] v av/\av.vy8=true/\av.fresh=false/\(∀ t,¬av.vjg t)/\∀ o,M (blk v) o
theorem XOk.slot {v:Value} (h:XOk M w v av) (τ:Nat->TV) (tm:Array Value):vi6 M w τ tm v av:=
 h.1.keep (fun _ _ _ h1 h2=>⟨h1,h2⟩) (fun d hd=>absurd hd (h.2.2.2.1 d)) (fun s b hr=>by have:=h.2.1;cases av<;>simp [AV.rf,AV.vy8] at hr this) (fun _=>rfl)
def RdXL (M:Nat->Nat->Prop) (w:World) (vs:List Value) (args:List AV) (j:Nat):Prop:=
 vs.length=args.length/\(∀ i v av,vs[i]? = some v->args[i]? = some av->i≠j->RdB M w v av)/\∃ v av,vs[j]? = some v/\args[j]? = some av/\XOk M w v av
def ResX (M:Nat->Nat->Prop) (w:World) (vj v:Value):AV->Prop
 | .awn _ m lo n=>∃ ad cap,v=.slice ad n cap/\(cap≠0\/lo=0->ad=some ⟨blk vj,offV vj+lo*m,none⟩)/\n<=cap/\lo+cap<=capV vj
 | .asl _=>v=vj
 | res=>res.vy8=false/\RdR M w v res
def wmo (P:Program) (f:FuncId) (args:List AV) (j:Nat) (out res:AV):Prop:=
 wuj P f/\∀(M:Nat->Nat->Prop) (w:World) (vs:List Value),Bounded M w->RdXL M w vs args j->
  Calls P f vs.toArray w (fun e w'=>∃ v vj,e=.returned v/\vs[j]? = some vj/\xsb (blk vj) w w'/\XOk M w' vj out/\ResX M w' vj v res)
theorem yl4 {vs:List Value} {args:List AV} {vj:Value} (hM:Bounded M w) (h:RdXL M w vs args j) (hvj:vs[j]? = some vj) (n:Nat) :
 Rel ⟨w,M,fun b=>b=blk vj,vs.toArray++Array.replicate n Go.undef,hM⟩ (args++List.replicate n .undef) { tmps:=vs.toArray++Array.replicate n Go.undef,defers:=[] } w:=by
 obtain ⟨hlen,hdat,v0,av0,hv0,ha0,hx⟩:=h;rw [hvj] at hv0;cases hv0
 have htm:∀ i v,vs[i]? = some v->(vs.toArray++Array.replicate n Go.undef).getD i Go.undef=v:=fun i v hv=>by
  have hvl:i<vs.length:=(List.getElem?_eq_some_iff.1 hv).1;rw [List.getElem?_eq_getElem hvl] at hv;simp at hv;simp [Array.getD_eq_getD_getElem?,Array.getElem?_append,hvl,hv]
 have hj:j<args.length:=(List.getElem?_eq_some_iff.1 ha0).1;have hnot:∀(i:Nat) (av:AV),(args++List.replicate n AV.undef)[i]? = some av->(i=j/\av=av0/\(vs.toArray++Array.replicate n Go.undef).getD i Go.undef=vj)\/
  (i≠j/\∃ v,(vs.toArray++Array.replicate n Go.undef).getD i Go.undef=v/\RdB M w v av):=by
  intro i av hi;by_cases hlt:i<args.length
  . rw [List.getElem?_append_left hlt] at hi;by_cases hij:i=j
    . subst hij;rw [ha0] at hi;cases hi;exact .inl ⟨rfl,rfl,htm i vj hvj⟩
    . have hvl:i<vs.length:=by omega
      exact .inr ⟨hij,vs[i],htm i _ (List.getElem?_eq_getElem hvl),hdat i _ av (List.getElem?_eq_getElem hvl) hi hij⟩
  . rw [List.getElem?_append_right (by omega)] at hi
    have hav:av=.undef:=by
     have:=List.mem_of_getElem? hi
     exact (List.mem_replicate.1 this).2
    subst hav;refine .inr ⟨by omega,Go.undef,?_,rfl⟩;simp only [Array.getD_eq_getD_getElem?,Array.getElem?_append];rw [if_neg (by simp;omega)];simp only [Array.getElem?_replicate]
    split<;>rfl
 have props:∀(v:Value) (av:AV),RdB M w v av->av.vy8=false/\av.rf=none/\(∀ t,¬av.vjg t):=fun v av hr=>by
  cases av with
  | one c=>exact ⟨rfl,rfl,(RdB.slot (τ:=vr1) (tm:=#[]) hr).2⟩
  | agg c=>exact ⟨rfl,rfl,(RdB.slot (τ:=vr1) (tm:=#[]) hr).2⟩
  | elt c=>exact ⟨rfl,rfl,fun t ht=>ht⟩
  | any=>exact ⟨rfl,rfl,fun t ht=>ht⟩
  | undef=>exact ⟨rfl,rfl,fun t ht=>ht⟩
  | _=>exact hr.elim
 have nolive:∀ t,¬live (args++List.replicate n AV.undef) t:=fun t ⟨i,x,hi,hxt⟩=>by
  rcases hnot i x hi with ⟨_,rfl,_⟩ | ⟨_,v,_,hr⟩
  . exact hx.2.2.2.1 t hxt
  . exact (props v x hr).2.2 t hxt
 refine ⟨vr1,M,RelI.mk rfl (by simp [hlen]) ?_ (fun _ _ h=>h) hM ?_ ?_ ?_ (fun t ht=>absurd ht (nolive t)) (fun t _ _ ht=>absurd ht (nolive t)) (fun t _ _ ht=>absurd ht (nolive t)) (Nat.le_refl _) rfl rfl rfl (fun _ _ _=>rfl)⟩
 . intro i av hi
   rcases hnot i av hi with ⟨_,rfl,e⟩ | ⟨_,v,hv,hr⟩
   . show vi6 M w _ _ ((vs.toArray++Array.replicate n Go.undef).getD i Go.undef) av;rw [e];exact hx.slot _ _
   . show vi6 M w _ _ ((vs.toArray++Array.replicate n Go.undef).getD i Go.undef) av;rw [hv];exact (RdB.slot hr).1
 . intro i av hi hh
   rcases hnot i av hi with ⟨_,rfl,e⟩ | ⟨_,v,hv,hr⟩
   . show (∀ o,M (blk ((vs.toArray++Array.replicate n Go.undef).getD i Go.undef)) o)/\(_<=blk ((vs.toArray++Array.replicate n Go.undef).getD i Go.undef)\/blk ((vs.toArray++Array.replicate n Go.undef).getD i Go.undef)=blk vj)/\(_->_)/\(_->(vs.toArray++Array.replicate n Go.undef).getD i Go.undef=(vs.toArray++Array.replicate n Go.undef).getD i Go.undef);rw [e];exact ⟨hx.2.2.2.2,.inr rfl,(fun hf=>by rw [hx.2.2.1] at hf;cases hf),fun _=>rfl⟩
   . rw [(props v av hr).1] at hh;cases hh
 . intro i j' x y hi hj' hxh hyh _
   rcases hnot i x hi with ⟨rfl,_,_⟩ | ⟨_,v,hv,hr⟩
   . rcases hnot j' y hj' with ⟨rfl,_,_⟩ | ⟨_,v,hv,hr⟩
     . rfl
     . rw [(props v y hr).1] at hyh;cases hyh
   . rw [(props v x hr).1] at hxh;cases hxh
 . intro i av s b hi hr'
   rcases hnot i av hi with ⟨_,rfl,e⟩ | ⟨_,v,hv,hr⟩
   . have:=hx.2.1
     cases av<;>simp [AV.rf,AV.vy8] at hr' this
   . rw [(props v av hr).2.1] at hr';cases hr'
def retX (P:Program) (rs:List ResultVar) (j:Nat) (out res:AV):Exit->List AV->Prop
 | .ret,I | .normal,I=>gt I j=out/\out.vy8=true/\out.fresh=false/\(match res with
  | .awn _ m lo n=>∃ t,rs=[.tmp t]/\gt I t=.awn j m lo n
  | .asl _=>∃ t,rs=[.tmp t]/\gt I t=.asl j
  | res=>res.vy8=false/\∃ av,ylc P I rs=some av/\RLe av res)
 | _,_=>False
theorem y5z {t:Nat} (h:fn.results.toList=[.tmp t]) (tm:Array Value) (w:World):(results fn tm).run P w=.ok (tm.getD t Go.undef) w:=by
 have hres:fn.results=#[.tmp t]:=by rw [<-Array.toArray_toList (xs:=fn.results),h]
 unfold results;rw [hres];simp
theorem wmo.of {c:Code} {args:List AV} {out:AV} (hf:P.funcs[f]? = some fn) (hb:fn.body=some c) (hname:(fn.name == "runtime.NumGoroutine")=false)
 (hnt:∀ t,¬out.vjg t) (h:vy2 P c (retX P fn.results.toList j out res) (args++List.replicate (fn.ntmps-args.length) .undef)):wmo P f args j out res:=by
 refine ⟨⟨fn,hf,hname,by rw [hb];rfl⟩,fun M w vs hM hrd=>?_⟩;have hlen:=hrd.1;obtain ⟨vj,avj,hvj,haj,hx⟩:=hrd.2.2;refine calls_of_wp hf hb ?_;have hstart:=yl4 hM hrd hvj (fn.ntmps-args.length)
 have hsz:vs.toArray.size=args.length:=by simp [hlen]
 rw [hsz];refine wp_mono (h _ _ w hstart) ?_;rintro e a w' ⟨I,hq,hR⟩
 have hargs:(vs.toArray++Array.replicate (fn.ntmps-args.length) Go.undef).getD j Go.undef=vj:=by
  have hvl:j<vs.length:=(List.getElem?_eq_some_iff.1 hvj).1;rw [List.getElem?_eq_getElem hvl] at hvj;simp at hvj;simp [Array.getD_eq_getD_getElem?,Array.getElem?_append,hvl,hvj]
 have fin:retX P fn.results.toList j out res .ret I->a.defers=[]/\∃ v,(results fn a.tmps).run P w'=.ok v w'/\
  ∃ v0 vj,Ending.returned v=.returned v0/\vs[j]? = some vj/\xsb (blk vj) w w'/\XOk M w' vj out/\ResX M w' vj v0 res:=fun hq=>by
  obtain ⟨hg,hho,hfr,hres⟩:=hq;have hR0:=hR;obtain ⟨τ,M',hI⟩:=hR
  have hne:out≠.any:=fun e=>by rw [e] at hho;cases hho
  have hgs:=vxi hg hne;have hold:=hI.hold j out hgs hho;have hval:a.tmps.getD j Go.undef=vj:=(hold.2.2.2 hfr).trans hargs;have hss:=hI.gt j;rw [hg,hval] at hss;have hX:XOk M w' vj out:=⟨hss.keep (ya3.shrink w' hI.m0) (fun d hd=>absurd hd (hnt d)) (fun s b hr=>by cases out<;>simp [AV.rf,AV.vy8] at hr hho) (fun _=>rfl),hho,hfr,hnt,hx.2.2.2.2⟩;have hB:xsb (blk vj) w w':=⟨hI.os,hI.tape,hI.output,hI.size,fun k hk hne=>hI.frame k hk hne⟩;refine ⟨hI.hd,?_⟩
  have plain:(res.vy8=false/\∃ av,ylc P I fn.results.toList=some av/\RLe av res)->∃ v,(results fn a.tmps).run P w'=.ok v w'/\res.vy8=false/\RdR M w' v res:=fun ⟨h1,av,h2,h3⟩=>by
   obtain ⟨v,hrun,hrd',_⟩:=wwi (fn:=fn) hR0 h2 h3;exact ⟨v,hrun,h1,hrd'⟩
  cases res with
  | awn s m lo n=>
   obtain ⟨t,hrs,hgt⟩:=hres;refine ⟨_,y5z hrs a.tmps w',_,vj,rfl,hvj,hB,hX,?_⟩;have hs:=hI.gt t;rw [hgt] at hs;obtain ⟨ad,cap,e1,h1,h2,h3⟩:=hs;rw [hval] at h1 h3;exact ⟨ad,cap,e1,h1,h2,h3⟩
  | asl s=>
   obtain ⟨t,hrs,hgt⟩:=hres;refine ⟨_,y5z hrs a.tmps w',_,vj,rfl,hvj,hB,hX,?_⟩;have hs:=hI.gt t;rw [hgt] at hs;exact Eq.trans hs hval
  | _=>
   obtain ⟨v,hrun,hh,hr⟩:=plain hres;exact ⟨v,hrun,v,vj,rfl,hvj,hB,hX,hh,hr⟩
 cases e with
 | normal=>exact fin hq
 | ret=>exact fin hq
 | _=>exact hq.elim
inductive OV where
 | bx (cs:List Cell)
 | wn (c:Cell) (lo n:Nat)
def zzy (I:List AV) (x:Operand):Option (Nat×OV):=match x with
 | .tmp t=>match gt I t with
  | .box cs=>some (t,.bx (zcr cs))
  | .obx cs=>some (t,.bx (zcr cs))
  | .ptr s off=>if off=0 then match gt I s with
   | .box cs=>some (s,.bx (zcr cs))
   | .obx cs=>some (s,.bx (zcr cs))
   | _=>none
   else none
  | .arr _ c _=>some (t,.wn c 0 c.cnt)
  | .asl s=>match gt I s with
   | .arr _ c _=>some (s,.wn c 0 c.cnt)
   | _=>none
  | .awn s m lo n=>match gt I s with
   | .arr _ c _=>if m=c.esz/\lo+n<=c.cnt/\(n≠0\/lo=0) then some (s,.wn c lo n) else none
   | _=>none
  | _=>none
 | _=>none
def xvt (I:List AV) (x:Operand):List Nat:=match zzy I x with
 | some (s,_)=>s::orr x
 | none=>orr x
def z2i (I:List AV):List Operand->Option (List AV×Nat×Nat×OV)
 | []=>none
 | x::r=>match zzy I x with
  | some (s,ov)=>match x1v I r with
   | some l=>some (.any::l,0,s,ov)
   | none=>none
  | none=>match argA (opd I x),z2i I r with
   | some av,some (l,j,s,ov)=>some (av::l,j+1,s,ov)
   | _,_=>none
def Cell.y7u (c:Cell) (lo:Nat) (c':Cell):Option Cell:=match c,c' with
 | .ints k l,.ints k' l'=>if k=k' then some (.ints k (l.take lo++l'++l.drop (lo+l'.length))) else none
 | .sl m rows,.sl m' rows'=>if m=m' then some (.sl m (rows.take lo++rows'++rows.drop (lo+rows'.length))) else none
 | _,_=>none
theorem Cell.zjc {c c' c2 : Cell} (hu : c.uni) (hu' : c'.uni) (h : c.y7u lo c' = some c2) (hfit : lo + c'.cnt ≤ c.cnt) :
 c2.uni/\c2.cnt=c.cnt/\c2.esz=c.esz/\c'.esz=c.esz/\c2.flat=c.flat.take (lo*c.esz)++c'.flat++c.flat.drop ((lo+c'.cnt)*c.esz):=by
 cases c with
 | ints k l=>
  cases c' with
  | ints k' l'=>
   simp only [Cell.y7u] at h;split at h
   . rename_i hk;subst hk
     cases h;simp only [Cell.cnt] at hfit;refine ⟨trivial,by simp [Cell.cnt];omega,rfl,rfl,?_⟩;simp [Cell.flat,Cell.esz,Cell.cnt,List.map_take,List.map_drop]
   . cases h
  | _=>cases h
 | sl m rows=>
  cases c' with
  | sl m' rows'=>
   simp only [Cell.y7u] at h;split at h
   . rename_i hk;subst hk
     cases h;simp only [Cell.cnt] at hfit;have hu:∀ r∈rows,r.length=m:=hu;have hu':∀ r∈rows',r.length=m:=hu';refine ⟨fun r hr=>?_,by simp [Cell.cnt];omega,rfl,rfl,?_⟩
     . simp only [List.mem_append] at hr
       rcases hr with (hr | hr) | hr
       . exact hu r (List.mem_of_mem_take hr)
       . exact hu' r hr
       . exact hu r (List.mem_of_mem_drop hr)
     . simp only [Cell.flat,Cell.esz,Cell.cnt];rw [xxl rows lo hu,wzz rows _ hu];simp
   . cases h
  | _=>cases h
 | _=>exact hu.elim
theorem Cell.wn8 {c:Cell} (hu:c.uni) {n:Nat} (hfit:lo+n<=c.cnt):(c.sub lo n).uni/\(c.sub lo n).cnt=n/\(c.sub lo n).esz=c.esz/\(c.sub lo n).flat=(c.flat.drop (lo*c.esz)).take (n*c.esz):=by
 cases c with
 | ints k l=>
  simp only [Cell.cnt] at hfit;refine ⟨trivial,by simp [Cell.sub,Cell.cnt];omega,rfl,?_⟩;simp [Cell.sub,Cell.flat,Cell.esz,List.map_take,List.map_drop]
 | sl m rows=>
  simp only [Cell.cnt] at hfit;have hu:∀ r∈rows,r.length=m:=hu;refine ⟨fun r hr=>hu r (List.mem_of_mem_drop (List.mem_of_mem_take (by simpa [Cell.sub] using hr))),by simp [Cell.sub,Cell.cnt];omega,rfl,?_⟩;simp only [Cell.sub,Cell.flat,Cell.esz];rw [wzz rows lo hu,xxl _ n (fun r hr=>hu r (List.mem_of_mem_drop hr))]
 | _=>exact hu.elim
def vpg (P:Program) (f:FuncId) (l:List AV) (j:Nat) (ov:OV) (new:OV) (res:AV):Prop:=match ov,new with
 | .bx cs,.bx cs'=>wmo P f (l.set j (.obx cs)) j (.obx cs') res
 | .wn c lo n,.wn c' _ _=>∀ pre q,wmo P f (l.set j (.arr pre (c.sub lo n) (some q))) j (.arr pre c' (some q)) res
 | _,_=>False
def vpn (old:AV) (ov new:OV):Option AV:=match ov,new with
 | .bx _,.bx cs'=>some (old.zca cs')
 | .wn c lo _,.wn c' _ _=>match old with
  | .arr pre _ post=>(c.y7u lo c').map fun c2=>.arr pre c2 post
  | _=>none
 | _,_=>none
def y47 (s:Nat) (ov:OV) (res:AV):Option AV:=match res with
 | .awn _ m lo' n'=>match ov with
  | .wn c lo _=>if m=c.esz then some (.awn s m (lo+lo') n') else none
  | _=>none
 | .asl _=>none
 | res=>some res
theorem wkj {I':List AV} {s:Nat} {ov:OV} (h:zzy I x=some (s,ov)) (hx:∀ t∈orr x,gt I' t=gt I t) (hs:gt I' s=gt I s):zzy I' x=some (s,ov):=by
 cases x with
 | tmp t=>
  have hxt:=hx t (by simp [orr]);simp only [zzy] at h ⊢;rw [hxt]
  repeat' split at h
  all_goals first | (cases h;done) | skip
  all_goals (cases h;simp_all)
 | _=>cases h
theorem vqr (h:argA (opd I x)=some av):zzy I x=none:=by
 cases x with
 | tmp t=>
  have h:argA (gt I t)=some av:=h;simp only [zzy]
  cases hg:gt I t<;>rw [hg] at h<;>first | rfl | cases h
 | _=>rfl
theorem xz4 {I I':List AV}:∀(xs:List Operand) (l:List AV) (j s:Nat) (ov:OV),z2i I xs=some (l,j,s,ov)->(∀ t∈orrL xs,gt I' t=gt I t)->gt I' s=gt I s->z2i I' xs=some (l,j,s,ov)
 | [],_,_,_,_,h,_,_=>by cases h
 | x::r,l,j,s,ov,h,hx,hs=>by
  have hop:∀ y:Operand,(∀ t∈orr y,t∈orrL (x::r))->opd I' y=opd I y:=fun y hy=>by
   cases y with
   | tmp t=>exact hx t (hy t (by simp [orr]))
   | _=>rfl
  have hx1:∀ t∈orr x,t∈orrL (x::r):=fun t ht=>by simp [orrL,ht]
  simp only [z2i] at h ⊢;split at h
  . rename_i s' ov' hv;split at h
    . rename_i l' hl
      cases h;rw [wkj hv (fun t ht=>hx t (hx1 t ht)) hs];simp only;rw [yhz (I:=I) (I':=I') r (fun y hy=>hop y (fun t ht=>by simp [orrL,hy t ht])),hl]
    . cases h
  . rename_i hv;split at h
    . rename_i av l' j' s' ov' ha hr
      cases h;have hop1:=hop x hx1;have hnone:zzy I' x=none:=vqr (by rw [hop1];exact ha);rw [hnone];simp only;rw [hop1,ha,xz4 r l' j' s ov hr (fun t ht=>hx t (by simp [orrL,ht])) hs]
    . cases h
theorem x6o {E:Env} {τ:Nat->TV} {M:Nat->Nat->Prop} {I:List AV} {a:Act} {w:World} (hI:RelI E τ M I a w):∀(xs:List Operand) (l:List AV),x1v I xs=some l->
 l.length=xs.length/\∀(i:Nat) (x:Operand) (av:AV),xs[i]? = some x->l[i]? = some av->RdB M w (a.eval x) av
 | [],l,h=>by simp only [x1v,Option.some.injEq] at h;subst h;exact ⟨rfl,fun i x av hx=>by simp at hx⟩
 | x::r,l,h=>by
  simp only [x1v] at h;split at h
  . rename_i av l' h1 h2
    cases h;obtain ⟨hl,hg⟩:=x6o hI r l' h2;refine ⟨by simp [hl],fun i y av' hy hav=>?_⟩
    cases i with
    | zero=>simp at hy hav;subst hy;subst hav;exact wo4 h1 (hI.opd x)
    | succ i=>exact hg i y av' (by simpa using hy) (by simpa using hav)
  . cases h
theorem yp8 {E : Env} {τ : Nat → TV} {M : Nat → Nat → Prop} {I : List AV} {a : Act} {w : World} (hI : RelI E τ M I a w) : ∀ (xs : List Operand) (l : List AV) (j s : Nat) (ov : OV), z2i I xs = some (l, j, s, ov) →
 l.length=xs.length/\(∃ x,xs[j]? = some x/\zzy I x=some (s,ov))/\∀(i:Nat) (x:Operand) (av:AV),xs[i]? = some x->l[i]? = some av->i≠j->RdB M w (a.eval x) av
 | [],_,_,_,_,h=>by cases h
 | x::r,l,j,s,ov,h=>by
  simp only [z2i] at h;split at h
  . rename_i s' ov' hv;split at h
    . rename_i l' hl
      cases h;obtain ⟨hlen,hg⟩:=x6o hI r l' hl;refine ⟨by simp [hlen],⟨x,rfl,hv⟩,fun i y av hy hav hne=>?_⟩
      cases i with
      | zero=>exact absurd rfl hne
      | succ i=>exact hg i y av (by simpa using hy) (by simpa using hav)
    . cases h
  . split at h
    . rename_i av l' j' s' ov' ha hr
      cases h;obtain ⟨hlen,⟨y,hy,hyv⟩,hg⟩:=yp8 hI r l' j' s ov hr;refine ⟨by simp [hlen],⟨y,by simpa using hy,hyv⟩,fun i z av' hz hav hne=>?_⟩
      cases i with
      | zero=>simp at hz hav;subst hz;subst hav;exact wo4 ha (hI.opd x)
      | succ i=>exact hg i z av' (by simpa using hz) (by simpa using hav) (fun e=>hne (by rw [e]))
    . cases h
theorem wsc (hI:RelI E τ M I a w) {s:Nat} {ov:OV} (h:zzy I x=some (s,ov)) :
 (∃ cs0,ov=.bx (zcr cs0)/\(gt I s).xns=some cs0/\a.eval x=a.tmps.getD s Go.undef)\/
 (∃ pre c post lo n cap,ov=.wn c lo n/\gt I s=.arr pre c post/\lo+n<=c.cnt/\a.eval x=.slice (some ⟨blk (a.tmps.getD s Go.undef),pre.length+lo*c.esz,none⟩) n cap/\n<=cap/\lo+cap<=capV (a.tmps.getD s Go.undef)):=by
 cases x with
 | tmp t=>
  have hs:=hI.gt t
  have arr:∀ s0 pre c post,gt I s0=.arr pre c post->∃ cap,a.tmps.getD s0 Go.undef=.slice (some ⟨blk (a.tmps.getD s0 Go.undef),pre.length,none⟩) c.cnt cap/\c.cnt<=cap/\cap=capV (a.tmps.getD s0 Go.undef)/\pre.length=offV (a.tmps.getD s0 Go.undef):=fun s0 pre c post hg=>by
   have hss:=hI.gt s0;rw [hg] at hss;obtain ⟨b,T,vs,q,cap,e1,_,_,_,_,hcap,_⟩:=hss;rw [e1];exact ⟨cap,rfl,hcap,rfl,rfl⟩
  simp only [zzy] at h;split at h
  . rename_i cs hg;cases h;exact .inl ⟨cs,rfl,by rw [hg];rfl,rfl⟩
  . rename_i cs hg;cases h;exact .inl ⟨cs,rfl,by rw [hg];rfl,rfl⟩
  . rename_i s' off hg;split at h
    . rename_i h0;subst h0;rw [hg] at hs;have hs:a.tmps.getD t Go.undef=.pointer (some ⟨blk (a.tmps.getD s' Go.undef),0,none⟩):=hs
      have fin:∀ cs,(gt I s').xns=some cs->a.eval (.tmp t)=a.tmps.getD s' Go.undef:=fun cs hb=>by
       obtain ⟨b,vs,T,e1,_⟩:=x08 (hI.gt s') hb;show a.tmps.getD t Go.undef=_;rw [hs,e1];rfl
      split at h
      . rename_i cs hg2;cases h;exact .inl ⟨cs,rfl,by rw [hg2];rfl,fin cs (by rw [hg2];rfl)⟩
      . rename_i cs hg2;cases h;exact .inl ⟨cs,rfl,by rw [hg2];rfl,fin cs (by rw [hg2];rfl)⟩
      . cases h
    . cases h
  . rename_i pre c post hg
    cases h;obtain ⟨cap,e1,h1,h2,h3⟩:=arr s pre c post hg;refine .inr ⟨pre,c,post,0,c.cnt,cap,rfl,hg,by omega,?_,h1,by omega⟩;show a.tmps.getD s Go.undef=_;rw [Nat.zero_mul,Nat.add_zero];exact e1
  . rename_i s' hg;split at h
    . rename_i pre c post hg2
      cases h;obtain ⟨cap,e1,h1,h2,h3⟩:=arr s pre c post hg2;rw [hg] at hs;have hs:a.tmps.getD t Go.undef=a.tmps.getD s Go.undef:=hs;refine .inr ⟨pre,c,post,0,c.cnt,cap,rfl,hg2,by omega,?_,h1,by omega⟩;show a.tmps.getD t Go.undef=_;rw [Nat.zero_mul,Nat.add_zero,hs];exact e1
    . cases h
  . rename_i s' m lo n hg;split at h
    . rename_i pre c post hg2;split at h
      . rename_i hc;obtain ⟨rfl,hfit,hnz⟩:=hc
        cases h;obtain ⟨capS,e1,h1,h2,h3⟩:=arr s pre c post hg2;rw [hg] at hs;obtain ⟨ad,cap,e2,had,hn,hcap⟩:=hs;refine .inr ⟨pre,c,post,lo,n,cap,rfl,hg2,hfit,?_,hn,hcap⟩;show a.tmps.getD t Go.undef=_;rw [e2,had (by omega),<-h3]
      . cases h
    . cases h
  . cases h
 | _=>cases h
theorem y2y {xs:List Operand} (ho:o.op=.call { callee:=.value (.func f),args:=xs.toArray,argTypes:=ts }) {l:List AV} {s:Nat} {ov new:OV}
 (hx:z2i I xs=some (l,j,s,ov)) (hn:yro I o=true) {nw res':AV} (hc:vpg P f l j ov new res) (hs:vpn (gt I s) ov new=some nw) (hr:y47 s ov res=some res') :
 yh6 P o I (v9o o++s::orrL xs) [] ((s,nw)::x93 o res'):=by
 intro E I' a w hag _ ⟨τ,M,hI⟩ K Q hK;have hgs:gt I' s=gt I s:=hag.2 s (by simp);have hx':=xz4 xs l j s ov hx (fun t ht=>hag.2 t (by simp [ht])) hgs;obtain ⟨hlen,⟨x,hxj,hview⟩,hdat⟩:=yp8 hI xs l j s ov hx'
 have hjl:j<l.length:=by rw [hlen];exact (List.getElem?_eq_some_iff.1 hxj).1
 have hvj:(xs.map a.eval)[j]? = some (a.eval x):=by simp [hxj]
 have mk:∀ av:AV,XOk M w (a.eval x) av->RdXL M w (xs.map a.eval) (l.set j av) j:=fun av hX=>
  ⟨by simp [hlen],fun i v av' hv hav hne=>by
   rw [List.getElem?_set_ne (Ne.symm hne)] at hav;rw [List.getElem?_map] at hv;simp only [Option.map_eq_some_iff] at hv;obtain ⟨y,hy,rfl⟩:=hv
   exact hdat i y av' hy hav hne,a.eval x,av,hvj,by simp [hjl],hX⟩
 have fin:∀(w':World) (v:Value),RelI E τ M (I'.set s nw) a w'->nw.vy8=true->vi6 M w' τ a.tmps v res'->(∀ t,¬res'.vjg t)->res'.vy8=false->
  (∀(s':Nat) (b:Bool),res'.rf=some (s',b)->s'=s/\b=false/\nw.vfv=true)->K (a.put o.dst v) w':=fun w' v hI' hnw h1 h2 h3 h4=>by
  cases hdst:o.dst with
  | none=>
   refine hK _ _ ⟨τ,M,?_⟩;simp only [x93,hdst,app];exact hI'
  | some d=>
   have hnd:nh I' d=true:=hag.nh (by simp [v9o,hdst]) (by simpa [yro,hdst] using hn);obtain ⟨old,h5,h6⟩:=yn6 hnd
   have hsl:s<I'.length:=by
    rcases wsc hI hview with ⟨cs0,_,hb,_⟩ | ⟨pre,c,post,lo,n,cap,_,hg,_⟩
    . exact (List.getElem?_eq_some_iff.1 (vxi rfl (xbh hb).2.2)).1
    . exact (List.getElem?_eq_some_iff.1 (vxi hg (by simp))).1
   have hds:d≠s:=fun e=>by
    subst e
    have hold:(gt I' d).vy8=true:=by
     rcases wsc hI hview with ⟨cs0,_,hb,_⟩ | ⟨pre,c,post,lo,n,cap,_,hg,_⟩
     . exact (xbh hb).1
     . rw [hg];rfl
    have:gt I' d=old:=by unfold gt;rw [h5];rfl
    rw [this,h6] at hold;cases hold
   refine hK _ _ ⟨τ,M,?_⟩;simp only [x93,hdst,app];refine hI'.put (by rw [List.getElem?_set_ne (Ne.symm hds)];exact h5) h6 v res' h3 h1 (fun s' b hr'=>?_) (fun t ht=>absurd ht (h2 t));obtain ⟨rfl,rfl,harr⟩:=h4 s' b hr';exact ⟨nw,by simp [hsl],by simpa [AV.fits] using harr⟩
 have data:res'.vy8=false->∀(w':World) (v:Value),RdR M w' v res'->vi6 M w' τ a.tmps v res'/\(∀ t,¬res'.vjg t)/\res'.rf=none:=fun hh w' v hr=>by
  have:=hr.slot (τ:=τ) (tm:=a.tmps) hh
  exact ⟨this.1,this.2.1,this.2.2.2⟩
 have hM:∀ av,gt I' s=av->av.vy8=true->∀ o,M (blk (a.tmps.getD s Go.undef)) o:=fun av hg hh=>
  (hI.hold s av (vxi hg (fun e=>by rw [e] at hh;cases hh)) hh).1
 unfold Oper.wp
 have henter:∀ v6l:wuj P f,(execOp a.eval o).run P w=.ok (.enter f (xs.map a.eval).toArray) w:=fun v6l=>by
  simp [execOp,ho,resolve,Deferred.ofValue,Act.eval,invoke,v7d v6l]
 rcases wsc hI hview with ⟨cs0,rfl,hb,hex⟩ | ⟨pre,c,post,lo,n,cap,rfl,hg,hfit,hex,hncap,hcap⟩
 . cases new with
   | wn _ _ _=>exact hc.elim
   | bx cs'=>
    have hc:wmo P f (l.set j (.obx (zcr cs0))) j (.obx cs') res:=hc;rw [henter hc.1];obtain ⟨b,vs,T,e1,hheap,hrd⟩:=x08 (hI.gt s) hb;have hh:=(xbh hb).1;have hX:XOk M w (a.eval x) (.obx (zcr cs0)):=⟨⟨b,vs,T,hex.trans e1,hheap,hrd.bare.w1a⟩,rfl,rfl,fun t ht=>hrd.bare.wo7 ht,by rw [hex];exact hM _ rfl hh⟩;refine (hc.2 M w _ hI.mb (mk _ hX)).mono ?_;rintro e w' ⟨v,vj,rfl,hvj',hbx,hX',hres⟩;rw [hvj] at hvj';cases hvj';show K (a.put o.dst v) w';rw [hex] at hbx hX';rw [hgs] at hb hh
    have hnw:nw=(gt I s).zca cs':=by simp [vpn] at hs;exact hs.symm
    have hkind:nw.xns=some cs'/\nw.vy8=true/\(∀ b,(gt I s).fits b=true->nw.fits b=true)/\nw.fresh=(gt I s).fresh:=by
     rw [hnw];generalize gt I s=g at hb
     cases g<;>first | exact ⟨rfl,rfl,fun b hf=>by cases b<;>first | exact hf | rfl,rfl⟩ | cases hb
    have hsl:=hX'.slot τ a.tmps
    have hI':=hI.turn (s:=s) (old:=gt I s) (new:=nw) (vxi hgs (xbh hb).2.2) hh hkind.2.1 hkind.2.2.1 hkind.2.2.2 hbx (by
     have h1:=hkind.1
     cases nw<;>first | (cases h1;exact hsl) | cases h1) (fun t ht=>by
     rw [vmf hkind.1] at ht
     exact absurd ht (hX'.2.2.2.1 t))
    cases res with
    | awn _ _ _ _=>cases hr
    | asl _=>cases hr
    | _=>
     cases hr;obtain ⟨h1,h2,h3⟩:=data hres.1 w' v hres.2;exact fin w' v hI' hkind.2.1 h1 h2 hres.1 (fun s' b hr'=>by rw [h3] at hr';cases hr')
 . cases new with
   | bx _=>exact hc.elim
   | wn c' lo2 n2=>
    have hc:∀ pre q,wmo P f (l.set j (.arr pre (c.sub lo n) (some q))) j (.arr pre c' (some q)) res:=hc;have hss:=hI.gt s;rw [hg] at hss;obtain ⟨b,T,vs,q,capS,e1,hheap,hrd,hpost,hu,hcS,hcS'⟩:=hss;obtain ⟨su,scnt,sesz,sflat⟩:=Cell.wn8 hu hfit;have hfl:=Cell.ym0 hu;have hvl:=hrd.length;have hle:(lo+n)*c.esz<=c.cnt*c.esz:=Nat.mul_le_mul_right _ hfit;have hmul:(lo+n)*c.esz=lo*c.esz+n*c.esz:=Nat.add_mul _ _ _;have hcap2:(lo+cap)*c.esz<=capS*c.esz:=Nat.mul_le_mul_right _ (by rw [e1] at hcap;exact hcap);have hmul2:(lo+cap)*c.esz=lo*c.esz+cap*c.esz:=Nat.add_mul _ _ _
    have hbb:blk (a.tmps.getD s Go.undef)=b:=by rw [e1];rfl
    rw [hbb] at hex;have hc1:=hc (pre++vs.take (lo*c.esz)) (vs.drop ((lo+n)*c.esz)++q);rw [henter hc1.1]
    have hpl:(pre++vs.take (lo*c.esz)).length=pre.length+lo*c.esz:=by simp;omega
    have hsplit:pre++(vs++q)=(pre++vs.take (lo*c.esz))++((vs.drop (lo*c.esz)).take (n*c.esz)++(vs.drop ((lo+n)*c.esz)++q)):=by
     have e2:vs=vs.take (lo*c.esz)++((vs.drop (lo*c.esz)).take (n*c.esz)++vs.drop ((lo+n)*c.esz)):=by
      rw [hmul,<-List.drop_drop,List.take_append_drop,List.take_append_drop]
     conv=>lhs;rw [e2]
     simp
    have hMb:∀ o,M b o:=by have:=hM _ hg rfl;rw [hbb] at this;exact this
    have hX:XOk M w (a.eval x) (.arr (pre++vs.take (lo*c.esz)) (c.sub lo n) (some (vs.drop ((lo+n)*c.esz)++q))):=by
     refine ⟨⟨b,T,(vs.drop (lo*c.esz)).take (n*c.esz),vs.drop ((lo+n)*c.esz)++q,cap,by rw [hex,hpl,scnt],by rw [hheap,hsplit],?_,(by intro p hp;cases hp;rfl),su,by rw [scnt];exact hncap,?_⟩,rfl,rfl,fun t ht=>ht,by rw [hex];exact hMb⟩
     . rw [sflat];exact (hrd.drop _).take _
     . rw [sesz];simp only [List.length_take,List.length_drop,List.length_append];omega
    refine (hc1.2 M w _ hI.mb (mk _ hX)).mono ?_;rintro e w' ⟨v,vj,rfl,hvj',hbx,hX',hres⟩;rw [hvj] at hvj';cases hvj';show K (a.put o.dst v) w';have hgS:gt I s=.arr pre c post:=hgs▸hg;simp only [vpn,hgS,Option.map_eq_some_iff] at hs;obtain ⟨c2,hspl,rfl⟩:=hs;obtain ⟨⟨b',T',us,q',cap',e3,hheap',hrd',hq',hu',hcnt',hcap'⟩,_⟩:=hX';rw [hex] at e3;simp only [hpl,Value.slice.injEq,Option.some.injEq,Addr.mk.injEq,and_true] at e3;obtain ⟨rfl,hcn,rfl⟩:=e3
    have:=hq' _ rfl
    subst this;obtain ⟨u2,cnt2,esz2,esz',flat2⟩:=Cell.zjc hu hu' hspl (by omega)
    have hbx':xsb (blk (a.tmps.getD s Go.undef)) w w':=by rw [hbb];rw [hex] at hbx;exact hbx
    have hk:=hbx'.keeps (M:=M) (by rw [hbb];exact hMb)
    have hul:us.length=n*c.esz:=by rw [hrd'.length,Cell.ym0 hu',<-hcn,esz']
    have hsl:vi6 M w' τ a.tmps (a.tmps.getD s Go.undef) (.arr pre c2 post):=by
     refine ⟨b,T',vs.take (lo*c.esz)++us++vs.drop ((lo+n)*c.esz),q,capS,by rw [e1,cnt2],?_,?_,hpost,u2,by rw [cnt2];exact hcS,?_⟩
     . rw [hheap'];simp
     . rw [flat2,<-hcn];exact (((hrd.keep hk).take _).append hrd').append ((hrd.keep hk).drop _)
     . rw [esz2];simp only [List.length_append,List.length_take,List.length_drop,hul];omega
    have hI':=hI.turn (s:=s) (old:=.arr pre c post) (new:=.arr pre c2 post) (vxi hg (by simp)) rfl rfl (fun b hf=>by cases b<;>first | exact hf | rfl) (by cases post<;>rfl) hbx' hsl (fun t ht=>ht.elim)
    cases res with
    | asl _=>cases hr
    | awn s0 m lo' n'=>
     simp only [y47] at hr;split at hr
     . rename_i hm;subst hm
       cases hr;obtain ⟨ad,cap2,e4,had,h1,h2⟩:=hres;rw [hex] at had h2;simp only [blk,offV,capV] at had h2;refine fin w' v hI' rfl ⟨ad,cap2,e4,fun hor=>?_,h1,by rw [e1];rw [e1] at hcap;simp only [capV] at hcap ⊢;omega⟩ (fun t ht=>ht) rfl (fun s' b' hr'=>?_)
       . rw [had (by omega),hbb,e1];simp only [offV];rw [Nat.add_mul,<-Nat.add_assoc]
       . simp only [AV.rf,Option.some.injEq,Prod.mk.injEq] at hr';exact ⟨hr'.1.symm,hr'.2.symm,rfl⟩
     . cases hr
    | _=>
     cases hr;obtain ⟨h1,h2,h3⟩:=data hres.1 w' v hres.2;exact fin w' v hI' rfl h1 h2 hres.1 (fun s' b hr'=>by rw [h3] at hr';cases hr')
def w5h (s:Nat):Nat->List AV->List (Nat×AV)
 | _,[]=>[]
 | i,av::r=>if hitB s i av=true then (i,.any)::w5h s (i+1) r else w5h s (i+1) r
theorem z2l (s:Nat):∀(I:List AV) (k:Nat) (p:Nat×AV),p∈w5h s k I->k<=p.1
 | [],_,p,h=>by cases h
 | av::r,k,p,h=>by
  have ih:=z2l s r (k+1) p;unfold w5h at h;split at h
  . rcases List.mem_cons.1 h with rfl | h
    . exact Nat.le_refl _
    . exact Nat.le_of_succ_le (ih h)
  . exact Nat.le_of_succ_le (ih h)
theorem znv (s:Nat):∀(I:List AV) (k i:Nat),i<I.length->
 ((w5h s k I).reverse.find? (fun p=>p.1==k+i))=if hitB s (k+i) (gt I i)=true then some (k+i,AV.any) else none
 | [],_,i,h=>by simp at h
 | av::r,k,i,h=>by
  have none_of:(w5h s (k+1) r).reverse.find? (fun p=>p.1==k)=none:=by
   rw [List.find?_eq_none];intro p hp
   have:=z2l s r (k+1) p (List.mem_reverse.1 hp)
   simp only [beq_iff_eq];omega
  cases i with
  | zero=>
   have hg:gt (av::r) 0=av:=rfl;rw [hg,Nat.add_zero];unfold w5h
   split
   . rw [List.reverse_cons,List.find?_append,none_of];simp
   . exact none_of
  | succ i=>
   have ih:=znv s r (k+1) i (by simpa using h);have hg:gt (av::r) (i+1)=gt r i:=rfl;rw [hg,show k+(i+1)=k+1+i by omega,<-ih]
   have hd:w5h s k (av::r)=if hitB s k av=true then (k,.any)::w5h s (k+1) r else w5h s (k+1) r:=rfl
   rw [hd]
   split
   . rw [List.reverse_cons,List.find?_append];simp [show ¬k=k+1+i by omega]
   . rfl
theorem yor (s:Nat) (I:List AV):app (w5h s 0 I) I=xsc s I:=by
 apply xk1 (by rw [vsf,z1s]);intro i hi;rw [vsf] at hi;have h1:=wij (w5h s 0 I) I i hi;have h2:=znv s I 0 i hi;simp only [Nat.zero_add] at h2
 have h3:gt (xsc s I) i=wsh s i (gt I i):=by
  unfold xsc Slot.gt;rw [ypl]
  cases hh:I[i]? with
  | none=>rw [List.getElem?_eq_none_iff] at hh;omega
  | some x=>simp
 rw [h1,h2,h3];unfold wsh
 split<;>rfl
def wmf {α:Type}:Bool->α->List α->List α
 | true,_,l=>l
 | false,p,l=>p::l
theorem x12 {s:Nat}:w5h s i []=[]:=rfl
theorem xzo {s:Nat} {r:List AV}:w5h s i (av::r)=wmf (!hitB s i av) (i,.any) (w5h s (i+1) r):=by
 have:w5h s i (av::r)=if hitB s i av=true then (i,.any)::w5h s (i+1) r else w5h s (i+1) r:=rfl
 rw [this]
 cases hitB s i av<;>rfl
theorem v22:zrx tk i []=[]:=rfl
theorem yal {x:AV} {r:List AV}:zrx tk i (x::r)=wmf (tk.all (fun t=>x.wo7 t)) (i,x.vn9 tk) (zrx tk (i+1) r):=by
 have:zrx tk i (x::r)=if tk.all (fun t=>x.wo7 t) then zrx tk (i+1) r else (i,x.vn9 tk)::zrx tk (i+1) r:=rfl
 rw [this]
 cases tk.all (fun t=>x.wo7 t)<;>rfl
theorem vdy {e:TypeId} {i:TypeInfo} {z:Value} (ht:P.underlying T=some (.slice e)) (hi:P.info? e=some i) (hz:i.zero=some z) (w:World) (ty:TypeId) {ad0:Option Addr} {n old:Nat} {xs:List Value} {yad:Option Addr} {m ycap:Nat} {news:List Value}
 (hfd:(Builtin.firstCells i.size m (.slice yad m ycap)).run P w.drew=.ok news.toArray w.drew) (hfo:(Builtin.firstCells i.size n (.slice ad0 n old)).run P w.drew=.ok xs.toArray w.drew)
 (ho:old<n+m) (hbound:(n+m)*i.bytes<=140737488355328) (h63:n+m<=9223372036854775807) :
 (Builtin.append_ #[T,T] ty #[.slice ad0 n old,.slice yad m ycap]).run P w=.ok (.slice (some ⟨w.heap.size,0,none⟩) (n+m) (grownCap w (n+m) old e))
   (w.drew.alloc (.cells ((xs++news).toArray++Builtin.zeroCells z.cells (grownCap w (n+m) old e-(n+m))) e)):=by
 have hn:¬(n+m<=old):=by omega
 have h63':¬(9223372036854775807<((n:Int)+(m:Int))):=by omega
 have hfit:=growslice_fits (need:=n+m) (old:=old) (bytes:=i.bytes) ho hbound
 have h48':¬(281474976710656<Builtin.nextslicecap (n+m) old*i.bytes):=by omega
 simp [Builtin.append_,run_underlying ht,sizeOf,typeInfo,zeroValue,hi,hz,Builtin.lenOf,hn,h63',h48',Question.forced,hfd,hfo,newRow,grownCap]
 congr 2
 apply Array.ext';simp [List.append_assoc]
def vtr (I:List AV) (x:Operand):Option (Nat×Cell):=match x with
 | .tmp t=>match gt I t with
  | .arr [] c none=>some (t,c)
  | .asl s=>match gt I s with
   | .arr [] c none=>some (s,c)
   | _=>none
  | _=>none
 | _=>none
def xja (I:List AV) (ti:TI) (d:Nat) (x y:Operand):Option (List Nat×List (Nat×AV)):=
 match ti.sh with
 | .slice _ es eb ik=>match vtr I x,opd I y with
  | some (s,c),.one cy=>match y5i es eb ik c cy.bare with
   | some c'=>if nh I d&&c.isSl then some (List.range I.length,w5h s 0 I++[(d,.arr [] c' none)]) else none
   | none=>none
  | _,_=>none
 | _=>none
theorem va8 {M : Nat → Nat → Prop} {es eb : Nat} {ik : Option IntKind} {c cy c' : Cell} (hes : 0 < es) (h : y5i es eb ik c cy = some c') (hu : c.uni) {vy : Value} (hy : RdC M w vy cy) :
 ∃(m:Nat) (news:List Value) (fy:List Cell),(∃ ad cap,vy=.slice ad m cap)/\news.length=m*es/\RdD M w news fy/\(news=[]\/∃ b off cap,vy=.slice (some ⟨b,off,none⟩) m cap/\∀ j u,news[j]? = some u->¬M b (off+j)/\w.cell? ⟨b,off+j,none⟩=some u)/\
  c'.uni/\c'.cnt=c.cnt+m/\c'.esz=es/\c.esz=es/\c'.flat=c.flat++fy/\(c.cnt+m)*eb<=140737488355328/\c.cnt+m<=9223372036854775807:=by
 unfold y5i at h;split at h
 . rename_i k;split at h
   . rename_i l l' hl hl';split at h
     . rename_i hc;obtain ⟨rfl,hb1,hb2⟩:=hc
       cases h
       have hcc:c=.ints k l:=by
        cases c with
        | ints k' l0=>simp only [xo9] at hl;split at hl<;>first | (rename_i e;subst e;cases hl;rfl) | cases hl
        | sl=>cases hl
        | _=>exact hu.elim
       subst hcc;obtain ⟨hyl,hyc⟩:=hy.y9g hl';exact ⟨l'.length,l'.map (Value.int k),l'.map fun n=>.raw (.int k n),hyl,by simp,ymn k l',hyc,trivial,by simp [Cell.cnt],rfl,rfl,by simp [Cell.flat],hb1,hb2⟩
     . cases h
   . cases h
 . split at h
   . rename_i l l' hl hl';split at h
     . rename_i hc;obtain ⟨hb1,hb2⟩:=hc
       cases h
       have hcc:c=.sl es l:=by
        cases c with
        | sl n0 l0=>simp only [xtc] at hl;split at hl<;>first | (rename_i e;subst e;cases hl;rfl) | cases hl
        | ints=>cases hl
        | _=>exact hu.elim
       subst hcc;obtain ⟨hyl,hyn,us,hul,hur,hyc⟩:=hy.xa9 hes hl';refine ⟨l'.length,us,l'.flatten,hyl,hul,hur,hyc,fun r hr=>?_,by simp [Cell.cnt],rfl,rfl,by simp [Cell.flat],hb1,hb2⟩
       rcases List.mem_append.1 hr with h | h
       . exact hu r h
       . exact hyn r h
     . cases h
   . cases h
theorem vsw (hI:RelI E τ M I a w) {s:Nat} {c:Cell} (h:vtr I x=some (s,c)) :
 I[s]? = some (.arr [] c none)/\a.eval x=a.tmps.getD s Go.undef:=by
 unfold vtr at h;split at h
 case h_2=>cases h
 rename_i t;split at h
 . rename_i c0 hg
   cases h;exact ⟨vxi hg (by simp),rfl⟩
 . rename_i s0 hg0;split at h
   . rename_i c0 hg
     cases h
     have:=hI.gt t
     rw [hg0] at this;exact ⟨vxi hg (by simp),this⟩
   . cases h
 . cases h
theorem zk9 (ho:o.op=.call { callee:=.builtin .append,args:=#[x,y],argTypes:=#[T,T] }) {d:Nat} (hdst:o.dst=some d) (hti:mkTI P T=some ti)
 {eff:List (Nat×AV)} (hA:xja I ti d x y=some (rd,eff)):yh6 P o I rd [] eff:=by
 obtain ⟨ds,i0,z0,hd0,hi0,hz0,_,_,_,_,_,hsh'⟩:=(vnz hti).ex;unfold xja at hA;split at hA
 case h_2=>cases hA
 rename_i e es eb ik hsh;split at hA
 case h_2=>cases hA
 rename_i s c cy hx hy;split at hA
 case h_2=>cases hA
 rename_i c' ztg;split at hA
 case isFalse=>cases hA
 rename_i hn;simp only [Bool.and_eq_true] at hn;simp only [Option.some.injEq,Prod.mk.injEq] at hA;obtain ⟨rfl,rfl⟩:=hA;obtain ⟨rfl,j,z',hj,hz',hjs,hjb,hes0,hzs,hik⟩:=wqb (hsh'.symm.trans hsh);have hes:0<es:=Nat.pos_of_ne_zero hes0;intro E I' a w hag _ ⟨τ,M,hI⟩ K Q hK;have hσ:I'=I:=xk1 hag.1 (fun i hi=>hag.2 i (List.mem_range.2 (by rw [<-hag.1];exact hi)));subst hσ;obtain ⟨hs,hev⟩:=vsw hI hx;have sy:=hI.opd y;rw [hy] at sy;have sy:RdT M w τ (a.eval y) cy:=sy;obtain ⟨b,Tb,vs,q,cap,e1,hheap,hr,_,hu,hcap,hcap'⟩:=hI.slot s _ hs;simp only [List.length_nil,List.nil_append] at e1 hheap;obtain ⟨m,news,fy,⟨yad,ycap,hyv⟩,hnl,hnr,hnc,hu',hcnt',hesz',hesz,hflat',hb1,hb2⟩:=va8 hes ztg hu sy.bare;have hold:=hI.hold s _ hs rfl
 have hblk:blk (a.tmps.getD s Go.undef)=b:=by rw [e1];rfl
 rw [hblk] at hold
 have hvl:vs.length=c.cnt*es:=by rw [hr.length,Cell.ym0 hu,hesz]
 rw [hesz] at hcap';obtain ⟨old,h1,h2⟩:=yn6 hn.1
 have hne:d≠s:=fun e=>by subst e;rw [hs] at h1;cases h1;cases h2
 have hfin:app (w5h s 0 I'++[(d,.arr [] c' none)]) I'=(xsc s I').set d (.arr [] c' none):=by
  rw [xah,yor];rfl
 have hd1:∃ old1,(xsc s I')[d]? = some old1/\old1.vy8=false:=by
  unfold xsc;rw [ypl,h1];refine ⟨_,rfl,?_⟩
  rcases zwh s (0+d) old with e | ⟨e,_⟩
  . rw [e];rfl
  . rw [e];exact h2
 obtain ⟨old1,hd1,hd2⟩:=hd1
 have hfree:∀(i:Nat) (x:AV),(xsc s I')[i]? = some x->x.vy8=true->blk (a.tmps.getD i Go.undef)≠b:=fun i x hi hx e=>by
  obtain ⟨y,hy,rfl⟩:=w9k hi
  rcases zwh s i y with e' | ⟨e',hne',_⟩
  . rw [e'] at hx;cases hx
  . rw [e'] at hx;exact hne' (hI.inj i s y _ hy hs hx rfl (e.trans hblk.symm))
 have hfreet:∀ t,live (xsc s I') t->tokB (τ t).v≠some b:=fun t ⟨i,y,hi,hy⟩=>by
  obtain ⟨x,hx,rfl⟩:=w9k hi
  rcases zwh s i x with e' | ⟨e',_⟩
  . rw [e'] at hy;exact hy.elim
  . rw [e'] at hy
    have:=hI.tbox t s _ ⟨i,x,hx,hy⟩ hs rfl
    rw [hblk] at this;exact this
 have hrunop:∀ v' w',(Builtin.append_ #[T,T] o.type #[.slice (some ⟨b,0,none⟩) c.cnt cap,.slice yad m ycap]).run P w=.ok v' w'->(execOp a.eval o).run P w=.ok (.value v') w':=fun v' w' hr'=>by
  simp [execOp,ho,resolve,invoke,builtin,hev,e1,hyv,hr']
 have hn1:∀ u∈news,u.oneCell'=true:=hnr.oneL
 have hnc':news=[]\/∃ b off cap,Value.slice yad m ycap=.slice (some ⟨b,off,none⟩) m cap/\∀ j u,news[j]? = some u->w.cell? ⟨b,off+j,none⟩=some u:=hnc.imp id fun ⟨b',off,cap',e',hh⟩=>⟨b',off,cap',by rw [<-hyv];exact e',fun j u hj=>(hh j u hj).2⟩
 have put:∀ v' w' (E':Env) (M':Nat->Nat->Prop),(execOp a.eval o).run P w=.ok (.value v') w'->RelI E τ M' ((xsc s I').set d (.arr [] c' none)) (a.put (some d) v') w'->o.wp P a w K Q:=fun v' w' _ M' hr' hR=>by
  unfold Oper.wp;rw [hr'];show K (a.put o.dst v') w';rw [hdst];exact hK _ _ ⟨τ,M',by rw [hfin];exact hR⟩
 by_cases hroom:c.cnt+m<=cap
 ·
  have hf:(Builtin.firstCells j.size m (.slice yad m ycap)).run P w=.ok news.toArray w:=vfb w m _ news ⟨_,_,rfl⟩ (by rw [hjs];exact hnl) hnc'
  have hfit:c.cnt*es+news.length<=(vs++q).length:=by
   rw [hnl,<-Nat.add_mul];refine Nat.le_trans (Nat.mul_le_mul_right _ hroom) ?_;rw [List.length_append];exact hcap'
  have hrun:=zl6 (P:=P) hd0 hj w o.type b Tb c.cnt cap _ hheap m (.slice yad m ycap) news ⟨_,_,rfl⟩ (by rw [hjs];exact hnl) hf hn1 hroom (by rw [hjs];simpa using hfit);rw [hjs] at hrun;simp only at hrun;generalize hnew:((vs++q).take (c.cnt*es)++news++(vs++q).drop (c.cnt*es+news.length)).toArray=new at hrun
  have hnew':new=(([]:List Value)++((vs++news)++(vs++q).drop (c.cnt*es+news.length))).toArray:=by
   rw [<-hnew,<-hvl,List.take_left];simp
  have hb0:b<w.heap.size:=(Array.getElem?_eq_some_iff.1 hheap).1;have hbx:xsb b w (w.setRow b new):=⟨rfl,rfl,rfl,by simp,fun k _ hk=>setRow_other w b k _ hk⟩
  have hI':RelI E τ M I' a (w.setRow b new):=by
   have h3:=hI.turn (new:=.arr [] c none) hs rfl rfl (fun _ h=>h) rfl (by rw [hblk];exact hbx) (by
    refine ⟨b,Tb,vs,news++(vs++q).drop (c.cnt*es+news.length),cap,e1,?_,hr.keep (hbx.keeps hold.1),fun p hp=>(by cases hp),hu,hcap,?_⟩
    . rw [setRow_heap w b _ new Tb (0,0) hheap,hnew'];simp
    . rw [hesz];simp only [List.length_append,List.length_drop]
      omega) (fun t ht=>ht.elim)
   have:I'.set s (.arr [] c none)=I':=by
    apply List.ext_getElem?;intro i;rw [List.getElem?_set]
    split
    . rename_i e;subst e;rw [hs];simp [(List.getElem?_eq_some_iff.1 hs).1]
    . rfl
   rwa [this] at h3
  refine put _ _ E _ (hrunop _ _ hrun) ((hI'.xsc s).take hd1 hd2 (.slice (some ⟨b,0,none⟩) (c.cnt+m) cap) (.arr [] c' none) rfl rfl (hold.2.2.1 rfl) hold.1 hfree hfreet ?_ (fun t ht=>ht.elim));refine ⟨b,Tb,vs++news,(vs++q).drop (c.cnt*es+news.length),cap,by rw [hcnt'];rfl,?_,?_,fun p hp=>(by cases hp),hu',by rw [hcnt'];exact hroom,?_⟩
  . rw [setRow_heap w b _ new Tb (0,0) hheap,hnew']
  . rw [hflat'];exact (hr.app hnr).keep (hbx.keeps hold.1)
  . rw [hesz'];simp only [List.length_append,List.length_drop] at hfit ⊢;omega
 ·
  have hfd:(Builtin.firstCells j.size m (.slice yad m ycap)).run P w.drew=.ok news.toArray w.drew:=vfb w.drew m _ news ⟨_,_,rfl⟩ (by rw [hjs];exact hnl) hnc'
  have hfo:(Builtin.firstCells j.size c.cnt (.slice (some ⟨b,0,none⟩) c.cnt cap)).run P w.drew=.ok vs.toArray w.drew:=vfb w.drew c.cnt _ vs ⟨_,_,rfl⟩ (by rw [hjs];exact hvl) (.inr ⟨b,0,cap,rfl,fun j u hj=>by
   rw [Nat.zero_add];have hlt:j<vs.length:=(List.getElem?_eq_some_iff.1 hj).1
   have:w.drew.heap[b]? = some (.cells (vs++q).toArray Tb (0,0)):=hheap
   simp only [World.cell?,this,List.getElem?_toArray]
   rw [List.getElem?_append_left hlt];exact hj⟩)
  have hrun:=vdy (P:=P) hd0 hj hz' w o.type hfd hfo (by omega) (by rw [hjb];exact hb1) hb2;generalize hgc:grownCap w (c.cnt+m) cap e=gc at hrun
  have hge:c.cnt+m<=gc:=by rw [<-hgc];exact grownCap_ge w (c.cnt+m) cap e
  have hbl:Below w.heap.size w (w.drew.alloc (.cells ((vs++news).toArray++Builtin.zeroCells z'.cells (gc-(c.cnt+m))) e)):=((Below.refl _ _).drew).alloc (Nat.le_refl _) _;have hheap':(w.drew.alloc (.cells ((vs++news).toArray++Builtin.zeroCells z'.cells (gc-(c.cnt+m))) e)).heap[w.heap.size]? = some (.cells ((vs++news).toArray++Builtin.zeroCells z'.cells (gc-(c.cnt+m))) e (0,0)):=zuf w.drew _;refine put _ _ E _ (hrunop _ _ hrun) ((hI.xsc s).yja hbl hd1 hd2 (.slice (some ⟨w.heap.size,0,none⟩) (c.cnt+m) gc) (.arr [] c' none) rfl rfl (Nat.le_refl _) (by simp [blk]) ?_ (fun t ht=>ht.elim));refine ⟨w.heap.size,e,vs++news,(Builtin.zeroCells z'.cells (gc-(c.cnt+m))).toList,gc,by rw [hcnt'];rfl,?_,?_,fun p hp=>(by cases hp),hu',by rw [hcnt'];exact hge,?_⟩
  . rw [hheap']
    congr 2
    apply Array.ext';simp
  . rw [hflat'];refine (hr.app hnr).keep (fun b' o u hm hc=>?_);have hl:=World.block_lt_of_cell? w _ hc;exact ⟨fun hh=>hh.elim hm (fun hh=>by simp only [blk] at hh;simp only at hl;omega),(ya3.below hbl b' o u hm hc).2⟩
  . rw [hesz',List.length_append,hvl,hnl,Array.length_toList,size_zeroCells,hzs,<-Nat.add_mul,<-Nat.add_mul];exact Nat.mul_le_mul_right _ (by omega)
def nilV:Value->Bool
 | .slice none 0 0=>true
 | _=>false
def nilO:Operand->Bool
 | .const v=>nilV v
 | .tmp _=>false
 | .global _=>false
 | .func _=>false
theorem xlf (h:nilO x=true):x=.const (.slice none 0 0):=by
 cases x with
 | const v=>
  simp only [nilO] at h;unfold nilV at h;split at h
  . rfl
  . cases h
 | _=>cases h
def tiX {α:Type} (P:Program) (t:TypeId) (k:TI->Option α):Option α:=match mkTI P t with
 | some ti=>k ti
 | none=>none
theorem vzr {t:TypeId} {k:TI->Option α} {r:α} (h:tiX P t k=some r):∃ ti,mkTI P t=some ti/\k ti=some r:=by
 unfold tiX at h;split at h
 . rename_i ti hti;exact ⟨ti,hti,h⟩
 . cases h
def yj0 (I:List AV) (x:Operand):Bool:=match x with
 | .tmp t=>match gt I t with
  | .arr _ _ _ | .asl _=>true
  | _=>false
 | _=>false
def eqOp:BinOp->Bool
 | .eql=>true
 | .neq=>true
 | _=>false
def vim:AV->AV->Bool
 | .one (.raw (.bool _)),.one (.raw (.bool _))=>true
 | _,_=>false
def bbA (ti:TI) (op:BinOp) (x y:AV):Option AV:=match ti.sh with
 | .bool=>match x,y with
  | .one (.raw (.bool a)),.one (.raw (.bool b))=>match op with
   | .eql=>some (.one (.raw (.bool (a==b))))
   | .neq=>some (.one (.raw (.bool (a != b))))
   | _=>none
  | _,_=>none
 | _=>none
theorem wvy {d:TypeDesc} (h:shOf P d=.bool):d=.bool:=by
 cases d with
 | bool=>rfl
 | slice e=>
  exfalso;revert h;unfold shOf;dsimp only
  split
  . split
    . split<;>simp
    . simp
  . simp
 | struct fl=>
  exfalso;revert h;unfold shOf;dsimp only;split<;>simp
 | _=>simp [shOf] at h
theorem xlt {op:BinOp} {U:TypeId} (ho:o.op=.binOp op T x y U) (hti:mkTI P T=some ti) (hb:bbA ti op (opd I x) (opd I y)=some av)
 (h:val I o (orr x++orr y) av=some r):yh6 P o I r.1 [] r.2:=by
 unfold bbA at hb;split at hb
 case h_2=>cases hb
 rename_i hsh;split at hb
 case h_2=>cases hb
 rename_i u v hx hy;obtain ⟨d,i,z,hd,hi,hz,_,_,_,_,_,hsh'⟩:=(vnz hti).ex;obtain rfl:=wvy (hsh'.symm.trans hsh)
 have heq:∀ w:World,(Op.equal T (.bool u) (.bool v)).run P w=.ok (u==v) w:=fun w=>by
  show (Op.equalIn (9999+1) T (.bool u) (.bool v)).run P w=_;unfold Op.equalIn;simp [voj hd]
 have eva:∀(E:Env) (τ:Nat->TV) (M:Nat->Nat->Prop) (I':List AV) (a:Act) (w:World),(∀ x':Operand,(∀ t∈orr x',t∈orr x++orr y)->opd I' x'=opd I x')->RelI E τ M I' a w->a.eval x=.bool u/\a.eval y=.bool v:=fun E τ M I' a w hop hI=>by
  have sx:=hI.opd x;have sy:=hI.opd y;rw [hop x (fun t ht=>by simp [ht]),hx] at sx;rw [hop y (fun t ht=>by simp [ht]),hy] at sy;exact ⟨RdC.zb6 sx,RdC.zb6 sy⟩
 split at hb
 . cases hb;refine yh6.pure h rfl rfl (fun E τ M I' a w hop _ hI=>⟨.bool (u==v),?_,RdC.raw rfl,fun t ht=>ht.elim⟩);obtain ⟨ex,ey⟩:=eva E τ M I' a w hop hI;simp [execOp,ho,ex,ey,eqGuard,binOp,heq]
 . cases hb;refine yh6.pure h rfl rfl (fun E τ M I' a w hop _ hI=>⟨.bool (u != v),?_,RdC.raw rfl,fun t ht=>ht.elim⟩);obtain ⟨ex,ey⟩:=eva E τ M I' a w hop hI;simp [execOp,ho,ex,ey,eqGuard,binOp,heq,bne]
 . cases hb
def isX (I:List AV):Op->Bool
 | .binOp op _ x y _=>match nilO y with
  | true=>true
  | false=>match eqOp op with
   | true=>vim (opd I x) (opd I y)
   | false=>false
 | .buildSlice _ n _=>n==0
 | .call c=>match c.callee with
  | .builtin .append=>match c.args.toList with
   | [x,_]=>yj0 I x
   | _=>false
  | .builtin .max=>true
  | .builtin .min=>true
  | _=>false
 | _=>false
def maxV (b:Bool):AV->AV->Option AV
 | .one (.raw (.int k x)),.one (.raw (.int k' y))=>if k=k' then some (.one (.raw (.int k (match b with | true=>max x y | false=>min x y)))) else none
 | _,_=>none
theorem yr6 {b:Bool} (ho:o.op=.call { callee:=.builtin (match b with | true=>.max | false=>.min),args:=#[x,y],argTypes:=ts }) (hb:maxV b (opd I x) (opd I y)=some av)
 (h:val I o (orr x++orr y) av=some r):yh6 P o I r.1 [] r.2:=by
 unfold maxV at hb;split at hb
 . rename_i k u k' v hx hy;split at hb
   . rename_i hkk;subst hkk
     cases hb;refine yh6.pure h rfl rfl (fun E τ M I' a w hop hgt hI=>⟨_,?_,RdC.raw rfl,fun t ht=>ht.elim⟩);have sx:=hI.opd x;rw [hop x (fun t ht=>List.mem_append.2 (.inl ht)),hx] at sx;have sy:=hI.opd y;rw [hop y (fun t ht=>List.mem_append.2 (.inr ht)),hy] at sy;have ex:a.eval x=.int k u:=RdC.zb6 sx;have ey:a.eval y=.int k v:=RdC.zb6 sy
     cases b with
     | true=>
      have:(if v > u then v else u)=max u v:=by split<;>omega
      simp [execOp,ho,resolve,invoke,builtin,Builtin.max_,Builtin.max2,ex,ey,this]
     | false=>
      have:(if v<u then v else u)=min u v:=by split<;>omega
      simp [execOp,ho,resolve,invoke,builtin,Builtin.min_,Builtin.min2,ex,ey,this]
   . cases hb
 . cases hb
def valX (I:List AV) (o:Oper) (rd:List Nat) (a:Option AV):Option (List Nat×List (Nat×AV)):=match a with
 | some av=>val I o rd av
 | none=>none
def opX (P:Program) (I:List AV) (o:Oper):Option (List Nat×List (Nat×AV)):=
 match o.op with
 | .binOp op T x y _=>match nilO y with
  | true=>tiX P T fun ti=>valX I o (orr x) (nilA I ti op x)
  | false=>tiX P T fun ti=>valX I o (orr x++orr y) (bbA ti op (opd I x) (opd I y))
 | .buildSlice T n ps=>if n=0 then tiX P T fun ti=>valX I o [] (xd4 ti ps.toList) else none
 | .call c=>match c.callee with
  | .builtin .append=>match c.args.toList,c.argTypes.toList,o.dst with
   | [x,y],[T,U],some d=>if T=U then tiX P T fun ti=>xja I ti d x y else none
   | _,_,_=>none
  | .builtin .max=>match c.args.toList with
   | [x,y]=>valX I o (orr x++orr y) (maxV true (opd I x) (opd I y))
   | _=>none
  | .builtin .min=>match c.args.toList with
   | [x,y]=>valX I o (orr x++orr y) (maxV false (opd I x) (opd I y))
   | _=>none
  | _=>none
 | _=>none
theorem yme {a:Option AV} (h:valX I o rd a=some r):∃ av,a=some av/\val I o rd av=some r:=by
 unfold valX at h;split at h
 . rename_i av;exact ⟨av,rfl,h⟩
 . cases h
theorem v1p (h:opX P I o=some r):yh6 P o I r.1 [] r.2:=by
 unfold opX at h;split at h
 . rename_i op T x y U ho;split at h
   . rename_i hnil;obtain ⟨ti,hti,hk⟩:=vzr h;obtain ⟨av,hav,hr⟩:=yme hk;rw [xlf hnil] at ho;exact xl6 ho hti hav hr
   . obtain ⟨ti,hti,hk⟩:=vzr h;obtain ⟨av,hav,hr⟩:=yme hk;exact xlt ho hti hav hr
 . rename_i T n ps ho;split at h
   . rename_i hn;obtain ⟨ti,hti,hk⟩:=vzr h;obtain ⟨av,hav,hr⟩:=yme hk;exact wdl (by rw [ho]) hn hti hav hr
   . cases h
 . rename_i c ho;obtain ⟨callee,args,argTypes⟩:=c;simp only at h;split at h
   . split at h
     . rename_i x y T U d ha ht hd;split at h
       . rename_i hTU;subst hTU;obtain ⟨ti,hti,hk⟩:=vzr h
         have ea:args=#[x,y]:=by cases args;simp at ha;rw [ha]
         have et:argTypes=#[T,T]:=by cases argTypes;simp at ht;rw [ht]
         rw [ea,et] at ho;exact zk9 ho hd hti hk
       . cases h
     . cases h
   . split at h
     . rename_i x y ha;obtain ⟨av,hav,hr⟩:=yme h
       have ea:args=#[x,y]:=by cases args;simp at ha;rw [ha]
       rw [ea] at ho;exact yr6 (b:=true) ho hav hr
     . cases h
   . split at h
     . rename_i x y ha;obtain ⟨av,hav,hr⟩:=yme h
       have ea:args=#[x,y]:=by cases args;simp at ha;rw [ha]
       rw [ea] at ho;exact yr6 (b:=false) ho hav hr
     . cases h
   . cases h
 . cases h
theorem x32 (hN:E.N<=w.heap.size) (hmb:∀ b o,M b o->b<w.heap.size) (v:Value) (e:TypeId) (es n:Nat) (all:List Value)
 (hall:all.length=n*es) (hcm:n<=maxLen) :
 Grew E M w (w.alloc (.cells all.toArray e)) (fun b o=>M b o\/(b=w.heap.size/\n*es<=o)) v (.slice (some ⟨w.heap.size,0,none⟩) n n) es n all:=by
 have hb:Below w.heap.size w (w.alloc (.cells all.toArray e)):=(Below.refl _ _).alloc (Nat.le_refl _) _;have hheap:(w.alloc (.cells all.toArray e)).heap[w.heap.size]? = some (.cells all.toArray e (0,0)):=zuf w _;refine { keeps:=?_,size:=hb.size,os:=rfl,tape:=rfl,output:=rfl,block:=fun k hk _=>hb.block k hk,mem:=fun b o hm _=>.inl hm,mb:=?_,tok:=?_,blk':=?_,cells:=?_,len:=⟨_,_,rfl,Nat.le_refl _⟩ }
 . intro b o u hm hc;have hl:=World.block_lt_of_cell? w _ hc;exact ⟨fun hh=>hh.elim hm (fun hh=>by have:=hh.1;simp only at hl;omega),(ya3.below hb b o u hm hc).2⟩
 . rintro b o (hm | ⟨rfl,_⟩)
   . exact Nat.lt_of_lt_of_le (hmb b o hm) hb.size
   . simp
 . refine .inr ⟨e,n,all,⟨hall,.inr ⟨w.heap.size,n,_,rfl,hN,hheap,Nat.le_refl _,hcm,?_,?_⟩⟩,fun g hg o ho=>?_⟩
   . simp [hall]
   . simp [<-hall]
   . simp [Value.ownBlock] at hg;exact .inr ⟨hg.symm,ho⟩
 . intro g hg
   cases n with
   | zero=>simp [tokB] at hg
   | succ n=>simp [tokB] at hg;exact .inr (by omega)
 . by_cases h0:all=[]
   . exact .inl h0
   . refine .inr ⟨w.heap.size,n,rfl,Nat.le_refl _,fun j u hj=>⟨?_,?_⟩⟩
     . have hjl:j<all.length:=(List.getElem?_eq_some_iff.1 hj).1;rintro (hm | ⟨_,ho⟩)
       . have:=hmb _ _ hm;omega
       . omega
     . simp only [World.cell?,hheap];simpa using hj
inductive OR where
 | eff (rd tk:List Nat) (eff:List (Nat×AV))
 | call (f:FuncId) (args:List AV) (rd:List Nat)
 | fn (p:(Nat->Nat->Prop)->World->Value->Prop) (args:List AV) (rd:List Nat)
 | mk (f:FuncId) (caps:List AV) (rd:List Nat)
 | own (f:FuncId) (l:List AV) (j s:Nat) (ov:OV) (rd:List Nat)
 | bad
def OR.of:Option (List Nat×List (Nat×AV))->OR
 | some (rd,e)=>.eff rd [] e
 | none=>.bad
def xfw:Value->Option FuncId
 | .func (.func f) fs cs=>match fs.toList,cs.toList with
  | [],[]=>some f
  | _,_=>none
 | _=>none
theorem v42 {v:Value} (h:xfw v=some f):v=.func (.func f) #[] #[]:=by
 unfold xfw at h;split at h
 . rename_i f' fs cs;split at h
   . rename_i h1 h2
     cases h
     have e1:fs=#[]:=by rw [<-Array.toArray_toList (xs:=fs),h1]
     have e2:cs=#[]:=by rw [<-Array.toArray_toList (xs:=cs),h2]
     rw [e1,e2]
   . cases h
 . cases h
def zl2 (P:Program) (t:TypeId) (k:TI->OR):OR:=match mkTI P t with
 | some ti=>k ti
 | none=>.bad
def vofA (I:List AV) (o:Oper) (rd:List Nat) (a:Option AV):OR:=match a with
 | some av=>.of (val I o rd av)
 | none=>.bad
def vofB (I:List AV) (o:Oper) (a:Option (List Nat×AV)):OR:=match a with
 | some (rd,av)=>.of (val I o rd av)
 | none=>.bad
def yy6 (ti:TI) (av:AV):Bool:=match ti.sh with
 | .slice _ es _ _=>match av with
  | .one c=>match c.bare with
   | .ints _ _=>es==1
   | .sl n _=>es==n
   | _=>true
  | _=>true
 | _=>true
def y6x (P:Program) (ti:TI) (k:TI->OR):OR:=match ti.sh with
 | .slice e _ _ _=>zl2 P e k
 | _=>.bad
def xjd (ti:TI):Bool:=match ti.sh with
 | .array _ _ es=>es != 0
 | _=>true
def AV.xb8:AV->Bool
 | .arr _ _ _ | .asl _ | .awn _ _ _ _=>true
 | _=>false
def opB (P:Program) (I:List AV) (o:Oper):OR:=
 match o.op with
 | .move x=>.of (val I o (orr x) (cpy x (opd I x)))
 | .assign x=>.of (val I o (orr x) (cpy x (opd I x)))
 | .pick c x y=>vofA I o (orr c++orr x++orr y) (v9r I c x y)
 | .alloc T=>zl2 P T fun ti=>.of (val I o [] (.box ti.zc))
 | .box _ x=>match zj8 (opd I x) with
  | some cs=>.of (val I o (orr x) (.box cs))
  | none=>.bad
 | .load T x=>zl2 P T fun ti=>vofB I o (xmq I ti x)
 | .store T x y=>match o.dst with
  | none=>zl2 P T fun ti=>match zjj I ti x y with
   | some (rd,s,av)=>.eff rd [] [(s,av)]
   | none=>.bad
  | some _=>.bad
 | .fieldAddr S x f=>zl2 P S fun ti=>vofA I o (orr x) (wii I ti x f)
 | .extract x n=>vofA I o (orr x) (wo5 I x n)
 | .indexAddr T x y=>zl2 P T fun ti=>vofB I o (veh I ti x y)
 | .binOp op _ x y _=>vofA I o (orr x++orr y) (binA I op x y)
 | .unOp op _ x=>vofA I o (orr x) (unA I op x)
 | .convert S D x=>zl2 P S fun ts=>zl2 P D fun td=>vofA I o (orr x) (xck I ts td x)
 | .slice T x lo hi none=>zl2 P T fun ti=>match (opd I x).xb8 with
  | true=>vofB I o (yla I ti x lo hi)
  | false=>if yy6 ti (opd I x) then vofA I o (orr x++orrO lo++orrO hi) (w6c I ti x lo hi none) else .bad
 | .slice T x lo hi mx=>zl2 P T fun ti=>if yy6 ti (opd I x) then vofA I o (orr x++orrO lo++orrO hi++orrO mx) (w6c I ti x lo hi mx) else .bad
 | .makeSlice T x y=>zl2 P T fun ti=>y6x P ti fun te=>vofA I o (orr x++orr y) (vzm I ti te x y)
 | .build T ps=>zl2 P T fun ti=>if xjd ti&&ti.sh.agg then vofA I o (orrs ps.toList) (yzs I ti ps.toList) else .bad
 | .buildSlice T n ps=>zl2 P T fun ti=>y6x P ti fun te=>vofA I o (orrs ps.toList) (zi5 I ti te n ps.toList)
 | .call c => match c.callee with
  | .builtin .len=>match c.args.toList,c.argTypes.toList with
   | [x],[T]=>zl2 P T fun ti=>if wlh I ti x then vofB I o (lenA I x) else .bad
   | _,_=>.bad
  | .builtin .append=>match c.args.toList,c.argTypes.toList,o.dst with
   | [x,y],[T,U],some d=>if T=U then zl2 P T fun ti=>match wlm I ti d x y with
    | some (rd,tk,eff)=>.eff rd tk eff
    | none=>.bad
    else .bad
   | _,_,_=>.bad
  | .value (.func f)=>match x1v I c.args.toList with
   | some l=>if yro I o then .call f l (v9o o++orrL c.args.toList) else .bad
   | none=>match z2i I c.args.toList with
    | some (l,j,s,ov)=>if yro I o then .own f l j s ov (v9o o++s::orrL c.args.toList) else .bad
    | none=>.bad
  | .value (.tmp t)=>match gt I t,x1v I c.args.toList with
   | .one (.raw v),some l=>match xfw v with
    | some f=>if yro I o then .call f l (v9o o++t::orrL c.args.toList) else .bad
    | none=>.bad
   | .one (.fnp p),some l=>if yro I o then .fn p l (v9o o++t::orrL c.args.toList) else .bad
   | _,_=>.bad
  | _=>.bad
 | .makeFunc (.func f) fs cs=>match fs.toList,x1v I cs.toList,o.dst with
  | [],some l,some d=>if nh I d then .mk f l (d::orrL cs.toList) else .bad
  | _,_,_=>.bad
 | _=>.bad
theorem vyj (hs:∀ r,val I o rd0 av=some r->yh6 P o I r.1 [] r.2) {eff:List (Nat×AV)} (h:OR.of (val I o rd0 av)=.eff rd tk eff):tk=[]/\yh6 P o I rd tk eff:=by
 cases hv:val I o rd0 av with
 | none=>rw [hv] at h;cases h
 | some r=>rw [hv] at h;cases h;exact ⟨rfl,hs r hv⟩
theorem xs5 {a:Array α} {l:List α} (h:a.toList=l):a=l.toArray:=by rw [<-h]
theorem zm5 {d:Nat} {eff:List (Nat×AV)} (h:wlm I ti d x y=some (rd,tk,eff)):∀ t∈tk,∀ i,(gt I i).vjg t->i∈rd:=by
 unfold wlm at h;split at h
 case h_2=>cases h
 split at h
 case h_2=>cases h
 split at h
 case h_2=>cases h
 split at h
 case h_2=>cases h
 split at h
 case isFalse=>cases h
 simp only [Option.some.injEq,Prod.mk.injEq] at h;obtain ⟨rfl,rfl,rfl⟩:=h;intro t ht i hi
 have hlt:i<I.length:=by
  rcases Nat.lt_or_ge i I.length with h | h
  . exact h
  . unfold gt at hi;rw [List.getElem?_eq_none h] at hi;exact hi.elim
 have key:∀ tk:List Nat,t∈tk->i∈(zrx tk 0 I).map (·.1):=fun tk ht=>by
  have hf:=vvv tk I 0 i hlt;simp only [Nat.zero_add] at hf;rw [if_neg (fun hall=>AV.x0v ((List.all_eq_true.1 hall) t ht) hi)] at hf
  have:=List.mem_of_find?_eq_some hf
  exact List.mem_map.2 ⟨_,by simpa using this,rfl⟩
 simp only [List.mem_cons,List.mem_append];exact .inr (.inr (key _ ht))
theorem xb3 {a:Option AV} (hs:∀ av,a=some av->∀ r,val I o rd0 av=some r->yh6 P o I r.1 [] r.2) {eff:List (Nat×AV)} (h:vofA I o rd0 a=.eff rd tk eff):tk=[]/\yh6 P o I rd tk eff:=by
 unfold vofA at h;split at h
 . exact vyj (hs _ rfl) h
 . cases h
theorem xy0 {a:Option (List Nat×AV)} (hs:∀ rd0 av,a=some (rd0,av)->∀ r,val I o rd0 av=some r->yh6 P o I r.1 [] r.2) {eff:List (Nat×AV)} (h:vofB I o a=.eff rd tk eff):tk=[]/\yh6 P o I rd tk eff:=by
 unfold vofB at h;split at h
 . exact vyj (hs _ _ rfl) h
 . cases h
theorem wyh {t:TypeId} {k:TI->OR} {r:OR} (hr:r≠.bad) (h:zl2 P t k=r):∃ ti,mkTI P t=some ti/\k ti=r:=by
 unfold zl2 at h;split at h
 . rename_i ti hti;exact ⟨ti,hti,h⟩
 . exact absurd h.symm hr
theorem xh3 {k:TI->OR} {r:OR} (hr:r≠.bad) (h:y6x P ti k=r):∃ e es eb ik te,ti.sh=.slice e es eb ik/\mkTI P e=some te/\k te=r:=by
 unfold y6x at h;split at h
 . rename_i e es eb ik hs;obtain ⟨te,h1,h2⟩:=wyh hr h;exact ⟨e,es,eb,ik,te,hs,h1,h2⟩
 . exact absurd h.symm hr
theorem yge {eff:List (Nat×AV)} (h:opB P I o=.eff rd tk eff):yh6 P o I rd tk eff/\(∀ t∈tk,∀ i,(gt I i).vjg t->i∈rd):=by
 have nt:(tk=[]/\yh6 P o I rd tk eff)->yh6 P o I rd tk eff/\(∀ t∈tk,∀ i,(gt I i).vjg t->i∈rd):=fun ⟨h1,h2⟩=>⟨h2,by rw [h1];intro t ht;cases ht⟩
 have nb:OR.eff rd tk eff≠.bad:=by simp
 unfold opB at h;split at h
 . rename_i x ho;exact nt (vyj (fun r hr=>y9m (.inl ho) hr) h)
 . rename_i x ho;exact nt (vyj (fun r hr=>y9m (.inr ho) hr) h)
 . rename_i c x y ho;exact nt (xb3 (fun av ha r hr=>vyi ho ha hr) h)
 . rename_i T ho;obtain ⟨ti,hti,hk⟩:=wyh nb h;exact nt (vyj (fun r hr=>wf4 ho hti hr) hk)
 . rename_i T x ho;split at h
   . rename_i cs hcs;exact nt (vyj (fun r hr=>y2i ho hcs hr) h)
   . cases h
 . rename_i T x ho;obtain ⟨ti,hti,hk⟩:=wyh nb h;exact nt (xy0 (fun rd0 av ha r hr=>v9l ho hti ha hr) hk)
 . rename_i T x y ho;split at h
   . rename_i hd;obtain ⟨ti,hti,hk⟩:=wyh nb h;split at hk
     . rename_i rd' s av hst
       cases hk;exact nt ⟨rfl,v8s ho hd hti hst⟩
     . cases hk
   . cases h
 . rename_i S x f ho;obtain ⟨ti,hti,hk⟩:=wyh nb h;exact nt (xb3 (fun av ha r hr=>x4u ho hti ha hr) hk)
 . rename_i x n ho;exact nt (xb3 (fun av ha r hr=>yzm ho ha hr) h)
 . rename_i T x y ho;obtain ⟨ti,hti,hk⟩:=wyh nb h;exact nt (xy0 (fun rd0 av ha r hr=>wkw ho hti ha hr) hk)
 . rename_i op T x y U ho;exact nt (xb3 (fun av ha r hr=>xbj ho ha hr) h)
 . rename_i op T x ho;exact nt (xb3 (fun av ha r hr=>v7x ho ha hr) h)
 . rename_i S D x ho;obtain ⟨ts,hts,hk⟩:=wyh nb h;obtain ⟨td,htd,hk⟩:=wyh nb hk;exact nt (xb3 (fun av ha r hr=>x3m ho hts htd ha hr) hk)
 . rename_i T x lo hi ho;obtain ⟨ti,hti,hk⟩:=wyh nb h;split at hk
   . exact nt (xy0 (fun rd0 av ha r hr=>vyc ho hti ha hr) hk)
   . split at hk
     . rename_i hok;refine nt (xb3 (fun av ha r hr=>y8g ho hti (fun e es eb ik hsh c hc=>?_) ha (by simpa [orrO] using hr)) hk);unfold yy6 at hok;simp only [hsh,hc] at hok;refine ⟨fun k L e=>?_,fun n rows e=>?_⟩
       . rw [e] at hok;simpa using hok
       . rw [e] at hok;simpa using hok
     . cases hk
 . rename_i T x lo hi mx _ ho;obtain ⟨ti,hti,hk⟩:=wyh nb h;split at hk
   . rename_i hok;refine nt (xb3 (fun av ha r hr=>y8g ho hti (fun e es eb ik hsh c hc=>?_) ha hr) hk);unfold yy6 at hok;simp only [hsh,hc] at hok;refine ⟨fun k L e=>?_,fun n rows e=>?_⟩
     . rw [e] at hok;simpa using hok
     . rw [e] at hok;simpa using hok
   . cases hk
 . rename_i T x y ho;obtain ⟨ti,hti,hk⟩:=wyh nb h;obtain ⟨e,es,eb,ik,te,hs,hte,hk⟩:=xh3 nb hk;exact nt (xb3 (fun av ha r hr=>yws ho hti (fun e' es' eb' ik' hs'=>by rw [hs] at hs';cases hs';exact hte) ha hr) hk)
 . rename_i T ps ho;obtain ⟨ti,hti,hk⟩:=wyh nb h;split at hk
   . rename_i hok;simp only [Bool.and_eq_true] at hok;refine nt (xb3 (fun av ha r hr=>zii (by rw [ho]) hti (fun n e es hs=>?_) ha hok.2 hr) hk)
     have:=hok.1
     unfold xjd at this;rw [hs] at this;simpa using this
   . cases hk
 . rename_i T n ps ho;obtain ⟨ti,hti,hk⟩:=wyh nb h;obtain ⟨e,es,eb,ik,te,hs,hte,hk⟩:=xh3 nb hk;exact nt (xb3 (fun av ha r hr=>zry (by rw [ho]) hti (fun e' es' eb' ik' hs'=>by rw [hs] at hs';cases hs';exact hte) ha hr) hk)
 . rename_i c ho;obtain ⟨callee,args,argTypes⟩:=c;simp only at h;split at h
   . split at h
     . rename_i x T ha ht;obtain ⟨ti,hti,hk⟩:=wyh nb h;split at hk
       . rename_i hfit;rw [xs5 ha,xs5 ht] at ho;exact nt (xy0 (fun rd0 av hb r hr=>wqd ho hti hfit hb hr) hk)
       . cases hk
     . cases h
   . split at h
     . rename_i x y T U d ha ht hd;split at h
       . rename_i hTU;subst hTU;obtain ⟨ti,hti,hk⟩:=wyh nb h;split at hk
         . rename_i rd' tk' eff' hA
           cases hk;rw [xs5 ha,xs5 ht] at ho;exact ⟨zts ho hd hti hA,zm5 hA⟩
         . cases hk
       . cases h
     . cases h
   . split at h
     . split at h<;>cases h
     . split at h
       . split at h<;>cases h
       . cases h
   . split at h
     . split at h
       . split at h<;>cases h
       . cases h
     . split at h<;>cases h
     . cases h
   . cases h
 . split at h
   . split at h<;>cases h
   . cases h
 . cases h
end Go.Slot
