import Derived.Test.YtpkininnjhbeaaaGreatDoorY4
namespace Go.Slot
open Go Go.RowKit
variable {P:Program}
variable {E:Env} {τ:Nat->TV} {M:Nat->Nat->Prop} {a:Act} {w w':World} {j:Nat} {fn:Func}
def ch (a0 a1 a2 a3 a4 a5 a6 a7 a8 a9 a10 a11 a12 a13 a14 a15:AV) (r:List AV):List AV:=a0::a1::a2::a3::a4::a5::a6::a7::a8::a9::a10::a11::a12::a13::a14::a15::r
def vh6:List AV->List AV
 | a0::a1::a2::a3::a4::a5::a6::a7::a8::a9::a10::a11::a12::a13::a14::a15::r=>ch a0 a1 a2 a3 a4 a5 a6 a7 a8 a9 a10 a11 a12 a13 a14 a15 (vh6 r)
 | l=>l
theorem vsc:∀ l:List AV,vh6 l=l
 | []=>rfl
 | [a0]=>rfl
 | [a0,a1]=>rfl
 | [a0,a1,a2]=>rfl
 | [a0,a1,a2,a3]=>rfl
 | [a0,a1,a2,a3,a4]=>rfl
 | [a0,a1,a2,a3,a4,a5]=>rfl
 | [a0,a1,a2,a3,a4,a5,a6]=>rfl
 | [a0,a1,a2,a3,a4,a5,a6,a7]=>rfl
 | [a0,a1,a2,a3,a4,a5,a6,a7,a8]=>rfl
 | [a0,a1,a2,a3,a4,a5,a6,a7,a8,a9]=>rfl
 | [a0,a1,a2,a3,a4,a5,a6,a7,a8,a9,a10]=>rfl
 | [a0,a1,a2,a3,a4,a5,a6,a7,a8,a9,a10,a11]=>rfl
 | [a0,a1,a2,a3,a4,a5,a6,a7,a8,a9,a10,a11,a12]=>rfl
 | [a0,a1,a2,a3,a4,a5,a6,a7,a8,a9,a10,a11,a12,a13]=>rfl
 | [a0,a1,a2,a3,a4,a5,a6,a7,a8,a9,a10,a11,a12,a13,a14]=>rfl
 | a0::a1::a2::a3::a4::a5::a6::a7::a8::a9::a10::a11::a12::a13::a14::a15::r=>by
  have ih:=vsc r;show ch a0 a1 a2 a3 a4 a5 a6 a7 a8 a9 a10 a11 a12 a13 a14 a15 (vh6 r)=_;rw [ih];rfl
def AV.frzd:AV->AV
 | .box cs=>.elt (vc2 cs)
 | .arr _ c none=>.one c
 | av=>av
variable {I:List AV}
def zma (s:Nat) (hv:AV) (i:Nat) (av:AV):AV:=
 if i=s then hv.frzd else match av with
 | .ptr s' off=>if s'=s then (match hv with | .box cs=>.elt (vc2 (cs.drop off)) | _=>.any) else av
 | .asl s'=>if s'=s then (match hv with | .arr _ c none=>.one c | _=>.any) else av
 | .awn s' m lo n=>if s'=s then (match hv with | .arr _ c none=>if lo+n<=c.cnt/\m=c.esz then .one (c.sub lo n) else .any | _=>.any) else av
 | .pel s' m i f=>if s'=s then (match hv with | .arr _ c none=>if m=c.esz then (match c.at i f with | some cs=>.elt cs | none=>.any) else .any | _=>.any) else av
 | _=>av
def vn0 (s:Nat) (hv:AV):Nat->List AV->List AV
 | _,[]=>[]
 | i,av::r=>zma s hv i av::vn0 s hv (i+1) r
def frz (s:Nat) (I:List AV):List AV:=match gt I s with
 | .box cs=>vn0 s (.box cs) 0 I
 | .arr pre c none=>vn0 s (.arr pre c none) 0 I
 | _=>I
theorem xau (s:Nat) (hv:AV):∀(k:Nat) (I:List AV) (i:Nat),(vn0 s hv k I)[i]? = (I[i]?).map (zma s hv (k+i))
 | _,[],i=>by simp [vn0]
 | k,av::r,0=>by simp [vn0]
 | k,av::r,i+1=>by
  have:=xau s hv (k+1) r i
  simpa [vn0,Nat.add_assoc,Nat.add_comm 1 i] using this
theorem x5l (s:Nat) (hv:AV):∀(k:Nat) (I:List AV),(vn0 s hv k I).length=I.length
 | _,[]=>rfl
 | k,av::r=>by simp [vn0,x5l s hv (k+1) r]
theorem RelI.freeze (h:RelI E τ M I a w) {s:Nat} {hv:AV} (hs:I[s]? = some hv) (hf:hv.fresh=true) :
 ∃ M',RelI E τ M' (vn0 s hv 0 I) a w:=by
 have hh:hv.xeo=true:=by cases hv<;>first | rfl | cases hf
 obtain ⟨b,hb⟩:∃ b,blk (a.tmps.getD s Go.undef)=b:=⟨_,rfl⟩;have hold:=h.hold s hv hs hh;rw [hb] at hold;have hN:=hold.2.2.1 hf;refine ⟨fun b' o=>M b' o/\b'≠b,?_⟩;have hk:wf2 M (fun b' o=>M b' o/\b'≠b) w w:=wf2.shrink w (fun _ _ h=>h.1)
 have hMb:∀ o,¬(M b o/\b≠b):=fun o h=>h.2 rfl
 have hget:∀(i:Nat) (y:AV),(vn0 s hv 0 I)[i]? = some y->∃ x,I[i]? = some x/\y=zma s hv i x:=fun i y hi=>by
  rw [xau] at hi;simp only [Nat.zero_add,Option.map_eq_some_iff] at hi;obtain ⟨x,hx,rfl⟩:=hi;exact ⟨x,hx,rfl⟩
 have hss:=h.slot s hv hs
 have boxrd:∀ cs,hv=.box cs->∃ vs:List Value,a.tmps.getD s Go.undef=.pointer (some ⟨b,0,none⟩)/\(∀ off j u,(vs.drop off)[j]? = some u->w.cell? ⟨b,off+j,none⟩=some u)/\RdD (fun b' o=>M b' o/\b'≠b) w vs (vc2 cs):=fun cs e=>by
  subst e;obtain ⟨b',vs,T,e1,hheap,hr⟩:=hss
  have:b'=b:=by rw [e1] at hb;exact hb
  subst this;exact ⟨vs,e1,fun off j u hj=>xk2 hheap off j u hj,hr.bare.keep hk⟩
 have arrrd:∀ pre c,hv=.arr pre c none->∃ cap,a.tmps.getD s Go.undef=.slice (some ⟨b,pre.length,none⟩) c.cnt cap/\RdC (fun b' o=>M b' o/\b'≠b) w (.slice (some ⟨b,pre.length,none⟩) c.cnt cap) c/\c.uni/\
  ∃ vs,RdD (fun b' o=>M b' o/\b'≠b) w vs c.flat/\∀ i u,vs[i]? = some u->w.cell? ⟨b,pre.length+i,none⟩=some u:=fun pre c e=>by
  subst e;obtain ⟨b',T,vs,q,cap,e1,hheap,hr,_,hu,hcap,_⟩:=hss
  have:b'=b:=by rw [e1] at hb;exact hb
  subst this;refine ⟨cap,e1,viy hheap (hr.keep hk) hu hcap hMb,hu,vs,hr.keep hk,fun i u hi=>?_⟩;have hlt:i<vs.length:=(List.getElem?_eq_some_iff.1 hi).1;simp only [World.cell?,hheap];simp only [List.getElem?_toArray];rw [List.getElem?_append_right (by omega),List.getElem?_append_left (by omega)];rw [show pre.length+i-pre.length=i by omega];exact hi
 have hslot:∀(i:Nat) (x:AV),I[i]? = some x->xb1 (fun b' o=>M b' o/\b'≠b) w τ a.tmps (a.tmps.getD i Go.undef) (zma s hv i x)/\(∀ t,(zma s hv i x).v7d t->live I t)/\
  ((zma s hv i x).xeo=true->i≠s/\zma s hv i x=x)/\(∀ s' b',(zma s hv i x).rf=some (s',b')->s'≠s/\i≠s/\zma s hv i x=x):=fun i x hi=>by
  have same:i≠s->(∀ s' b',x.rf=some (s',b')->s'≠s)->xb1 (fun b' o=>M b' o/\b'≠b) w τ a.tmps (a.tmps.getD i Go.undef) x/\(∀ t,x.v7d t->live I t)/\(x.xeo=true->i≠s/\x=x)/\(∀ s' b',x.rf=some (s',b')->s'≠s/\i≠s/\x=x):=fun his hrf=>
   ⟨(h.slot i x hi).keep hk (fun _ _=>rfl) (fun _ _ _=>rfl) (fun _=>rfl),fun t ht=>⟨i,x,hi,ht⟩,fun _=>⟨his,rfl⟩,fun s' b' hr=>⟨hrf s' b' hr,his,rfl⟩⟩
  have dat:∀ y:AV,xb1 (fun b' o=>M b' o/\b'≠b) w τ a.tmps (a.tmps.getD i Go.undef) y->(∀ t,¬y.v7d t)->y.xeo=false->y.rf=none->
   xb1 (fun b' o=>M b' o/\b'≠b) w τ a.tmps (a.tmps.getD i Go.undef) y/\(∀ t,y.v7d t->live I t)/\(y.xeo=true->i≠s/\y=x)/\(∀ s' b',y.rf=some (s',b')->s'≠s/\i≠s/\y=x):=fun y h1 h2 h3 h4=>
   ⟨h1,fun t ht=>absurd ht (h2 t),fun e=>(by rw [h3] at e;cases e),fun s' b' e=>(by rw [h4] at e;cases e)⟩
  have anyc:=dat .any trivial (fun _ ht=>ht) rfl rfl;unfold zma;by_cases his:i=s
  . rw [if_pos his];subst his
    cases hv with
    | box cs=>
     obtain ⟨vs,e1,hc,hr⟩:=boxrd cs rfl;exact dat _ ⟨b,0,vs,e1,fun j u hj=>⟨fun hx=>hx.2 rfl,hc 0 j u (by simpa using hj)⟩,hr⟩ (fun _ ht=>ht) rfl rfl
    | arr pre c post=>
     cases post with
     | some _=>cases hf
     | none=>
      obtain ⟨cap,e1,hr,_⟩:=arrrd pre c rfl;exact dat (.one c) (by rw [e1];exact RdT.of hr) (fun t ht=>hr.wi1 t ht) rfl rfl
    | _=>cases hf
  . rw [if_neg his];have hx:=h.slot i x hi
    cases x with
    | ptr s' off =>
     simp only
     split
     . rename_i e;subst e
       cases hv with
       | box cs=>
        obtain ⟨vs,e1,hc,hr⟩:=boxrd cs rfl;have hx:a.tmps.getD i Go.undef=.pointer (some ⟨blk (a.tmps.getD s' Go.undef),off,none⟩):=hx;rw [hb] at hx;refine dat _ ⟨b,off,vs.drop off,hx,fun j u hj=>⟨fun hx=>hx.2 rfl,hc off j u hj⟩,?_⟩ (fun _ ht=>ht) rfl rfl;rw [yot];exact hr.drop off
       | _=>exact anyc
     . rename_i e;exact same his (fun s' b' hr=>by simp only [AV.rf,Option.some.injEq,Prod.mk.injEq] at hr;rw [<-hr.1];exact e)
    | asl s' =>
     simp only
     split
     . rename_i e;subst e
       cases hv with
       | arr pre c post=>
        cases post with
        | some _=>cases hf
        | none=>
         obtain ⟨cap,e1,hr,_⟩:=arrrd pre c rfl;have hx:a.tmps.getD i Go.undef=a.tmps.getD s' Go.undef:=hx;exact dat (.one c) (by rw [hx,e1];exact RdT.of hr) (fun t ht=>hr.wi1 t ht) rfl rfl
       | _=>exact anyc
     . rename_i e;exact same his (fun s' b' hr=>by simp only [AV.rf,Option.some.injEq,Prod.mk.injEq] at hr;rw [<-hr.1];exact e)
    | awn s' m lo n =>
     simp only
     split
     . rename_i e;subst e
       cases hv with
       | arr pre c post =>
        cases post with
        | some _=>cases hf
        | none=>
         simp only
         split
         . rename_i hc;obtain ⟨hfit,rfl⟩:=hc;obtain ⟨cap,e1,hr,hu,_⟩:=arrrd pre c rfl;obtain ⟨ad,cap',e2,had,hn,_⟩:=hx;rw [e1] at had
           have:=hr.sub hu hfit (ad:=ad) (fun hne=>had (.inl hne)) hn
           exact dat (.one (c.sub lo n)) (by rw [e2];exact RdT.of this) (fun t ht=>this.wi1 t ht) rfl rfl
         . exact anyc
       | _=>exact anyc
     . rename_i e;exact same his (fun s' b' hr=>by simp only [AV.rf,Option.some.injEq,Prod.mk.injEq] at hr;rw [<-hr.1];exact e)
    | pel s' m i' f =>
     simp only
     split
     . rename_i e;subst e
       cases hv with
       | arr pre c post =>
        cases post with
        | some _=>cases hf
        | none=>
         simp only
         split
         . rename_i hm;subst hm
           split
           . rename_i cs hat;obtain ⟨cap,e1,_,hu,vs,hr,hcl⟩:=arrrd pre c rfl;obtain ⟨hi',r,hdrop⟩:=Cell.zgr hu hat;have hx:a.tmps.getD i Go.undef=.pointer (some ⟨blk (a.tmps.getD s' Go.undef),offV (a.tmps.getD s' Go.undef)+i'*c.esz+f,none⟩):=hx;rw [e1] at hx;have hfull:=hr.drop (i'*c.esz+f);rw [hdrop] at hfull;have hrd':=hfull.take cs.length;rw [List.take_left] at hrd';refine dat (.elt cs) ⟨b,pre.length+i'*c.esz+f,_,hx,fun j u hj=>⟨fun hx=>hx.2 rfl,?_⟩,hrd'⟩ (fun _ ht=>ht) rfl rfl;rw [List.getElem?_take] at hj;split at hj
             . rw [List.getElem?_drop] at hj
               have:=hcl _ u hj
               rw [show pre.length+i'*c.esz+f+j=pre.length+(i'*c.esz+f+j) by omega];exact this
             . cases hj
           . exact anyc
         . exact anyc
       | _=>exact anyc
     . rename_i e;exact same his (fun s' b' hr=>by simp only [AV.rf,Option.some.injEq,Prod.mk.injEq] at hr;rw [<-hr.1];exact e)
    | _=>exact same his (fun s' b' hr=>by cases hr)
 have hlive:∀ t,live (vn0 s hv 0 I) t->live I t:=fun t ⟨i,y,hi,hy⟩=>by
  obtain ⟨x,hx,rfl⟩:=hget i y hi;exact (hslot i x hx).2.1 t hy
 refine RelI.mk h.hd (by rw [x5l];exact h.hs) ?_ ?_ (fun b' o hm=>h.mb b' o hm.1) ?_ ?_ ?_ ?_ ?_ ?_ h.size h.os h.tape h.output h.frame
 . intro i y hi;obtain ⟨x,hx,rfl⟩:=hget i y hi;exact (hslot i x hx).1
 . intro b' o hm;refine ⟨h.m0 b' o hm,fun e=>?_⟩
   have:=E.hM b' o hm
   rw [e] at this;exact absurd this (by have:=hN;unfold Env.N at this;omega)
 . intro i y hi hy;obtain ⟨x,hx,rfl⟩:=hget i y hi;obtain ⟨hne,he⟩:=(hslot i x hx).2.2.1 hy;rw [he] at hy ⊢;have h1:=h.hold i x hx hy;refine ⟨fun o=>⟨h1.1 o,fun e=>hne ?_⟩,h1.2⟩;exact h.inj i s x hv hx hs hy hh (e.trans hb.symm)
 . intro i j y z hi hj hy hz;obtain ⟨x,hx,rfl⟩:=hget i y hi;obtain ⟨x',hx',rfl⟩:=hget j z hj;obtain ⟨_,he⟩:=(hslot i x hx).2.2.1 hy;obtain ⟨_,he'⟩:=(hslot j x' hx').2.2.1 hz;rw [he] at hy;rw [he'] at hz;exact h.inj i j x x' hx hx' hy hz
 . intro i y s' b' hi hr;obtain ⟨x,hx,rfl⟩:=hget i y hi;obtain ⟨hne,_,he⟩:=(hslot i x hx).2.2.2 s' b' hr;rw [he] at hr;obtain ⟨hv',h1,h2⟩:=h.refs i x s' b' hx hr;refine ⟨hv',?_,h2⟩;rw [xau,h1];simp only [Option.map_some,Nat.zero_add,Option.some.injEq];unfold zma;rw [if_neg hne]
   cases hv'<;>first | rfl | (cases b'<;>cases h2)
 . intro t ht
   rcases h.toks t (hlive t ht) with h' | ⟨e,n,xs,ho,hm⟩
   . exact .inl h'
   . rcases ho.2 with ⟨h1,_⟩ | ⟨g,cap,cur,hv',hg,hh',hnc,r⟩
     . exact .inl ⟨none,h1⟩
     . cases cap with
       | zero=>exact .inl ⟨some ⟨g,0,none⟩,by rw [hv'];simp at hnc;rw [hnc]⟩
       | succ cap=>
        refine .inr ⟨e,n,xs,⟨ho.1,.inr ⟨g,cap+1,cur,hv',hg,hh',hnc,r⟩⟩,fun g' hg' o ho'=>⟨hm g' hg' o ho',fun e=>?_⟩⟩;subst e
        have hgg:g'=g:=by rw [hv'] at hg';simpa [Value.ownBlock] using hg'.symm
        exact h.tbox t s hv (hlive t ht) hs hh (by rw [hv',hb,hgg];rfl)
 . exact fun t t' g ht ht'=>h.tinj t t' g (hlive t ht) (hlive t' ht')
 . intro t i y ht hi hy;obtain ⟨x,hx,rfl⟩:=hget i y hi;obtain ⟨_,he⟩:=(hslot i x hx).2.2.1 hy;rw [he] at hy;exact h.tbox t i x (hlive t ht) hx hy
theorem StLe.frz (s:Nat) (I:List AV):StLe I (Go.Slot.frz s I):=by
 unfold Go.Slot.frz
 split
 . rename_i cs hg;intro E a w ⟨τ,M,hI⟩;obtain ⟨M',h'⟩:=hI.freeze (y94 hg (by simp)) rfl;exact ⟨τ,M',h'⟩
 . rename_i pre c hg;intro E a w ⟨τ,M,hI⟩;obtain ⟨M',h'⟩:=hI.freeze (y94 hg (by simp)) rfl;exact ⟨τ,M',h'⟩
 . exact StLe.refl I
inductive Gh where
 | frz (s:Nat)
 | any (s:Nat)
 | mv (s t:Nat)
 | join
 | lit
def y0x (s:Nat) (I:List AV):List AV:=if nh I s then I.set s .any else I
theorem LeS.y0x (s:Nat) (I:List AV):LeS I (I.set s .any):=by
 induction I generalizing s with
 | nil=>exact .nil
 | cons a I ih=>
  cases s with
  | zero=>exact .cons (.any a) (LeS.refl I)
  | succ s=>exact .cons (.refl a) (ih s)
theorem StLe.y0x (s:Nat) (I:List AV):StLe I (Go.Slot.y0x s I):=by
 unfold Go.Slot.y0x
 split
 . rename_i hn;intro E a w ⟨τ,M,hI⟩;obtain ⟨old,hs,ho⟩:=xd0 hn;have hlt:s<I.length:=(List.getElem?_eq_some_iff.1 hs).1
   have hnot:∀ i x,I[i]? = some x->x.xeo=true->i≠s:=fun i x hi hx e=>by
    subst e;rw [hs] at hi;cases hi;rw [ho] at hx;cases hx
   have hlive:∀ t,live (I.set s .any) t->live I t:=fun t ⟨i,x,hi,hx⟩=>by
    rcases getElem?_set_cases hi with ⟨_,rfl⟩ | ⟨_,hi⟩
    . exact hx.elim
    . exact ⟨i,x,hi,hx⟩
   refine ⟨τ,M,RelI.mk hI.hd (by simpa using hI.hs) ?_ hI.m0 hI.mb ?_ ?_ ?_ (fun t ht=>hI.toks t (hlive t ht)) (fun t t' g h1 h2=>hI.tinj t t' g (hlive t h1) (hlive t' h2)) ?_ hI.size hI.os hI.tape hI.output hI.frame⟩
   . intro i x hi
     rcases getElem?_set_cases hi with ⟨_,rfl⟩ | ⟨_,hi⟩
     . exact trivial
     . exact hI.slot i x hi
   . intro i x hi hx
     rcases getElem?_set_cases hi with ⟨_,rfl⟩ | ⟨_,hi⟩
     . cases hx
     . exact hI.hold i x hi hx
   . intro i j x y hi hj hx hy
     rcases getElem?_set_cases hi with ⟨_,rfl⟩ | ⟨_,hi⟩
     . cases hx
     . rcases getElem?_set_cases hj with ⟨_,rfl⟩ | ⟨_,hj⟩
       . cases hy
       . exact hI.inj i j x y hi hj hx hy
   . intro i x s' b hi hr
     rcases getElem?_set_cases hi with ⟨_,rfl⟩ | ⟨_,hi⟩
     . cases hr
     . obtain ⟨hv,h1,h2⟩:=hI.refs i x s' b hi hr;exact ⟨hv,by rw [List.getElem?_set_ne (Ne.symm (hnot s' hv h1 (AV.x61 h2)))];exact h1,h2⟩
   . intro t i x ht hi hx
     rcases getElem?_set_cases hi with ⟨_,rfl⟩ | ⟨_,hi⟩
     . cases hx
     . exact hI.tbox t i x (hlive t ht) hi hx
 . exact StLe.refl I
def hitB (s i:Nat) (av:AV):Bool:=if i=s then true else match av.rf with
 | some (s',_)=>s'==s
 | none=>false
def zzc (s i:Nat) (av:AV):AV:=if hitB s i av=true then .any else av
def voy (s:Nat):Nat->List AV->List AV
 | _,[]=>[]
 | i,av::r=>zzc s i av::voy s (i+1) r
def yga (s:Nat) (I:List AV):List AV:=voy s 0 I
theorem vuc (s:Nat):∀(k:Nat) (I:List AV) (i:Nat),(voy s k I)[i]? = (I[i]?).map (zzc s (k+i))
 | _,[],i=>by simp [voy]
 | k,av::r,0=>by simp [voy]
 | k,av::r,i+1=>by
  simp only [voy,List.getElem?_cons_succ];rw [vuc s (k+1) r i,show k+1+i=k+(i+1) by omega]
theorem y8r (s:Nat):∀(k:Nat) (I:List AV),(voy s k I).length=I.length
 | _,[]=>rfl
 | k,av::r=>by simp [voy,y8r s (k+1) r]
theorem zva (s:Nat) (I:List AV):(yga s I).length=I.length:=y8r s 0 I
theorem v2x {s:Nat} {i:Nat} {y:AV} (h:(yga s I)[i]? = some y):∃ x,I[i]? = some x/\y=zzc s i x:=by
 unfold yga at h;rw [vuc] at h;simp only [Nat.zero_add,Option.map_eq_some_iff] at h;obtain ⟨x,hx,rfl⟩:=h;exact ⟨x,hx,rfl⟩
theorem y0g (s i:Nat) (x:AV):(zzc s i x=.any)\/(zzc s i x=x/\i≠s/\∀ s' b,x.rf=some (s',b)->s'≠s):=by
 unfold zzc
 split
 . exact .inl rfl
 . rename_i h;unfold hitB at h;split at h
   . exact absurd rfl h
   . rename_i hne;refine .inr ⟨rfl,hne,fun s' b e=>?_⟩;rw [e] at h;simpa using h
theorem RelI.yga {E:Env} {τ:Nat->TV} {M:Nat->Nat->Prop} {I:List AV} {a:Act} {w:World} (h:RelI E τ M I a w) (s:Nat):RelI E τ M (Go.Slot.yga s I) a w:=by
 have hlive:∀ t,live (Go.Slot.yga s I) t->live I t:=fun t ⟨i,y,hi,hy⟩=>by
  obtain ⟨x,hx,rfl⟩:=v2x hi
  rcases y0g s i x with e | ⟨e,_⟩
  . rw [e] at hy;exact hy.elim
  . rw [e] at hy;exact ⟨i,x,hx,hy⟩
 have hh:∀(i:Nat) (y:AV),(Go.Slot.yga s I)[i]? = some y->y.xeo=true->I[i]? = some y:=fun (i:Nat) (y:AV) hi hy=>by
  obtain ⟨x,hx,rfl⟩:=v2x hi
  rcases y0g s i x with e | ⟨e,_⟩
  . rw [e] at hy;cases hy
  . rw [e];exact hx
 refine RelI.mk h.hd (by rw [zva];exact h.hs) ?_ h.m0 h.mb (fun i y hi hy=>h.hold i y (hh i y hi hy) hy) (fun i j y z hi hj hy hz=>h.inj i j y z (hh i y hi hy) (hh j z hj hz) hy hz) ?_
  (fun t ht=>h.toks t (hlive t ht)) (fun t t' g ht ht'=>h.tinj t t' g (hlive t ht) (hlive t' ht')) (fun t i y ht hi hy=>h.tbox t i y (hlive t ht) (hh i y hi hy) hy) h.size h.os h.tape h.output h.frame
 . intro i y hi;obtain ⟨x,hx,rfl⟩:=v2x hi
   rcases y0g s i x with e | ⟨e,_⟩
   . rw [e];exact trivial
   . rw [e];exact h.slot i x hx
 . intro i y s' b hi hr;obtain ⟨x,hx,rfl⟩:=v2x hi
   rcases y0g s i x with e | ⟨e,hne,hrf⟩
   . rw [e] at hr;cases hr
   . rw [e] at hr;obtain ⟨hv,h1,h2⟩:=h.refs i x s' b hx hr;have hs':=hrf s' b hr;refine ⟨hv,?_,h2⟩;unfold Go.Slot.yga;rw [vuc,h1];simp only [Nat.zero_add,Option.map_some,Option.some.injEq]
     have:hv.rf=none:=by cases hv<;>first | rfl | (cases b<;>cases h2)
     unfold zzc hitB;rw [if_neg hs',this];simp
theorem RelI.take (h:RelI E τ M I a w) {d:Nat} {old:AV} (hd:I[d]? = some old) (hnh:old.xeo=false) (v:Value) (av:AV) (hav:av.xeo=true) (hfrs:av.fresh=true)
 (hN:E.N<=blk v) (hM:∀ o,M (blk v) o) (hfree:∀(i:Nat) (x:AV),I[i]? = some x->x.xeo=true->blk (a.tmps.getD i Go.undef)≠blk v) (hfreet:∀ t,live I t->tokB (τ t).v≠some (blk v))
 (hok:xb1 M w τ a.tmps v av) (htok:∀ t,av.v7d t->live I t):RelI E τ M (I.set d av) (a.put (some d) v) w:=by
 have hlt:d<a.tmps.size:=h.lt hd
 have hns:∀(s:Nat) (b:Bool) (hv:AV),I[s]? = some hv->hv.fits b=true->d≠s:=fun s b hv hs hf e=>by
  subst e;rw [hd] at hs;cases hs;have:=AV.x61 hf;rw [hnh] at this;cases this
 have hself:(a.tmps.setIfInBounds d v).getD d Go.undef=v:=by simp [hlt]
 have hlive:∀ t,live (I.set d av) t->live I t:=fun t ⟨i,x,hi,hx⟩=>by
  rcases getElem?_set_cases hi with ⟨_,rfl⟩ | ⟨_,hi⟩
  . exact htok t hx
  . exact ⟨i,x,hi,hx⟩
 refine RelI.mk h.hd (by simpa [Act.put] using h.hs) ?_ h.m0 h.mb ?_ ?_ ?_ (fun t ht=>h.toks t (hlive t ht)) (fun t t' g ht ht'=>h.tinj t t' g (hlive t ht) (hlive t' ht')) ?_ h.size h.os h.tape h.output h.frame
 . intro i x hi;show xb1 _ w τ (a.tmps.setIfInBounds d v) ((a.tmps.setIfInBounds d v).getD i Go.undef) x
   rcases getElem?_set_cases hi with ⟨rfl,rfl⟩ | ⟨hne,hi⟩
   . rw [hself];exact hok.keep (fun _ _ _ h1 h2=>⟨h1,h2⟩) (fun _ _=>rfl) (fun s b hr=>by cases x<;>simp [AV.rf,AV.xeo] at hr hav) (fun _=>rfl)
   . rw [getD_set_ne (Ne.symm hne)];exact (h.slot i x hi).keep (fun _ _ _ h1 h2=>⟨h1,h2⟩) (fun _ _=>rfl) (fun s b hr=>by obtain ⟨hv,h1,h2⟩:=h.refs i x s b hi hr;exact getD_set_ne (hns s b hv h1 h2) v) (fun _=>rfl)
 . intro i x hi hh;show (∀ o',M (blk ((a.tmps.setIfInBounds d v).getD i Go.undef)) o')/\(_<=blk ((a.tmps.setIfInBounds d v).getD i Go.undef)\/E.X (blk ((a.tmps.setIfInBounds d v).getD i Go.undef)))/\(_->_<=blk ((a.tmps.setIfInBounds d v).getD i Go.undef))/\(_->(a.tmps.setIfInBounds d v).getD i Go.undef=_)
   rcases getElem?_set_cases hi with ⟨rfl,rfl⟩ | ⟨hne,hi⟩
   . rw [hself];exact ⟨hM,.inl hN,fun _=>hN,fun e=>by rw [hfrs] at e;cases e⟩
   . rw [getD_set_ne (Ne.symm hne)];exact h.hold i x hi hh
 . intro i j x y hi hj hx hy;show blk ((a.tmps.setIfInBounds d v).getD i Go.undef)=blk ((a.tmps.setIfInBounds d v).getD j Go.undef)->_
   rcases getElem?_set_cases hi with ⟨rfl,rfl⟩ | ⟨hne,hi'⟩
   . rcases getElem?_set_cases hj with ⟨rfl,rfl⟩ | ⟨hne',hj⟩
     . exact fun _=>rfl
     . rw [hself,getD_set_ne (Ne.symm hne')]
       exact fun e=>absurd e.symm (hfree j y hj hy)
   . rcases getElem?_set_cases hj with ⟨rfl,rfl⟩ | ⟨hne',hj⟩
     . rw [hself,getD_set_ne (Ne.symm hne)]
       exact fun e=>absurd e (hfree i x hi' hx)
     . rw [getD_set_ne (Ne.symm hne),getD_set_ne (Ne.symm hne')];exact h.inj i j x y hi' hj hx hy
 . intro i x s b hi hr
   have:∃ hv:AV,I[s]? = some hv/\hv.fits b=true:=by
    rcases getElem?_set_cases hi with ⟨rfl,rfl⟩ | ⟨hne,hi⟩
    . cases x<;>simp [AV.rf,AV.xeo] at hr hav
    . exact h.refs i x s b hi hr
   obtain ⟨hv,h1,h2⟩:=this;exact ⟨hv,by rw [List.getElem?_set_ne (hns s b hv h1 h2)];exact h1,h2⟩
 . intro t i x ht hi hx;show _≠some (blk ((a.tmps.setIfInBounds d v).getD i Go.undef))
   rcases getElem?_set_cases hi with ⟨rfl,rfl⟩ | ⟨hne,hi⟩
   . rw [hself];exact hfreet t (hlive t ht)
   . rw [getD_set_ne (Ne.symm hne)];exact h.tbox t i x (hlive t ht) hi hx
def mvS (s t:Nat) (I:List AV):List AV:=match gt I t with
 | .asl s'=>if s'=s then match gt I s with
  | .arr pre c none=>(yga s I).set t (.arr pre c none)
  | _=>I
  else I
 | _=>I
theorem yee {d:Nat}:a.put (some d) (a.tmps.getD d Go.undef)=a:=by
 unfold Act.put
 cases a with
 | mk tmps defers=>
  simp only
  congr 1
  apply Array.ext
  . simp
  . intro i h1 h2;rw [Array.getElem_setIfInBounds]
    split
    . rename_i e;subst e;simp [h2]
    . rfl
theorem StLe.mvS (s t : Nat) (I : List AV) : StLe I (Go.Slot.mvS s t I) := by
 unfold Go.Slot.mvS
 split
 . rename_i s' hgt
   split
   . rename_i e;subst e
     split
     . rename_i pre c hgs;intro E a w ⟨τ,M,hI⟩;have hs:=y94 hgs (by simp);have ht:=y94 hgt (by simp)
       have hne:t≠s':=fun e=>by subst e;rw [hs] at ht;cases ht
       have hv:a.tmps.getD t Go.undef=a.tmps.getD s' Go.undef:=by have:=hI.gt t;rw [hgt] at this;exact this
       have hold:=hI.hold s' _ hs rfl;have h1:=hI.yga s'
       have ht1:(yga s' I)[t]? = some .any:=by
        unfold yga;rw [vuc,ht];simp only [Nat.zero_add,Option.map_some,Option.some.injEq];unfold zzc hitB;rw [if_neg hne];simp [AV.rf]
       have h2:=h1.take ht1 rfl (a.tmps.getD t Go.undef) (.arr pre c none) rfl rfl (by rw [hv];exact hold.2.2.1 rfl) (by rw [hv];exact hold.1) (fun i x hi hx e=>by
        obtain ⟨y,hy,rfl⟩:=v2x hi
        rcases y0g s' i y with e' | ⟨e',hne',_⟩
        . rw [e'] at hx;cases hx
        . rw [e'] at hx;rw [hv] at e
          exact hne' (hI.inj i s' y _ hy hs hx rfl e)) (fun d hd=>by
        rw [hv];obtain ⟨i,y,hi,hy⟩:=hd;obtain ⟨x,hx,rfl⟩:=v2x hi
        rcases y0g s' i x with e' | ⟨e',_⟩
        . rw [e'] at hy;exact hy.elim
        . rw [e'] at hy
          exact hI.tbox d s' _ ⟨i,x,hx,hy⟩ hs rfl) (by rw [hv];have:=hI.slot s' _ hs;exact this) (fun d hd=>hd.elim)
       rw [yee] at h2;exact ⟨τ,M,h2⟩
     . exact StLe.refl I
   . exact StLe.refl I
 . exact StLe.refl I
def ghA:Gh->List AV->List AV
 | .frz s,I=>frz s I
 | .any s,I=>y0x s I
 | .mv s t,I=>mvS s t I
 | .join,I=>I
 | .lit,I=>I
def ghL:List Gh->List AV->List AV
 | [],I=>I
 | g::r,I=>ghL r (vh6 (ghA g I))
theorem StLe.ghA (g:Gh) (I:List AV):StLe I (Go.Slot.ghA g I):=by
 cases g with
 | frz s=>exact StLe.frz s I
 | any s=>exact StLe.y0x s I
 | mv s t=>exact StLe.mvS s t I
 | join=>exact StLe.refl I
 | lit=>exact StLe.refl I
theorem StLe.ghL:∀(l:List Gh) (I:List AV),StLe I (Go.Slot.ghL l I)
 | [],I=>StLe.refl I
 | g::r,I=>(StLe.ghA g I).trans (by unfold Go.Slot.ghL;rw [vsc];exact StLe.ghL r _)
def anyH (av:AV):AV:=match av.xeo with
 | true=>av
 | false=>.any
def v31:Bool->List Nat->List Nat
 | true,[]=>[]
 | true,_::ks=>ks
 | false,ks=>ks
def zcq:Bool->AV->AV
 | true,av=>av
 | false,av=>anyH av
def isK:List Nat->Nat->Bool
 | [],_=>false
 | k::_,i=>i==k
def y05:List Nat->Nat->List AV->List AV
 | _,_,[]=>[]
 | ks,i,av::r=>zcq (isK ks i) av::y05 (v31 (isK ks i) ks) (i+1) r
def wlx (keep:List Nat) (I:List AV):List AV:=y05 keep 0 I
theorem wsl (av:AV):anyH av=av\/(anyH av=.any/\av.xeo=false):=by
 unfold anyH
 cases h:av.xeo with
 | true=>exact .inl rfl
 | false=>exact .inr ⟨rfl,rfl⟩
theorem xi8:∀(keep:List Nat) (k:Nat) (I:List AV) (i:Nat),∃ f:AV->AV,(y05 keep k I)[i]? = (I[i]?).map f/\∀ x,f x=x\/(f x=.any/\x.xeo=false)
 | _,_,[],i=>⟨id,by simp [y05],fun x=>.inl rfl⟩
 | ks,k,av::r,0=>by
  refine ⟨zcq (isK ks k),by simp [y05],fun x=>?_⟩
  cases isK ks k with
  | true=>exact .inl rfl
  | false=>exact wsl x
 | ks,k,av::r,i+1=>by
  obtain ⟨f,h1,h2⟩:=xi8 (v31 (isK ks k) ks) (k+1) r i;exact ⟨f,by simpa [y05] using h1,h2⟩
theorem y91:∀(keep:List Nat) (k:Nat) (I:List AV),(y05 keep k I).length=I.length
 | _,_,[]=>by simp [y05]
 | ks,k,av::r=>by simp [y05,y91 (v31 (isK ks k) ks) (k+1) r]
theorem StLe.only (keep:List Nat) (I:List AV):StLe I (wlx keep I):=by
 intro E a w ⟨τ,M,h⟩
 have get:∀(i:Nat) (y:AV),(wlx keep I)[i]? = some y->∃ x,I[i]? = some x/\(y=x\/(y=.any/\x.xeo=false)):=fun i y hi=>by
  obtain ⟨f,h1,h2⟩:=xi8 keep 0 I i;unfold wlx at hi;rw [h1] at hi;simp only [Option.map_eq_some_iff] at hi;obtain ⟨x,hx,rfl⟩:=hi;exact ⟨x,hx,h2 x⟩
 have hh:∀(i:Nat) (y:AV),(wlx keep I)[i]? = some y->y.xeo=true->I[i]? = some y:=fun i y hi hy=>by
  obtain ⟨x,hx,rfl | ⟨rfl,_⟩⟩:=get i y hi
  . exact hx
  . cases hy
 have hlive:∀ t,live (wlx keep I) t->live I t:=fun t ⟨i,y,hi,hy⟩=>by
  obtain ⟨x,hx,rfl | ⟨rfl,_⟩⟩:=get i y hi
  . exact ⟨i,y,hx,hy⟩
  . exact hy.elim
 refine ⟨τ,M,RelI.mk h.hd (by unfold wlx;rw [y91];exact h.hs) ?_ h.m0 h.mb (fun i y hi hy=>h.hold i y (hh i y hi hy) hy) (fun i j y z hi hj hy hz=>h.inj i j y z (hh i y hi hy) (hh j z hj hz) hy hz) ?_
  (fun t ht=>h.toks t (hlive t ht)) (fun t t' g ht ht'=>h.tinj t t' g (hlive t ht) (hlive t' ht')) (fun t i y ht hi hy=>h.tbox t i y (hlive t ht) (hh i y hi hy) hy) h.size h.os h.tape h.output h.frame⟩
 . intro i y hi;obtain ⟨x,hx,rfl | ⟨rfl,_⟩⟩:=get i y hi
   . exact h.slot i y hx
   . exact trivial
 . intro i y s' b hi hr;obtain ⟨x,hx,rfl | ⟨rfl,_⟩⟩:=get i y hi
   . obtain ⟨hv,h1,h2⟩:=h.refs i y s' b hx hr;obtain ⟨f,h3,h4⟩:=xi8 keep 0 I s';refine ⟨hv,?_,h2⟩;unfold wlx;rw [h3,h1]
     rcases h4 hv with e | ⟨_,e⟩
     . simp [e]
     . rw [AV.x61 h2] at e;cases e
   . cases hr
structure vxy (b:Nat) (w w':World):Prop where
 os:w'.os=w.os
 tape:w'.tape=w.tape
 output:w'.output=w.output
 size:w.heap.size<=w'.heap.size
 block:∀ k,k<w.heap.size->k≠b->w'.heap[k]? = w.heap[k]?
theorem vxy.keeps {b:Nat} (h:vxy b w w') (hM:∀ o,M b o):wf2 M M w w':=fun b' o u hm hc=>⟨hm,by
 have hl:=World.block_lt_of_cell? w _ hc
 have:=h.block b' hl (fun e=>hm (by rw [e];exact hM o))
 simp only [World.cell?,this] at hc ⊢
 exact hc⟩
theorem RelI.turn (h:RelI E τ M I a w) {s:Nat} {old new:AV} (hs:I[s]? = some old) (ho:old.xeo=true) (hn:new.xeo=true)
 (hf:∀ b,old.fits b=true->new.fits b=true) (hfr:new.fresh=old.fresh) (hbx:vxy (blk (a.tmps.getD s Go.undef)) w w') (hok:xb1 M w' τ a.tmps (a.tmps.getD s Go.undef) new)
 (htok:∀ t,new.v7d t->live I t):RelI E τ M (I.set s new) a w':=by
 generalize hb:blk (a.tmps.getD s Go.undef)=b at *;have hM:∀ o,M b o:=hb▸(h.hold s old hs ho).1;have hk:wf2 M M w w':=hbx.keeps hM
 have hlive:∀ t,live (I.set s new) t->live I t:=fun t ⟨i,x,hi,hx⟩=>by
  rcases getElem?_set_cases hi with ⟨_,rfl⟩ | ⟨_,hi⟩
  . exact htok t hx
  . exact ⟨i,x,hi,hx⟩
 refine RelI.mk h.hd (by simpa using h.hs) ?_ h.m0 (fun b o hm=>Nat.lt_of_lt_of_le (h.mb b o hm) hbx.size) ?_ ?_ ?_ ?_ ?_ ?_ (Nat.le_trans h.size hbx.size) (hbx.os.trans h.os) (hbx.tape.trans h.tape) (hbx.output.trans h.output) ?_
 . intro i x hi
   rcases getElem?_set_cases hi with ⟨rfl,rfl⟩ | ⟨hne,hi⟩
   . exact hok
   . refine (h.slot i x hi).keep hk (fun _ _=>rfl) (fun _ _ _=>rfl) (fun hh=>hbx.block _ ((h.slot i x hi).whw hh) ?_)
     exact fun e=>hne (h.inj i s x old hi hs hh ho (e.trans hb.symm))
 . intro i x hi hh
   rcases getElem?_set_cases hi with ⟨rfl,rfl⟩ | ⟨hne,hi⟩
   . exact hfr▸h.hold i old hs ho
   . exact h.hold i x hi hh
 . intro i j x y hi hj hx hy
   have key:∀(i:Nat) (x:AV),(I.set s new)[i]? = some x->x.xeo=true->∃ x':AV,I[i]? = some x'/\x'.xeo=true:=fun i x hi hx=>by
    rcases getElem?_set_cases hi with ⟨rfl,rfl⟩ | ⟨hne,hi⟩
    . exact ⟨old,hs,ho⟩
    . exact ⟨x,hi,hx⟩
   obtain ⟨x',hi',hx'⟩:=key i x hi hx;obtain ⟨y',hj',hy'⟩:=key j y hj hy;exact h.inj i j x' y' hi' hj' hx' hy'
 . intro i x s' b' hi hr
   have:∃ hv:AV,I[s']? = some hv/\hv.fits b'=true:=by
    rcases getElem?_set_cases hi with ⟨rfl,rfl⟩ | ⟨hne,hi⟩
    . cases x<;>simp [AV.rf,AV.xeo] at hr hn
    . exact h.refs i x s' b' hi hr
   obtain ⟨hv,h1,h2⟩:=this;by_cases e:s'=s
   . subst e;rw [hs] at h1;cases h1;have hl:s'<I.length:=(List.getElem?_eq_some_iff.1 hs).1;exact ⟨new,by simp [hl],hf _ h2⟩
   . exact ⟨hv,by rw [List.getElem?_set_ne (Ne.symm e)];exact h1,h2⟩
 . intro t ht
   rcases h.toks t (hlive t ht) with h' | ⟨e,n,xs,hown,hm⟩
   . exact .inl h'
   . rcases hown.2 with ⟨h1,_⟩ | ⟨g,cap,cur,hv,hg,hh,hnc,r⟩
     . exact .inl ⟨none,h1⟩
     . cases cap with
       | zero=>exact .inl ⟨some ⟨g,0,none⟩,by rw [hv];simp at hnc;rw [hnc]⟩
       | succ cap=>
        refine .inr ⟨e,n,xs,⟨hown.1,.inr ⟨g,cap+1,cur,hv,hg,?_,hnc,r⟩⟩,hm⟩;rw [hbx.block g (Array.getElem?_eq_some_iff.1 hh).1]
        . exact hh
        . rintro rfl;exact h.tbox t s old (hlive t ht) hs ho (by rw [hv,hb];rfl)
 . exact fun t t' g ht ht'=>h.tinj t t' g (hlive t ht) (hlive t' ht')
 . intro t i x ht hi hx
   rcases getElem?_set_cases hi with ⟨rfl,rfl⟩ | ⟨hne,hi⟩
   . exact h.tbox t i old (hlive t ht) hs ho
   . exact h.tbox t i x (hlive t ht) hi hx
 . intro k hk' hx;rw [hbx.block k (Nat.lt_of_lt_of_le hk' h.size)]
   . exact h.frame k hk' hx
   . rintro rfl
     rcases (h.hold s old hs ho).2.1 with h1 | h1
     . rw [hb] at h1;omega
     . rw [hb] at h1;exact hx h1
def v9i:Nat->TV:=fun _=>⟨Go.undef,0⟩
def XOk (M:Nat->Nat->Prop) (w:World) (v:Value) (av:AV):Prop:=xb1 M w v9i #[] v av/\av.xeo=true/\av.fresh=false/\(∀ t,¬av.v7d t)/\∀ o,M (blk v) o
theorem XOk.slot {v:Value} {av:AV} (h:XOk M w v av) (τ:Nat->TV) (tm:Array Value):xb1 M w τ tm v av:=
 h.1.keep (fun _ _ _ h1 h2=>⟨h1,h2⟩) (fun d hd=>absurd hd (h.2.2.2.1 d)) (fun s b hr=>by have:=h.2.1;cases av<;>simp [AV.rf,AV.xeo] at hr this) (fun _=>rfl)
def RdXL (M:Nat->Nat->Prop) (w:World) (vs:List Value) (args:List AV) (j:Nat):Prop:=
 vs.length=args.length/\(∀ i v av,vs[i]? = some v->args[i]? = some av->i≠j->RdB M w v av)/\∃ v av,vs[j]? = some v/\args[j]? = some av/\XOk M w v av
def ResX (M:Nat->Nat->Prop) (w:World) (vj v:Value):AV->Prop
 | .awn _ m lo n=>∃ ad cap,v=.slice ad n cap/\(cap≠0\/lo=0->ad=some ⟨blk vj,offV vj+lo*m,none⟩)/\n<=cap/\lo+cap<=capV vj
 | .asl _=>v=vj
 | res=>res.xeo=false/\RdR M w v res
def x8f (P:Program) (f:FuncId) (args:List AV) (j:Nat) (out res:AV):Prop:=
 yss P f/\∀(M:Nat->Nat->Prop) (w:World) (vs:List Value),Bounded M w->RdXL M w vs args j->
  Calls P f vs.toArray w (fun e w'=>∃ v vj,e=.returned v/\vs[j]? = some vj/\vxy (blk vj) w w'/\XOk M w' vj out/\ResX M w' vj v res)
theorem vwu {vs:List Value} {args:List AV} {vj:Value} (hM:Bounded M w) (h:RdXL M w vs args j) (hvj:vs[j]? = some vj) (n:Nat) :
 Rel ⟨w,M,fun b=>b=blk vj,vs.toArray++Array.replicate n Go.undef,hM⟩ (args++List.replicate n .undef) { tmps:=vs.toArray++Array.replicate n Go.undef,defers:=[] } w:=by
 obtain ⟨hlen,hdat,v0,av0,hv0,ha0,hx⟩:=h;rw [hvj] at hv0;cases hv0
 have htm:∀ i v,vs[i]? = some v->(vs.toArray++Array.replicate n Go.undef).getD i Go.undef=v:=fun i v hv=>by
  have hvl:i<vs.length:=(List.getElem?_eq_some_iff.1 hv).1;rw [List.getElem?_eq_getElem hvl] at hv;simp at hv;simp [Array.getD_eq_getD_getElem?,Array.getElem?_append,hvl,hv]
 have hj:j<args.length:=(List.getElem?_eq_some_iff.1 ha0).1;have hnot:∀(i:Nat) (av:AV),(args++List.replicate n AV.undef)[i]? = some av->(i=j/\av=av0/\(vs.toArray++Array.replicate n Go.undef).getD i Go.undef=vj)\/
  (i≠j/\∃ v,(vs.toArray++Array.replicate n Go.undef).getD i Go.undef=v/\RdB M w v av):=by
  intro i av hi;by_cases hlt:i<args.length
  . rw [List.getElem?_append_left hlt] at hi;by_cases hij:i=j
    . subst hij;rw [ha0] at hi;cases hi;exact .inl ⟨rfl,rfl,htm i vj hvj⟩
    . have hvl:i<vs.length:=by omega
      exact .inr ⟨hij,vs[i],htm i _ (List.getElem?_eq_getElem hvl),hdat i _ av (List.getElem?_eq_getElem hvl) hi hij⟩
  . rw [List.getElem?_append_right (by omega)] at hi
    have hav:av=.undef:=by
     have:=List.mem_of_getElem? hi
     exact (List.mem_replicate.1 this).2
    subst hav;refine .inr ⟨by omega,Go.undef,?_,rfl⟩;simp only [Array.getD_eq_getD_getElem?,Array.getElem?_append];rw [if_neg (by simp;omega)];simp only [Array.getElem?_replicate]
    split<;>rfl
 have props:∀(v:Value) (av:AV),RdB M w v av->av.xeo=false/\av.rf=none/\(∀ t,¬av.v7d t):=fun v av hr=>by
  cases av with
  | one c=>exact ⟨rfl,rfl,(RdB.slot (τ:=v9i) (tm:=#[]) hr).2⟩
  | agg c=>exact ⟨rfl,rfl,(RdB.slot (τ:=v9i) (tm:=#[]) hr).2⟩
  | elt c=>exact ⟨rfl,rfl,fun t ht=>ht⟩
  | any=>exact ⟨rfl,rfl,fun t ht=>ht⟩
  | undef=>exact ⟨rfl,rfl,fun t ht=>ht⟩
  | _=>exact hr.elim
 have nolive:∀ t,¬live (args++List.replicate n AV.undef) t:=fun t ⟨i,x,hi,hxt⟩=>by
  rcases hnot i x hi with ⟨_,rfl,_⟩ | ⟨_,v,_,hr⟩
  . exact hx.2.2.2.1 t hxt
  . exact (props v x hr).2.2 t hxt
 refine ⟨v9i,M,RelI.mk rfl (by simp [hlen]) ?_ (fun _ _ h=>h) hM ?_ ?_ ?_ (fun t ht=>absurd ht (nolive t)) (fun t _ _ ht=>absurd ht (nolive t)) (fun t _ _ ht=>absurd ht (nolive t)) (Nat.le_refl _) rfl rfl rfl (fun _ _ _=>rfl)⟩
 . intro i av hi
   rcases hnot i av hi with ⟨_,rfl,e⟩ | ⟨_,v,hv,hr⟩
   . show xb1 M w _ _ ((vs.toArray++Array.replicate n Go.undef).getD i Go.undef) av;rw [e];exact hx.slot _ _
   . show xb1 M w _ _ ((vs.toArray++Array.replicate n Go.undef).getD i Go.undef) av;rw [hv];exact (RdB.slot hr).1
 . intro i av hi hh
   rcases hnot i av hi with ⟨_,rfl,e⟩ | ⟨_,v,hv,hr⟩
   . show (∀ o,M (blk ((vs.toArray++Array.replicate n Go.undef).getD i Go.undef)) o)/\(_<=blk ((vs.toArray++Array.replicate n Go.undef).getD i Go.undef)\/blk ((vs.toArray++Array.replicate n Go.undef).getD i Go.undef)=blk vj)/\(_->_)/\(_->(vs.toArray++Array.replicate n Go.undef).getD i Go.undef=(vs.toArray++Array.replicate n Go.undef).getD i Go.undef);rw [e];exact ⟨hx.2.2.2.2,.inr rfl,(fun hf=>by rw [hx.2.2.1] at hf;cases hf),fun _=>rfl⟩
   . rw [(props v av hr).1] at hh;cases hh
 . intro i j' x y hi hj' hxh hyh _
   rcases hnot i x hi with ⟨rfl,_,_⟩ | ⟨_,v,hv,hr⟩
   . rcases hnot j' y hj' with ⟨rfl,_,_⟩ | ⟨_,v,hv,hr⟩
     . rfl
     . rw [(props v y hr).1] at hyh;cases hyh
   . rw [(props v x hr).1] at hxh;cases hxh
 . intro i av s b hi hr'
   rcases hnot i av hi with ⟨_,rfl,e⟩ | ⟨_,v,hv,hr⟩
   . have:=hx.2.1
     cases av<;>simp [AV.rf,AV.xeo] at hr' this
   . rw [(props v av hr).2.1] at hr';cases hr'
def retX (P:Program) (rs:List ResultVar) (j:Nat) (out res:AV):Exit->List AV->Prop
 | .ret,I | .normal,I=>gt I j=out/\out.xeo=true/\out.fresh=false/\(match res with
  | .awn _ m lo n=>∃ t,rs=[.tmp t]/\gt I t=.awn j m lo n
  | .asl _=>∃ t,rs=[.tmp t]/\gt I t=.asl j
  | res=>res.xeo=false/\∃ av,yhv P I rs=some av/\RLe av res)
 | _,_=>False
theorem v6j {t:Nat} (h:fn.results.toList=[.tmp t]) (tm:Array Value) (w:World):(results fn tm).run P w=.ok (tm.getD t Go.undef) w:=by
 have hres:fn.results=#[.tmp t]:=by rw [<-Array.toArray_toList (xs:=fn.results),h]
 unfold results;rw [hres];simp
theorem x8f.of {f:FuncId} {c:Code} {args:List AV} {out res:AV} (hf:P.funcs[f]? = some fn) (hb:fn.body=some c) (hname:(fn.name == "runtime.NumGoroutine")=false)
 (hnt:∀ t,¬out.v7d t) (h:zus P c (retX P fn.results.toList j out res) (args++List.replicate (fn.ntmps-args.length) .undef)):x8f P f args j out res:=by
 refine ⟨⟨fn,hf,hname,by rw [hb];rfl⟩,fun M w vs hM hrd=>?_⟩;have hlen:=hrd.1;obtain ⟨vj,avj,hvj,haj,hx⟩:=hrd.2.2;refine calls_of_wp hf hb ?_;have hstart:=vwu hM hrd hvj (fn.ntmps-args.length)
 have hsz:vs.toArray.size=args.length:=by simp [hlen]
 rw [hsz];refine wp_mono (h _ _ w hstart) ?_;rintro e a w' ⟨I,hq,hR⟩
 have hargs:(vs.toArray++Array.replicate (fn.ntmps-args.length) Go.undef).getD j Go.undef=vj:=by
  have hvl:j<vs.length:=(List.getElem?_eq_some_iff.1 hvj).1;rw [List.getElem?_eq_getElem hvl] at hvj;simp at hvj;simp [Array.getD_eq_getD_getElem?,Array.getElem?_append,hvl,hvj]
 have fin:retX P fn.results.toList j out res .ret I->a.defers=[]/\∃ v,(results fn a.tmps).run P w'=.ok v w'/\
  ∃ v0 vj,Ending.returned v=.returned v0/\vs[j]? = some vj/\vxy (blk vj) w w'/\XOk M w' vj out/\ResX M w' vj v0 res:=fun hq=>by
  obtain ⟨hg,hho,hfr,hres⟩:=hq;have hR0:=hR;obtain ⟨τ,M',hI⟩:=hR
  have hne:out≠.any:=fun e=>by rw [e] at hho;cases hho
  have hgs:=y94 hg hne;have hold:=hI.hold j out hgs hho;have hval:a.tmps.getD j Go.undef=vj:=(hold.2.2.2 hfr).trans hargs;have hss:=hI.gt j;rw [hg,hval] at hss;have hX:XOk M w' vj out:=⟨hss.keep (wf2.shrink w' hI.m0) (fun d hd=>absurd hd (hnt d)) (fun s b hr=>by cases out<;>simp [AV.rf,AV.xeo] at hr hho) (fun _=>rfl),hho,hfr,hnt,hx.2.2.2.2⟩;have hB:vxy (blk vj) w w':=⟨hI.os,hI.tape,hI.output,hI.size,fun k hk hne=>hI.frame k hk hne⟩;refine ⟨hI.hd,?_⟩
  have plain:(res.xeo=false/\∃ av,yhv P I fn.results.toList=some av/\RLe av res)->∃ v,(results fn a.tmps).run P w'=.ok v w'/\res.xeo=false/\RdR M w' v res:=fun ⟨h1,av,h2,h3⟩=>by
   obtain ⟨v,hrun,hrd',_⟩:=x3p (fn:=fn) hR0 h2 h3;exact ⟨v,hrun,h1,hrd'⟩
  cases res with
  | awn s m lo n=>
   obtain ⟨t,hrs,hgt⟩:=hres;refine ⟨_,v6j hrs a.tmps w',_,vj,rfl,hvj,hB,hX,?_⟩;have hs:=hI.gt t;rw [hgt] at hs;obtain ⟨ad,cap,e1,h1,h2,h3⟩:=hs;rw [hval] at h1 h3;exact ⟨ad,cap,e1,h1,h2,h3⟩
  | asl s=>
   obtain ⟨t,hrs,hgt⟩:=hres;refine ⟨_,v6j hrs a.tmps w',_,vj,rfl,hvj,hB,hX,?_⟩;have hs:=hI.gt t;rw [hgt] at hs;exact Eq.trans hs hval
  | _=>
   obtain ⟨v,hrun,hh,hr⟩:=plain hres;exact ⟨v,hrun,v,vj,rfl,hvj,hB,hX,hh,hr⟩
 cases e with
 | normal=>exact fin hq
 | ret=>exact fin hq
 | _=>exact hq.elim
end Go.Slot
namespace Go.Slot
open Go Go.RowKit
variable {P:Program}
variable {I:List AV} {x y:Operand} {av:AV} {E:Env} {τ:Nat->TV} {M:Nat->Nat->Prop} {a:Act} {w:World} {o:Oper} {ts:Array TypeId} {i:Nat} {T:TypeId} {ti:TI} {rd:List Nat} {r:List Nat×List (Nat×AV)}
inductive OV where
 | bx (cs:List Cell)
 | wn (c:Cell) (lo n:Nat)
def zai (I:List AV) (x:Operand):Option (Nat×OV):=match x with
 | .tmp t=>match gt I t with
  | .box cs=>some (t,.bx (vc2 cs))
  | .obx cs=>some (t,.bx (vc2 cs))
  | .ptr s off=>if off=0 then match gt I s with
   | .box cs=>some (s,.bx (vc2 cs))
   | .obx cs=>some (s,.bx (vc2 cs))
   | _=>none
   else none
  | .arr _ c _=>some (t,.wn c 0 c.cnt)
  | .asl s=>match gt I s with
   | .arr _ c _=>some (s,.wn c 0 c.cnt)
   | _=>none
  | .awn s m lo n=>match gt I s with
   | .arr _ c _=>if m=c.esz/\lo+n<=c.cnt/\(n≠0\/lo=0) then some (s,.wn c lo n) else none
   | _=>none
  | _=>none
 | _=>none
def vsd (I:List AV) (x:Operand):List Nat:=match zai I x with
 | some (s,_)=>s::orr x
 | none=>orr x
def z9m (I:List AV):List Operand->Option (List AV×Nat×Nat×OV)
 | []=>none
 | x::r=>match zai I x with
  | some (s,ov)=>match zvb I r with
   | some l=>some (.any::l,0,s,ov)
   | none=>none
  | none=>match argA (opd I x),z9m I r with
   | some av,some (l,j,s,ov)=>some (av::l,j+1,s,ov)
   | _,_=>none
def Cell.xhr (c:Cell) (lo:Nat) (c':Cell):Option Cell:=match c,c' with
 | .ints k l,.ints k' l'=>if k=k' then some (.ints k (l.take lo++l'++l.drop (lo+l'.length))) else none
 | .sl m rows,.sl m' rows'=>if m=m' then some (.sl m (rows.take lo++rows'++rows.drop (lo+rows'.length))) else none
 | _,_=>none
variable {c c':Cell}
theorem Cell.yin {c2:Cell} {lo : Nat} (hu : c.uni) (hu' : c'.uni) (h : c.xhr lo c' = some c2) (hfit : lo + c'.cnt ≤ c.cnt) :
 c2.uni/\c2.cnt=c.cnt/\c2.esz=c.esz/\c'.esz=c.esz/\c2.flat=c.flat.take (lo*c.esz)++c'.flat++c.flat.drop ((lo+c'.cnt)*c.esz):=by
 cases c with
 | ints k l=>
  cases c' with
  | ints k' l'=>
   simp only [Cell.xhr] at h;split at h
   . rename_i hk;subst hk
     cases h;simp only [Cell.cnt] at hfit;refine ⟨trivial,by simp [Cell.cnt];omega,rfl,rfl,?_⟩;simp [Cell.flat,Cell.esz,Cell.cnt,List.map_take,List.map_drop]
   . cases h
  | _=>cases h
 | sl m rows=>
  cases c' with
  | sl m' rows'=>
   simp only [Cell.xhr] at h;split at h
   . rename_i hk;subst hk
     cases h;simp only [Cell.cnt] at hfit;have hu:∀ r∈rows,r.length=m:=hu;have hu':∀ r∈rows',r.length=m:=hu';refine ⟨fun r hr=>?_,by simp [Cell.cnt];omega,rfl,rfl,?_⟩
     . simp only [List.mem_append] at hr
       rcases hr with (hr | hr) | hr
       . exact hu r (List.mem_of_mem_take hr)
       . exact hu' r hr
       . exact hu r (List.mem_of_mem_drop hr)
     . simp only [Cell.flat,Cell.esz,Cell.cnt];rw [ybp rows lo hu,vh1 rows _ hu];simp
   . cases h
  | _=>cases h
 | _=>exact hu.elim
theorem Cell.zek (hu:c.uni) {lo n:Nat} (hfit:lo+n<=c.cnt):(c.sub lo n).uni/\(c.sub lo n).cnt=n/\(c.sub lo n).esz=c.esz/\(c.sub lo n).flat=(c.flat.drop (lo*c.esz)).take (n*c.esz):=by
 cases c with
 | ints k l=>
  simp only [Cell.cnt] at hfit;refine ⟨trivial,by simp [Cell.sub,Cell.cnt];omega,rfl,?_⟩;simp [Cell.sub,Cell.flat,Cell.esz,List.map_take,List.map_drop]
 | sl m rows=>
  simp only [Cell.cnt] at hfit;have hu:∀ r∈rows,r.length=m:=hu;refine ⟨fun r hr=>hu r (List.mem_of_mem_drop (List.mem_of_mem_take (by simpa [Cell.sub] using hr))),by simp [Cell.sub,Cell.cnt];omega,rfl,?_⟩;simp only [Cell.sub,Cell.flat,Cell.esz];rw [vh1 rows lo hu,ybp _ n (fun r hr=>hu r (List.mem_of_mem_drop hr))]
 | _=>exact hu.elim
def z5b (P:Program) (f:FuncId) (l:List AV) (j:Nat) (ov:OV) (new:OV) (res:AV):Prop:=match ov,new with
 | .bx cs,.bx cs'=>x8f P f (l.set j (.obx cs)) j (.obx cs') res
 | .wn c lo n,.wn c' _ _=>∀ pre q,x8f P f (l.set j (.arr pre (c.sub lo n) (some q))) j (.arr pre c' (some q)) res
 | _,_=>False
def wai (old:AV) (ov new:OV):Option AV:=match ov,new with
 | .bx _,.bx cs'=>some (old.xuy cs')
 | .wn c lo _,.wn c' _ _=>match old with
  | .arr pre _ post=>(c.xhr lo c').map fun c2=>.arr pre c2 post
  | _=>none
 | _,_=>none
def wcu (s:Nat) (ov:OV) (res:AV):Option AV:=match res with
 | .awn _ m lo' n'=>match ov with
  | .wn c lo _=>if m=c.esz then some (.awn s m (lo+lo') n') else none
  | _=>none
 | .asl _=>none
 | res=>some res
theorem y5l {I':List AV} {s:Nat} {ov:OV} (h:zai I x=some (s,ov)) (hx:∀ t∈orr x,gt I' t=gt I t) (hs:gt I' s=gt I s):zai I' x=some (s,ov):=by
 cases x with
 | tmp t=>
  have hxt:=hx t (by simp [orr]);simp only [zai] at h ⊢;rw [hxt]
  repeat' split at h
  all_goals first | (cases h;done) | skip
  all_goals (cases h;simp_all)
 | _=>cases h
theorem w2c (h:argA (opd I x)=some av):zai I x=none:=by
 cases x with
 | tmp t=>
  have h:argA (gt I t)=some av:=h;simp only [zai]
  cases hg:gt I t<;>rw [hg] at h<;>first | rfl | cases h
 | _=>rfl
theorem vhw {I I':List AV}:∀(xs:List Operand) (l:List AV) (j s:Nat) (ov:OV),z9m I xs=some (l,j,s,ov)->(∀ t∈orrL xs,gt I' t=gt I t)->gt I' s=gt I s->z9m I' xs=some (l,j,s,ov)
 | [],_,_,_,_,h,_,_=>by cases h
 | x::r,l,j,s,ov,h,hx,hs=>by
  have hop:∀ y:Operand,(∀ t∈orr y,t∈orrL (x::r))->opd I' y=opd I y:=fun y hy=>by
   cases y with
   | tmp t=>exact hx t (hy t (by simp [orr]))
   | _=>rfl
  have hx1:∀ t∈orr x,t∈orrL (x::r):=fun t ht=>by simp [orrL,ht]
  simp only [z9m] at h ⊢;split at h
  . rename_i s' ov' hv;split at h
    . rename_i l' hl
      cases h;rw [y5l hv (fun t ht=>hx t (hx1 t ht)) hs];simp only;rw [ytm (I:=I) (I':=I') r (fun y hy=>hop y (fun t ht=>by simp [orrL,hy t ht])),hl]
    . cases h
  . rename_i hv;split at h
    . rename_i av l' j' s' ov' ha hr
      cases h;have hop1:=hop x hx1;have hnone:zai I' x=none:=w2c (by rw [hop1];exact ha);rw [hnone];simp only;rw [hop1,ha,vhw r l' j' s ov hr (fun t ht=>hx t (by simp [orrL,ht])) hs]
    . cases h
theorem v2v {E:Env} {τ:Nat->TV} {M:Nat->Nat->Prop} {I:List AV} {a:Act} {w:World} (hI:RelI E τ M I a w):∀(xs:List Operand) (l:List AV),zvb I xs=some l->
 l.length=xs.length/\∀(i:Nat) (x:Operand) (av:AV),xs[i]? = some x->l[i]? = some av->RdB M w (a.eval x) av
 | [],l,h=>by simp only [zvb,Option.some.injEq] at h;subst h;exact ⟨rfl,fun i x av hx=>by simp at hx⟩
 | x::r,l,h=>by
  simp only [zvb] at h;split at h
  . rename_i av l' h1 h2
    cases h;obtain ⟨hl,hg⟩:=v2v hI r l' h2;refine ⟨by simp [hl],fun i y av' hy hav=>?_⟩
    cases i with
    | zero=>simp at hy hav;subst hy;subst hav;exact vkm h1 (hI.opd x)
    | succ i=>exact hg i y av' (by simpa using hy) (by simpa using hav)
  . cases h
theorem xoe {E : Env} {τ : Nat → TV} {M : Nat → Nat → Prop} {I : List AV} {a : Act} {w : World} (hI : RelI E τ M I a w) : ∀ (xs : List Operand) (l : List AV) (j s : Nat) (ov : OV), z9m I xs = some (l, j, s, ov) →
 l.length=xs.length/\(∃ x,xs[j]? = some x/\zai I x=some (s,ov))/\∀(i:Nat) (x:Operand) (av:AV),xs[i]? = some x->l[i]? = some av->i≠j->RdB M w (a.eval x) av
 | [],_,_,_,_,h=>by cases h
 | x::r,l,j,s,ov,h=>by
  simp only [z9m] at h;split at h
  . rename_i s' ov' hv;split at h
    . rename_i l' hl
      cases h;obtain ⟨hlen,hg⟩:=v2v hI r l' hl;refine ⟨by simp [hlen],⟨x,rfl,hv⟩,fun i y av hy hav hne=>?_⟩
      cases i with
      | zero=>exact absurd rfl hne
      | succ i=>exact hg i y av (by simpa using hy) (by simpa using hav)
    . cases h
  . split at h
    . rename_i av l' j' s' ov' ha hr
      cases h;obtain ⟨hlen,⟨y,hy,hyv⟩,hg⟩:=xoe hI r l' j' s ov hr;refine ⟨by simp [hlen],⟨y,by simpa using hy,hyv⟩,fun i z av' hz hav hne=>?_⟩
      cases i with
      | zero=>simp at hz hav;subst hz;subst hav;exact vkm ha (hI.opd x)
      | succ i=>exact hg i z av' (by simpa using hz) (by simpa using hav) (fun e=>hne (by rw [e]))
    . cases h
theorem zxb (hI:RelI E τ M I a w) {s:Nat} {ov:OV} (h:zai I x=some (s,ov)) :
 (∃ cs0,ov=.bx (vc2 cs0)/\(gt I s).vwb=some cs0/\a.eval x=a.tmps.getD s Go.undef)\/
 (∃ pre c post lo n cap,ov=.wn c lo n/\gt I s=.arr pre c post/\lo+n<=c.cnt/\a.eval x=.slice (some ⟨blk (a.tmps.getD s Go.undef),pre.length+lo*c.esz,none⟩) n cap/\n<=cap/\lo+cap<=capV (a.tmps.getD s Go.undef)):=by
 cases x with
 | tmp t=>
  have hs:=hI.gt t
  have arr:∀ s0 pre c post,gt I s0=.arr pre c post->∃ cap,a.tmps.getD s0 Go.undef=.slice (some ⟨blk (a.tmps.getD s0 Go.undef),pre.length,none⟩) c.cnt cap/\c.cnt<=cap/\cap=capV (a.tmps.getD s0 Go.undef)/\pre.length=offV (a.tmps.getD s0 Go.undef):=fun s0 pre c post hg=>by
   have hss:=hI.gt s0;rw [hg] at hss;obtain ⟨b,T,vs,q,cap,e1,_,_,_,_,hcap,_⟩:=hss;rw [e1];exact ⟨cap,rfl,hcap,rfl,rfl⟩
  simp only [zai] at h;split at h
  . rename_i cs hg;cases h;exact .inl ⟨cs,rfl,by rw [hg];rfl,rfl⟩
  . rename_i cs hg;cases h;exact .inl ⟨cs,rfl,by rw [hg];rfl,rfl⟩
  . rename_i s' off hg;split at h
    . rename_i h0;subst h0;rw [hg] at hs;have hs:a.tmps.getD t Go.undef=.pointer (some ⟨blk (a.tmps.getD s' Go.undef),0,none⟩):=hs
      have fin:∀ cs,(gt I s').vwb=some cs->a.eval (.tmp t)=a.tmps.getD s' Go.undef:=fun cs hb=>by
       obtain ⟨b,vs,T,e1,_⟩:=wtd (hI.gt s') hb;show a.tmps.getD t Go.undef=_;rw [hs,e1];rfl
      split at h
      . rename_i cs hg2;cases h;exact .inl ⟨cs,rfl,by rw [hg2];rfl,fin cs (by rw [hg2];rfl)⟩
      . rename_i cs hg2;cases h;exact .inl ⟨cs,rfl,by rw [hg2];rfl,fin cs (by rw [hg2];rfl)⟩
      . cases h
    . cases h
  . rename_i pre c post hg
    cases h;obtain ⟨cap,e1,h1,h2,h3⟩:=arr s pre c post hg;refine .inr ⟨pre,c,post,0,c.cnt,cap,rfl,hg,by omega,?_,h1,by omega⟩;show a.tmps.getD s Go.undef=_;rw [Nat.zero_mul,Nat.add_zero];exact e1
  . rename_i s' hg;split at h
    . rename_i pre c post hg2
      cases h;obtain ⟨cap,e1,h1,h2,h3⟩:=arr s pre c post hg2;rw [hg] at hs;have hs:a.tmps.getD t Go.undef=a.tmps.getD s Go.undef:=hs;refine .inr ⟨pre,c,post,0,c.cnt,cap,rfl,hg2,by omega,?_,h1,by omega⟩;show a.tmps.getD t Go.undef=_;rw [Nat.zero_mul,Nat.add_zero,hs];exact e1
    . cases h
  . rename_i s' m lo n hg;split at h
    . rename_i pre c post hg2;split at h
      . rename_i hc;obtain ⟨rfl,hfit,hnz⟩:=hc
        cases h;obtain ⟨capS,e1,h1,h2,h3⟩:=arr s pre c post hg2;rw [hg] at hs;obtain ⟨ad,cap,e2,had,hn,hcap⟩:=hs;refine .inr ⟨pre,c,post,lo,n,cap,rfl,hg2,hfit,?_,hn,hcap⟩;show a.tmps.getD t Go.undef=_;rw [e2,had (by omega),<-h3]
      . cases h
    . cases h
  . cases h
 | _=>cases h
theorem yao {f:FuncId} {xs:List Operand} (ho:o.op=.call { callee:=.value (.func f),args:=xs.toArray,argTypes:=ts }) {l:List AV} {j s:Nat} {ov new:OV}
 (hx:z9m I xs=some (l,j,s,ov)) (hn:ydq I o=true) {res nw res':AV} (hc:z5b P f l j ov new res) (hs:wai (gt I s) ov new=some nw) (hr:wcu s ov res=some res') :
 vni P o I (xl0 o++s::orrL xs) [] ((s,nw)::xas o res'):=by
 intro E I' a w hag _ ⟨τ,M,hI⟩ K Q hK;have hgs:gt I' s=gt I s:=hag.2 s (by simp);have hx':=vhw xs l j s ov hx (fun t ht=>hag.2 t (by simp [ht])) hgs;obtain ⟨hlen,⟨x,hxj,hview⟩,hdat⟩:=xoe hI xs l j s ov hx'
 have hjl:j<l.length:=by rw [hlen];exact (List.getElem?_eq_some_iff.1 hxj).1
 have hvj:(xs.map a.eval)[j]? = some (a.eval x):=by simp [hxj]
 have mk:∀ av:AV,XOk M w (a.eval x) av->RdXL M w (xs.map a.eval) (l.set j av) j:=fun av hX=>
  ⟨by simp [hlen],fun i v av' hv hav hne=>by
   rw [List.getElem?_set_ne (Ne.symm hne)] at hav;rw [List.getElem?_map] at hv;simp only [Option.map_eq_some_iff] at hv;obtain ⟨y,hy,rfl⟩:=hv
   exact hdat i y av' hy hav hne,a.eval x,av,hvj,by simp [hjl],hX⟩
 have fin:∀(w':World) (v:Value),RelI E τ M (I'.set s nw) a w'->nw.xeo=true->xb1 M w' τ a.tmps v res'->(∀ t,¬res'.v7d t)->res'.xeo=false->
  (∀(s':Nat) (b:Bool),res'.rf=some (s',b)->s'=s/\b=false/\nw.y10=true)->K (a.put o.dst v) w':=fun w' v hI' hnw h1 h2 h3 h4=>by
  cases hdst:o.dst with
  | none=>
   refine hK _ _ ⟨τ,M,?_⟩;simp only [xas,hdst,app];exact hI'
  | some d=>
   have hnd:nh I' d=true:=hag.nh (by simp [xl0,hdst]) (by simpa [ydq,hdst] using hn);obtain ⟨old,h5,h6⟩:=xd0 hnd
   have hsl:s<I'.length:=by
    rcases zxb hI hview with ⟨cs0,_,hb,_⟩ | ⟨pre,c,post,lo,n,cap,_,hg,_⟩
    . exact (List.getElem?_eq_some_iff.1 (y94 rfl (yhs hb).2.2)).1
    . exact (List.getElem?_eq_some_iff.1 (y94 hg (by simp))).1
   have hds:d≠s:=fun e=>by
    subst e
    have hold:(gt I' d).xeo=true:=by
     rcases zxb hI hview with ⟨cs0,_,hb,_⟩ | ⟨pre,c,post,lo,n,cap,_,hg,_⟩
     . exact (yhs hb).1
     . rw [hg];rfl
    have:gt I' d=old:=by unfold gt;rw [h5];rfl
    rw [this,h6] at hold;cases hold
   refine hK _ _ ⟨τ,M,?_⟩;simp only [xas,hdst,app];refine hI'.put (by rw [List.getElem?_set_ne (Ne.symm hds)];exact h5) h6 v res' h3 h1 (fun s' b hr'=>?_) (fun t ht=>absurd ht (h2 t));obtain ⟨rfl,rfl,harr⟩:=h4 s' b hr';exact ⟨nw,by simp [hsl],by simpa [AV.fits] using harr⟩
 have data:res'.xeo=false->∀(w':World) (v:Value),RdR M w' v res'->xb1 M w' τ a.tmps v res'/\(∀ t,¬res'.v7d t)/\res'.rf=none:=fun hh w' v hr=>by
  have:=hr.slot (τ:=τ) (tm:=a.tmps) hh
  exact ⟨this.1,this.2.1,this.2.2.2⟩
 have hM:∀ av,gt I' s=av->av.xeo=true->∀ o,M (blk (a.tmps.getD s Go.undef)) o:=fun av hg hh=>
  (hI.hold s av (y94 hg (fun e=>by rw [e] at hh;cases hh)) hh).1
 unfold Oper.wp
 have henter:∀ wml:yss P f,(execOp a.eval o).run P w=.ok (.enter f (xs.map a.eval).toArray) w:=fun wml=>by
  simp [execOp,ho,resolve,Deferred.ofValue,Act.eval,invoke,yfb wml]
 rcases zxb hI hview with ⟨cs0,rfl,hb,hex⟩ | ⟨pre,c,post,lo,n,cap,rfl,hg,hfit,hex,hncap,hcap⟩
 . cases new with
   | wn _ _ _=>exact hc.elim
   | bx cs'=>
    have hc:x8f P f (l.set j (.obx (vc2 cs0))) j (.obx cs') res:=hc;rw [henter hc.1];obtain ⟨b,vs,T,e1,hheap,hrd⟩:=wtd (hI.gt s) hb;have hh:=(yhs hb).1;have hX:XOk M w (a.eval x) (.obx (vc2 cs0)):=⟨⟨b,vs,T,hex.trans e1,hheap,hrd.bare.zml⟩,rfl,rfl,fun t ht=>hrd.bare.wi1 ht,by rw [hex];exact hM _ rfl hh⟩;refine (hc.2 M w _ hI.mb (mk _ hX)).mono ?_;rintro e w' ⟨v,vj,rfl,hvj',hbx,hX',hres⟩;rw [hvj] at hvj';cases hvj';show K (a.put o.dst v) w';rw [hex] at hbx hX';rw [hgs] at hb hh
    have hnw:nw=(gt I s).xuy cs':=by simp [wai] at hs;exact hs.symm
    have hkind:nw.vwb=some cs'/\nw.xeo=true/\(∀ b,(gt I s).fits b=true->nw.fits b=true)/\nw.fresh=(gt I s).fresh:=by
     rw [hnw];generalize gt I s=g at hb
     cases g<;>first | exact ⟨rfl,rfl,fun b hf=>by cases b<;>first | exact hf | rfl,rfl⟩ | cases hb
    have hsl:=hX'.slot τ a.tmps
    have hI':=hI.turn (s:=s) (old:=gt I s) (new:=nw) (y94 hgs (yhs hb).2.2) hh hkind.2.1 hkind.2.2.1 hkind.2.2.2 hbx (by
     have h1:=hkind.1
     cases nw<;>first | (cases h1;exact hsl) | cases h1) (fun t ht=>by
     rw [yuw hkind.1] at ht
     exact absurd ht (hX'.2.2.2.1 t))
    cases res with
    | awn _ _ _ _=>cases hr
    | asl _=>cases hr
    | _=>
     cases hr;obtain ⟨h1,h2,h3⟩:=data hres.1 w' v hres.2;exact fin w' v hI' hkind.2.1 h1 h2 hres.1 (fun s' b hr'=>by rw [h3] at hr';cases hr')
 . cases new with
   | bx _=>exact hc.elim
   | wn c' lo2 n2=>
    have hc:∀ pre q,x8f P f (l.set j (.arr pre (c.sub lo n) (some q))) j (.arr pre c' (some q)) res:=hc;have hss:=hI.gt s;rw [hg] at hss;obtain ⟨b,T,vs,q,capS,e1,hheap,hrd,hpost,hu,hcS,hcS'⟩:=hss;obtain ⟨su,scnt,sesz,sflat⟩:=Cell.zek hu hfit;have hfl:=Cell.wg8 hu;have hvl:=hrd.length;have hle:(lo+n)*c.esz<=c.cnt*c.esz:=Nat.mul_le_mul_right _ hfit;have hmul:(lo+n)*c.esz=lo*c.esz+n*c.esz:=Nat.add_mul _ _ _;have hcap2:(lo+cap)*c.esz<=capS*c.esz:=Nat.mul_le_mul_right _ (by rw [e1] at hcap;exact hcap);have hmul2:(lo+cap)*c.esz=lo*c.esz+cap*c.esz:=Nat.add_mul _ _ _
    have hbb:blk (a.tmps.getD s Go.undef)=b:=by rw [e1];rfl
    rw [hbb] at hex;have hc1:=hc (pre++vs.take (lo*c.esz)) (vs.drop ((lo+n)*c.esz)++q);rw [henter hc1.1]
    have hpl:(pre++vs.take (lo*c.esz)).length=pre.length+lo*c.esz:=by simp;omega
    have hsplit:pre++(vs++q)=(pre++vs.take (lo*c.esz))++((vs.drop (lo*c.esz)).take (n*c.esz)++(vs.drop ((lo+n)*c.esz)++q)):=by
     have e2:vs=vs.take (lo*c.esz)++((vs.drop (lo*c.esz)).take (n*c.esz)++vs.drop ((lo+n)*c.esz)):=by
      rw [hmul,<-List.drop_drop,List.take_append_drop,List.take_append_drop]
     conv=>lhs;rw [e2]
     simp
    have hMb:∀ o,M b o:=by have:=hM _ hg rfl;rw [hbb] at this;exact this
    have hX:XOk M w (a.eval x) (.arr (pre++vs.take (lo*c.esz)) (c.sub lo n) (some (vs.drop ((lo+n)*c.esz)++q))):=by
     refine ⟨⟨b,T,(vs.drop (lo*c.esz)).take (n*c.esz),vs.drop ((lo+n)*c.esz)++q,cap,by rw [hex,hpl,scnt],by rw [hheap,hsplit],?_,(by intro p hp;cases hp;rfl),su,by rw [scnt];exact hncap,?_⟩,rfl,rfl,fun t ht=>ht,by rw [hex];exact hMb⟩
     . rw [sflat];exact (hrd.drop _).take _
     . rw [sesz];simp only [List.length_take,List.length_drop,List.length_append];omega
    refine (hc1.2 M w _ hI.mb (mk _ hX)).mono ?_;rintro e w' ⟨v,vj,rfl,hvj',hbx,hX',hres⟩;rw [hvj] at hvj';cases hvj';show K (a.put o.dst v) w';have hgS:gt I s=.arr pre c post:=hgs▸hg;simp only [wai,hgS,Option.map_eq_some_iff] at hs;obtain ⟨c2,hspl,rfl⟩:=hs;obtain ⟨⟨b',T',us,q',cap',e3,hheap',hrd',hq',hu',hcnt',hcap'⟩,_⟩:=hX';rw [hex] at e3;simp only [hpl,Value.slice.injEq,Option.some.injEq,Addr.mk.injEq,and_true] at e3;obtain ⟨rfl,hcn,rfl⟩:=e3
    have:=hq' _ rfl
    subst this;obtain ⟨u2,cnt2,esz2,esz',flat2⟩:=Cell.yin hu hu' hspl (by omega)
    have hbx':vxy (blk (a.tmps.getD s Go.undef)) w w':=by rw [hbb];rw [hex] at hbx;exact hbx
    have hk:=hbx'.keeps (M:=M) (by rw [hbb];exact hMb)
    have hul:us.length=n*c.esz:=by rw [hrd'.length,Cell.wg8 hu',<-hcn,esz']
    have hsl:xb1 M w' τ a.tmps (a.tmps.getD s Go.undef) (.arr pre c2 post):=by
     refine ⟨b,T',vs.take (lo*c.esz)++us++vs.drop ((lo+n)*c.esz),q,capS,by rw [e1,cnt2],?_,?_,hpost,u2,by rw [cnt2];exact hcS,?_⟩
     . rw [hheap'];simp
     . rw [flat2,<-hcn];exact (((hrd.keep hk).take _).append hrd').append ((hrd.keep hk).drop _)
     . rw [esz2];simp only [List.length_append,List.length_take,List.length_drop,hul];omega
    have hI':=hI.turn (s:=s) (old:=.arr pre c post) (new:=.arr pre c2 post) (y94 hg (by simp)) rfl rfl (fun b hf=>by cases b<;>first | exact hf | rfl) (by cases post<;>rfl) hbx' hsl (fun t ht=>ht.elim)
    cases res with
    | asl _=>cases hr
    | awn s0 m lo' n'=>
     simp only [wcu] at hr;split at hr
     . rename_i hm;subst hm
       cases hr;obtain ⟨ad,cap2,e4,had,h1,h2⟩:=hres;rw [hex] at had h2;simp only [blk,offV,capV] at had h2;refine fin w' v hI' rfl ⟨ad,cap2,e4,fun hor=>?_,h1,by rw [e1];rw [e1] at hcap;simp only [capV] at hcap ⊢;omega⟩ (fun t ht=>ht) rfl (fun s' b' hr'=>?_)
       . rw [had (by omega),hbb,e1];simp only [offV];rw [Nat.add_mul,<-Nat.add_assoc]
       . simp only [AV.rf,Option.some.injEq,Prod.mk.injEq] at hr';exact ⟨hr'.1.symm,hr'.2.symm,rfl⟩
     . cases hr
    | _=>
     cases hr;obtain ⟨h1,h2,h3⟩:=data hres.1 w' v hres.2;exact fin w' v hI' rfl h1 h2 hres.1 (fun s' b hr'=>by rw [h3] at hr';cases hr')
def v5c (s:Nat):Nat->List AV->List (Nat×AV)
 | _,[]=>[]
 | i,av::r=>if hitB s i av=true then (i,.any)::v5c s (i+1) r else v5c s (i+1) r
theorem v1y (s:Nat):∀(I:List AV) (k:Nat) (p:Nat×AV),p∈v5c s k I->k<=p.1
 | [],_,p,h=>by cases h
 | av::r,k,p,h=>by
  have ih:=v1y s r (k+1) p;unfold v5c at h;split at h
  . rcases List.mem_cons.1 h with rfl | h
    . exact Nat.le_refl _
    . exact Nat.le_of_succ_le (ih h)
  . exact Nat.le_of_succ_le (ih h)
theorem xn8 (s:Nat):∀(I:List AV) (k i:Nat),i<I.length->
 ((v5c s k I).reverse.find? (fun p=>p.1==k+i))=if hitB s (k+i) (gt I i)=true then some (k+i,AV.any) else none
 | [],_,i,h=>by simp at h
 | av::r,k,i,h=>by
  have none_of:(v5c s (k+1) r).reverse.find? (fun p=>p.1==k)=none:=by
   rw [List.find?_eq_none];intro p hp
   have:=v1y s r (k+1) p (List.mem_reverse.1 hp)
   simp only [beq_iff_eq];omega
  cases i with
  | zero=>
   have hg:gt (av::r) 0=av:=rfl;rw [hg,Nat.add_zero];unfold v5c
   split
   . rw [List.reverse_cons,List.find?_append,none_of];simp
   . exact none_of
  | succ i=>
   have ih:=xn8 s r (k+1) i (by simpa using h);have hg:gt (av::r) (i+1)=gt r i:=rfl;rw [hg,show k+(i+1)=k+1+i by omega,<-ih]
   have hd:v5c s k (av::r)=if hitB s k av=true then (k,.any)::v5c s (k+1) r else v5c s (k+1) r:=rfl
   rw [hd]
   split
   . rw [List.reverse_cons,List.find?_append];simp [show ¬k=k+1+i by omega]
   . rfl
theorem xkw (s:Nat) (I:List AV):app (v5c s 0 I) I=yga s I:=by
 apply wq0 (by rw [wge,zva]);intro i hi;rw [wge] at hi;have h1:=y4h (v5c s 0 I) I i hi;have h2:=xn8 s I 0 i hi;simp only [Nat.zero_add] at h2
 have h3:gt (yga s I) i=zzc s i (gt I i):=by
  unfold yga Slot.gt;rw [vuc]
  cases hh:I[i]? with
  | none=>rw [List.getElem?_eq_none_iff] at hh;omega
  | some x=>simp
 rw [h1,h2,h3];unfold zzc
 split<;>rfl
theorem vmt {s:Nat}:v5c s i []=[]:=rfl
theorem z3f {tk:List Nat}:zcm tk i []=[]:=rfl
theorem wtc {e:TypeId} {i:TypeInfo} {z:Value} (ht:P.underlying T=some (.slice e)) (hi:P.info? e=some i) (hz:i.zero=some z) (w:World) (ty:TypeId) {ad0:Option Addr} {n old:Nat} {xs:List Value} {yad:Option Addr} {m ycap:Nat} {news:List Value}
 (hfd:(Builtin.firstCells i.size m (.slice yad m ycap)).run P w.drew=.ok news.toArray w.drew) (hfo:(Builtin.firstCells i.size n (.slice ad0 n old)).run P w.drew=.ok xs.toArray w.drew)
 (ho:old<n+m) (hbound:(n+m)*i.bytes<=140737488355328) (h63:n+m<=9223372036854775807) :
 (Builtin.append_ #[T,T] ty #[.slice ad0 n old,.slice yad m ycap]).run P w=.ok (.slice (some ⟨w.heap.size,0,none⟩) (n+m) (grownCap w (n+m) old e))
   (w.drew.alloc (.cells ((xs++news).toArray++Builtin.zeroCells z.cells (grownCap w (n+m) old e-(n+m))) e)):=by
 have hn:¬(n+m<=old):=by omega
 have h63':¬(9223372036854775807<((n:Int)+(m:Int))):=by omega
 have hfit:=growslice_fits (need:=n+m) (old:=old) (bytes:=i.bytes) ho hbound
 have h48':¬(281474976710656<Builtin.nextslicecap (n+m) old*i.bytes):=by omega
 simp [Builtin.append_,run_underlying ht,sizeOf,typeInfo,zeroValue,hi,hz,Builtin.lenOf,hn,h63',h48',Question.forced,hfd,hfo,newRow,grownCap]
 congr 2
 apply Array.ext';simp [List.append_assoc]
def wbc (I:List AV) (x:Operand):Option (Nat×Cell):=match x with
 | .tmp t=>match gt I t with
  | .arr [] c none=>some (t,c)
  | .asl s=>match gt I s with
   | .arr [] c none=>some (s,c)
   | _=>none
  | _=>none
 | _=>none
def y7m (I:List AV) (ti:TI) (d:Nat) (x y:Operand):Option (List Nat×List (Nat×AV)):=
 match ti.sh with
 | .slice _ es eb ik=>match wbc I x,opd I y with
  | some (s,c),.one cy=>match wch es eb ik c cy.bare with
   | some c'=>if nh I d&&c.isSl then some (List.range I.length,v5c s 0 I++[(d,.arr [] c' none)]) else none
   | none=>none
  | _,_=>none
 | _=>none
theorem wdv {M : Nat → Nat → Prop} {es eb : Nat} {ik : Option IntKind} {cy:Cell} (hes : 0 < es) (h : wch es eb ik c cy = some c') (hu : c.uni) {vy : Value} (hy : RdC M w vy cy) :
 ∃(m:Nat) (news:List Value) (fy:List Cell),(∃ ad cap,vy=.slice ad m cap)/\news.length=m*es/\RdD M w news fy/\(news=[]\/∃ b off cap,vy=.slice (some ⟨b,off,none⟩) m cap/\∀ j u,news[j]? = some u->¬M b (off+j)/\w.cell? ⟨b,off+j,none⟩=some u)/\
  c'.uni/\c'.cnt=c.cnt+m/\c'.esz=es/\c.esz=es/\c'.flat=c.flat++fy/\(c.cnt+m)*eb<=140737488355328/\c.cnt+m<=9223372036854775807:=by
 unfold wch at h;split at h
 . rename_i k;split at h
   . rename_i l l' hl hl';split at h
     . rename_i hc;obtain ⟨rfl,hb1,hb2⟩:=hc
       cases h
       have hcc:c=.ints k l:=by
        cases c with
        | ints k' l0=>simp only [wxa] at hl;split at hl<;>first | (rename_i e;subst e;cases hl;rfl) | cases hl
        | sl=>cases hl
        | _=>exact hu.elim
       subst hcc;obtain ⟨hyl,hyc⟩:=hy.v7h hl';exact ⟨l'.length,l'.map (Value.int k),l'.map fun n=>.raw (.int k n),hyl,by simp,wvn k l',hyc,trivial,by simp [Cell.cnt],rfl,rfl,by simp [Cell.flat],hb1,hb2⟩
     . cases h
   . cases h
 . split at h
   . rename_i l l' hl hl';split at h
     . rename_i hc;obtain ⟨hb1,hb2⟩:=hc
       cases h
       have hcc:c=.sl es l:=by
        cases c with
        | sl n0 l0=>simp only [vbz] at hl;split at hl<;>first | (rename_i e;subst e;cases hl;rfl) | cases hl
        | ints=>cases hl
        | _=>exact hu.elim
       subst hcc;obtain ⟨hyl,hyn,us,hul,hur,hyc⟩:=hy.vy2 hes hl';refine ⟨l'.length,us,l'.flatten,hyl,hul,hur,hyc,fun r hr=>?_,by simp [Cell.cnt],rfl,rfl,by simp [Cell.flat],hb1,hb2⟩
       rcases List.mem_append.1 hr with h | h
       . exact hu r h
       . exact hyn r h
     . cases h
   . cases h
theorem yzq (hI:RelI E τ M I a w) {s:Nat} (h:wbc I x=some (s,c)) :
 I[s]? = some (.arr [] c none)/\a.eval x=a.tmps.getD s Go.undef:=by
 unfold wbc at h;split at h
 case h_2=>cases h
 rename_i t;split at h
 . rename_i c0 hg
   cases h;exact ⟨y94 hg (by simp),rfl⟩
 . rename_i s0 hg0;split at h
   . rename_i c0 hg
     cases h
     have:=hI.gt t
     rw [hg0] at this;exact ⟨y94 hg (by simp),this⟩
   . cases h
 . cases h
theorem zb1 (ho:o.op=.call { callee:=.builtin .append,args:=#[x,y],argTypes:=#[T,T] }) {d:Nat} (hdst:o.dst=some d) (hti:mkTI P T=some ti)
 {eff:List (Nat×AV)} (hA:y7m I ti d x y=some (rd,eff)):vni P o I rd [] eff:=by
 obtain ⟨ds,i0,z0,hd0,hi0,hz0,_,_,_,_,_,hsh'⟩:=(wgk hti).ex;unfold y7m at hA;split at hA
 case h_2=>cases hA
 rename_i e es eb ik hsh;split at hA
 case h_2=>cases hA
 rename_i s c cy hx hy;split at hA
 case h_2=>cases hA
 rename_i c' wvz;split at hA
 case isFalse=>cases hA
 rename_i hn;simp only [Bool.and_eq_true] at hn;simp only [Option.some.injEq,Prod.mk.injEq] at hA;obtain ⟨rfl,rfl⟩:=hA;obtain ⟨rfl,j,z',hj,hz',hjs,hjb,hes0,hzs,hik⟩:=zu3 (hsh'.symm.trans hsh);have hes:0<es:=Nat.pos_of_ne_zero hes0;intro E I' a w hag _ ⟨τ,M,hI⟩ K Q hK;have hσ:I'=I:=wq0 hag.1 (fun i hi=>hag.2 i (List.mem_range.2 (by rw [<-hag.1];exact hi)));subst hσ;obtain ⟨hs,hev⟩:=yzq hI hx;have sy:=hI.opd y;rw [hy] at sy;have sy:RdT M w τ (a.eval y) cy:=sy;obtain ⟨b,Tb,vs,q,cap,e1,hheap,hr,_,hu,hcap,hcap'⟩:=hI.slot s _ hs;simp only [List.length_nil,List.nil_append] at e1 hheap;obtain ⟨m,news,fy,⟨yad,ycap,hyv⟩,hnl,hnr,hnc,hu',hcnt',hesz',hesz,hflat',hb1,hb2⟩:=wdv hes wvz hu sy.bare;have hold:=hI.hold s _ hs rfl
 have hblk:blk (a.tmps.getD s Go.undef)=b:=by rw [e1];rfl
 rw [hblk] at hold
 have hvl:vs.length=c.cnt*es:=by rw [hr.length,Cell.wg8 hu,hesz]
 rw [hesz] at hcap';obtain ⟨old,h1,h2⟩:=xd0 hn.1
 have hne:d≠s:=fun e=>by subst e;rw [hs] at h1;cases h1;cases h2
 have hfin:app (v5c s 0 I'++[(d,.arr [] c' none)]) I'=(yga s I').set d (.arr [] c' none):=by
  rw [wkl,xkw];rfl
 have hd1:∃ old1,(yga s I')[d]? = some old1/\old1.xeo=false:=by
  unfold yga;rw [vuc,h1];refine ⟨_,rfl,?_⟩
  rcases y0g s (0+d) old with e | ⟨e,_⟩
  . rw [e];rfl
  . rw [e];exact h2
 obtain ⟨old1,hd1,hd2⟩:=hd1
 have hfree:∀(i:Nat) (x:AV),(yga s I')[i]? = some x->x.xeo=true->blk (a.tmps.getD i Go.undef)≠b:=fun i x hi hx e=>by
  obtain ⟨y,hy,rfl⟩:=v2x hi
  rcases y0g s i y with e' | ⟨e',hne',_⟩
  . rw [e'] at hx;cases hx
  . rw [e'] at hx;exact hne' (hI.inj i s y _ hy hs hx rfl (e.trans hblk.symm))
 have hfreet:∀ t,live (yga s I') t->tokB (τ t).v≠some b:=fun t ⟨i,y,hi,hy⟩=>by
  obtain ⟨x,hx,rfl⟩:=v2x hi
  rcases y0g s i x with e' | ⟨e',_⟩
  . rw [e'] at hy;exact hy.elim
  . rw [e'] at hy
    have:=hI.tbox t s _ ⟨i,x,hx,hy⟩ hs rfl
    rw [hblk] at this;exact this
 have hrunop:∀ v' w',(Builtin.append_ #[T,T] o.type #[.slice (some ⟨b,0,none⟩) c.cnt cap,.slice yad m ycap]).run P w=.ok v' w'->(execOp a.eval o).run P w=.ok (.value v') w':=fun v' w' hr'=>by
  simp [execOp,ho,resolve,invoke,builtin,hev,e1,hyv,hr']
 have hn1:∀ u∈news,u.oneCell'=true:=hnr.oneL
 have hnc':news=[]\/∃ b off cap,Value.slice yad m ycap=.slice (some ⟨b,off,none⟩) m cap/\∀ j u,news[j]? = some u->w.cell? ⟨b,off+j,none⟩=some u:=hnc.imp id fun ⟨b',off,cap',e',hh⟩=>⟨b',off,cap',by rw [<-hyv];exact e',fun j u hj=>(hh j u hj).2⟩
 have put:∀ v' w' (E':Env) (M':Nat->Nat->Prop),(execOp a.eval o).run P w=.ok (.value v') w'->RelI E τ M' ((yga s I').set d (.arr [] c' none)) (a.put (some d) v') w'->o.wp P a w K Q:=fun v' w' _ M' hr' hR=>by
  unfold Oper.wp;rw [hr'];show K (a.put o.dst v') w';rw [hdst];exact hK _ _ ⟨τ,M',by rw [hfin];exact hR⟩
 by_cases hroom:c.cnt+m<=cap
 ·
  have hf:(Builtin.firstCells j.size m (.slice yad m ycap)).run P w=.ok news.toArray w:=waf w m _ news ⟨_,_,rfl⟩ (by rw [hjs];exact hnl) hnc'
  have hfit:c.cnt*es+news.length<=(vs++q).length:=by
   rw [hnl,<-Nat.add_mul];refine Nat.le_trans (Nat.mul_le_mul_right _ hroom) ?_;rw [List.length_append];exact hcap'
  have hrun:=w7e (P:=P) hd0 hj w o.type b Tb c.cnt cap _ hheap m (.slice yad m ycap) news ⟨_,_,rfl⟩ (by rw [hjs];exact hnl) hf hn1 hroom (by rw [hjs];simpa using hfit);rw [hjs] at hrun;simp only at hrun;generalize hnew:((vs++q).take (c.cnt*es)++news++(vs++q).drop (c.cnt*es+news.length)).toArray=new at hrun
  have hnew':new=(([]:List Value)++((vs++news)++(vs++q).drop (c.cnt*es+news.length))).toArray:=by
   rw [<-hnew,<-hvl,List.take_left];simp
  have hb0:b<w.heap.size:=(Array.getElem?_eq_some_iff.1 hheap).1;have hbx:vxy b w (w.setRow b new):=⟨rfl,rfl,rfl,by simp,fun k _ hk=>setRow_other w b k _ hk⟩
  have hI':RelI E τ M I' a (w.setRow b new):=by
   have h3:=hI.turn (new:=.arr [] c none) hs rfl rfl (fun _ h=>h) rfl (by rw [hblk];exact hbx) (by
    refine ⟨b,Tb,vs,news++(vs++q).drop (c.cnt*es+news.length),cap,e1,?_,hr.keep (hbx.keeps hold.1),fun p hp=>(by cases hp),hu,hcap,?_⟩
    . rw [setRow_heap w b _ new Tb (0,0) hheap,hnew'];simp
    . rw [hesz];simp only [List.length_append,List.length_drop]
      omega) (fun t ht=>ht.elim)
   have:I'.set s (.arr [] c none)=I':=by
    apply List.ext_getElem?;intro i;rw [List.getElem?_set]
    split
    . rename_i e;subst e;rw [hs];simp [(List.getElem?_eq_some_iff.1 hs).1]
    . rfl
   rwa [this] at h3
  refine put _ _ E _ (hrunop _ _ hrun) ((hI'.yga s).take hd1 hd2 (.slice (some ⟨b,0,none⟩) (c.cnt+m) cap) (.arr [] c' none) rfl rfl (hold.2.2.1 rfl) hold.1 hfree hfreet ?_ (fun t ht=>ht.elim));refine ⟨b,Tb,vs++news,(vs++q).drop (c.cnt*es+news.length),cap,by rw [hcnt'];rfl,?_,?_,fun p hp=>(by cases hp),hu',by rw [hcnt'];exact hroom,?_⟩
  . rw [setRow_heap w b _ new Tb (0,0) hheap,hnew']
  . rw [hflat'];exact (hr.app hnr).keep (hbx.keeps hold.1)
  . rw [hesz'];simp only [List.length_append,List.length_drop] at hfit ⊢;omega
 ·
  have hfd:(Builtin.firstCells j.size m (.slice yad m ycap)).run P w.drew=.ok news.toArray w.drew:=waf w.drew m _ news ⟨_,_,rfl⟩ (by rw [hjs];exact hnl) hnc'
  have hfo:(Builtin.firstCells j.size c.cnt (.slice (some ⟨b,0,none⟩) c.cnt cap)).run P w.drew=.ok vs.toArray w.drew:=waf w.drew c.cnt _ vs ⟨_,_,rfl⟩ (by rw [hjs];exact hvl) (.inr ⟨b,0,cap,rfl,fun j u hj=>by
   rw [Nat.zero_add];have hlt:j<vs.length:=(List.getElem?_eq_some_iff.1 hj).1
   have:w.drew.heap[b]? = some (.cells (vs++q).toArray Tb (0,0)):=hheap
   simp only [World.cell?,this,List.getElem?_toArray]
   rw [List.getElem?_append_left hlt];exact hj⟩)
  have hrun:=wtc (P:=P) hd0 hj hz' w o.type hfd hfo (by omega) (by rw [hjb];exact hb1) hb2;generalize hgc:grownCap w (c.cnt+m) cap e=gc at hrun
  have hge:c.cnt+m<=gc:=by rw [<-hgc];exact grownCap_ge w (c.cnt+m) cap e
  have hbl:Below w.heap.size w (w.drew.alloc (.cells ((vs++news).toArray++Builtin.zeroCells z'.cells (gc-(c.cnt+m))) e)):=((Below.refl _ _).drew).alloc (Nat.le_refl _) _;have hheap':(w.drew.alloc (.cells ((vs++news).toArray++Builtin.zeroCells z'.cells (gc-(c.cnt+m))) e)).heap[w.heap.size]? = some (.cells ((vs++news).toArray++Builtin.zeroCells z'.cells (gc-(c.cnt+m))) e (0,0)):=xp1 w.drew _;refine put _ _ E _ (hrunop _ _ hrun) ((hI.yga s).ylj hbl hd1 hd2 (.slice (some ⟨w.heap.size,0,none⟩) (c.cnt+m) gc) (.arr [] c' none) rfl rfl (Nat.le_refl _) (by simp [blk]) ?_ (fun t ht=>ht.elim));refine ⟨w.heap.size,e,vs++news,(Builtin.zeroCells z'.cells (gc-(c.cnt+m))).toList,gc,by rw [hcnt'];rfl,?_,?_,fun p hp=>(by cases hp),hu',by rw [hcnt'];exact hge,?_⟩
  . rw [hheap']
    congr 2
    apply Array.ext';simp
  . rw [hflat'];refine (hr.app hnr).keep (fun b' o u hm hc=>?_);have hl:=World.block_lt_of_cell? w _ hc;exact ⟨fun hh=>hh.elim hm (fun hh=>by simp only [blk] at hh;simp only at hl;omega),(wf2.below hbl b' o u hm hc).2⟩
  . rw [hesz',List.length_append,hvl,hnl,Array.length_toList,size_zeroCells,hzs,<-Nat.add_mul,<-Nat.add_mul];exact Nat.mul_le_mul_right _ (by omega)
def nilV:Value->Bool
 | .slice none 0 0=>true
 | _=>false
def nilO:Operand->Bool
 | .const v=>nilV v
 | .tmp _=>false
 | .global _=>false
 | .func _=>false
theorem yue (h:nilO x=true):x=.const (.slice none 0 0):=by
 cases x with
 | const v=>
  simp only [nilO] at h;unfold nilV at h;split at h
  . rfl
  . cases h
 | _=>cases h
def tiX {α:Type} (P:Program) (t:TypeId) (k:TI->Option α):Option α:=match mkTI P t with
 | some ti=>k ti
 | none=>none
theorem vtj {α:Type} {t:TypeId} {k:TI->Option α} {r:α} (h:tiX P t k=some r):∃ ti,mkTI P t=some ti/\k ti=some r:=by
 unfold tiX at h;split at h
 . rename_i ti hti;exact ⟨ti,hti,h⟩
 . cases h
def vcv (I:List AV) (x:Operand):Bool:=match x with
 | .tmp t=>match gt I t with
  | .arr _ _ _ | .asl _=>true
  | _=>false
 | _=>false
def eqOp:BinOp->Bool
 | .eql=>true
 | .neq=>true
 | _=>false
def vub:AV->AV->Bool
 | .one (.raw (.bool _)),.one (.raw (.bool _))=>true
 | _,_=>false
def bbA (ti:TI) (op:BinOp) (x y:AV):Option AV:=match ti.sh with
 | .bool=>match x,y with
  | .one (.raw (.bool a)),.one (.raw (.bool b))=>match op with
   | .eql=>some (.one (.raw (.bool (a==b))))
   | .neq=>some (.one (.raw (.bool (a != b))))
   | _=>none
  | _,_=>none
 | _=>none
theorem w1b {d:TypeDesc} (h:shOf P d=.bool):d=.bool:=by
 cases d with
 | bool=>rfl
 | slice e=>
  exfalso;revert h;unfold shOf;dsimp only
  split
  . split
    . split<;>simp
    . simp
  . simp
 | struct fl=>
  exfalso;revert h;unfold shOf;dsimp only;split<;>simp
 | _=>simp [shOf] at h
theorem vht {op:BinOp} {U:TypeId} (ho:o.op=.binOp op T x y U) (hti:mkTI P T=some ti) (hb:bbA ti op (opd I x) (opd I y)=some av)
 (h:val I o (orr x++orr y) av=some r):vni P o I r.1 [] r.2:=by
 unfold bbA at hb;split at hb
 case h_2=>cases hb
 rename_i hsh;split at hb
 case h_2=>cases hb
 rename_i u v hx hy;obtain ⟨d,i,z,hd,hi,hz,_,_,_,_,_,hsh'⟩:=(wgk hti).ex;obtain rfl:=w1b (hsh'.symm.trans hsh)
 have heq:∀ w:World,(Op.equal T (.bool u) (.bool v)).run P w=.ok (u==v) w:=fun w=>by
  show (Op.equalIn (9999+1) T (.bool u) (.bool v)).run P w=_;unfold Op.equalIn;simp [w9c hd]
 have eva:∀(E:Env) (τ:Nat->TV) (M:Nat->Nat->Prop) (I':List AV) (a:Act) (w:World),(∀ x':Operand,(∀ t∈orr x',t∈orr x++orr y)->opd I' x'=opd I x')->RelI E τ M I' a w->a.eval x=.bool u/\a.eval y=.bool v:=fun E τ M I' a w hop hI=>by
  have sx:=hI.opd x;have sy:=hI.opd y;rw [hop x (fun t ht=>by simp [ht]),hx] at sx;rw [hop y (fun t ht=>by simp [ht]),hy] at sy;exact ⟨RdC.x18 sx,RdC.x18 sy⟩
 split at hb
 . cases hb;refine vni.pure h rfl rfl (fun E τ M I' a w hop _ hI=>⟨.bool (u==v),?_,RdC.raw rfl,fun t ht=>ht.elim⟩);obtain ⟨ex,ey⟩:=eva E τ M I' a w hop hI;simp [execOp,ho,ex,ey,eqGuard,binOp,heq]
 . cases hb;refine vni.pure h rfl rfl (fun E τ M I' a w hop _ hI=>⟨.bool (u != v),?_,RdC.raw rfl,fun t ht=>ht.elim⟩);obtain ⟨ex,ey⟩:=eva E τ M I' a w hop hI;simp [execOp,ho,ex,ey,eqGuard,binOp,heq,bne]
 . cases hb
def isX (I:List AV):Op->Bool
 | .binOp op _ x y _=>match nilO y with
  | true=>true
  | false=>match eqOp op with
   | true=>vub (opd I x) (opd I y)
   | false=>false
 | .buildSlice _ n _=>n==0
 | .call c=>match c.callee with
  | .builtin .append=>match c.args.toList with
   | [x,_]=>vcv I x
   | _=>false
  | .builtin .max=>true
  | .builtin .min=>true
  | _=>false
 | _=>false
def maxV (b:Bool):AV->AV->Option AV
 | .one (.raw (.int k x)),.one (.raw (.int k' y))=>if k=k' then some (.one (.raw (.int k (match b with | true=>max x y | false=>min x y)))) else none
 | _,_=>none
theorem vi0 {b:Bool} (ho:o.op=.call { callee:=.builtin (match b with | true=>.max | false=>.min),args:=#[x,y],argTypes:=ts }) (hb:maxV b (opd I x) (opd I y)=some av)
 (h:val I o (orr x++orr y) av=some r):vni P o I r.1 [] r.2:=by
 unfold maxV at hb;split at hb
 . rename_i k u k' v hx hy;split at hb
   . rename_i hkk;subst hkk
     cases hb;refine vni.pure h rfl rfl (fun E τ M I' a w hop hgt hI=>⟨_,?_,RdC.raw rfl,fun t ht=>ht.elim⟩);have sx:=hI.opd x;rw [hop x (fun t ht=>List.mem_append.2 (.inl ht)),hx] at sx;have sy:=hI.opd y;rw [hop y (fun t ht=>List.mem_append.2 (.inr ht)),hy] at sy;have ex:a.eval x=.int k u:=RdC.x18 sx;have ey:a.eval y=.int k v:=RdC.x18 sy
     cases b with
     | true=>
      have:(if v > u then v else u)=max u v:=by split<;>omega
      simp [execOp,ho,resolve,invoke,builtin,Builtin.max_,Builtin.max2,ex,ey,this]
     | false=>
      have:(if v<u then v else u)=min u v:=by split<;>omega
      simp [execOp,ho,resolve,invoke,builtin,Builtin.min_,Builtin.min2,ex,ey,this]
   . cases hb
 . cases hb
def valX (I:List AV) (o:Oper) (rd:List Nat) (a:Option AV):Option (List Nat×List (Nat×AV)):=match a with
 | some av=>val I o rd av
 | none=>none
def opX (P:Program) (I:List AV) (o:Oper):Option (List Nat×List (Nat×AV)):=
 match o.op with
 | .binOp op T x y _=>match nilO y with
  | true=>tiX P T fun ti=>valX I o (orr x) (nilA I ti op x)
  | false=>tiX P T fun ti=>valX I o (orr x++orr y) (bbA ti op (opd I x) (opd I y))
 | .buildSlice T n ps=>if n=0 then tiX P T fun ti=>valX I o [] (x5m ti ps.toList) else none
 | .call c=>match c.callee with
  | .builtin .append=>match c.args.toList,c.argTypes.toList,o.dst with
   | [x,y],[T,U],some d=>if T=U then tiX P T fun ti=>y7m I ti d x y else none
   | _,_,_=>none
  | .builtin .max=>match c.args.toList with
   | [x,y]=>valX I o (orr x++orr y) (maxV true (opd I x) (opd I y))
   | _=>none
  | .builtin .min=>match c.args.toList with
   | [x,y]=>valX I o (orr x++orr y) (maxV false (opd I x) (opd I y))
   | _=>none
  | _=>none
 | _=>none
theorem ws8 {a:Option AV} (h:valX I o rd a=some r):∃ av,a=some av/\val I o rd av=some r:=by
 unfold valX at h;split at h
 . rename_i av;exact ⟨av,rfl,h⟩
 . cases h
theorem zyl (h:opX P I o=some r):vni P o I r.1 [] r.2:=by
 unfold opX at h;split at h
 . rename_i op T x y U ho;split at h
   . rename_i hnil;obtain ⟨ti,hti,hk⟩:=vtj h;obtain ⟨av,hav,hr⟩:=ws8 hk;rw [yue hnil] at ho;exact vh4 ho hti hav hr
   . obtain ⟨ti,hti,hk⟩:=vtj h;obtain ⟨av,hav,hr⟩:=ws8 hk;exact vht ho hti hav hr
 . rename_i T n ps ho;split at h
   . rename_i hn;obtain ⟨ti,hti,hk⟩:=vtj h;obtain ⟨av,hav,hr⟩:=ws8 hk;exact wkq (by rw [ho]) hn hti hav hr
   . cases h
 . rename_i c ho;obtain ⟨callee,args,argTypes⟩:=c;simp only at h;split at h
   . split at h
     . rename_i x y T U d ha ht hd;split at h
       . rename_i hTU;subst hTU;obtain ⟨ti,hti,hk⟩:=vtj h
         have ea:args=#[x,y]:=by cases args;simp at ha;rw [ha]
         have et:argTypes=#[T,T]:=by cases argTypes;simp at ht;rw [ht]
         rw [ea,et] at ho;exact zb1 ho hd hti hk
       . cases h
     . cases h
   . split at h
     . rename_i x y ha;obtain ⟨av,hav,hr⟩:=ws8 h
       have ea:args=#[x,y]:=by cases args;simp at ha;rw [ha]
       rw [ea] at ho;exact vi0 (b:=true) ho hav hr
     . cases h
   . split at h
     . rename_i x y ha;obtain ⟨av,hav,hr⟩:=ws8 h
       have ea:args=#[x,y]:=by cases args;simp at ha;rw [ha]
       rw [ea] at ho;exact vi0 (b:=false) ho hav hr
     . cases h
   . cases h
 . cases h
theorem yj3 (hN:E.N<=w.heap.size) (hmb:∀ b o,M b o->b<w.heap.size) (v:Value) (e:TypeId) (es n:Nat) (all:List Value)
 (hall:all.length=n*es) (hcm:n<=maxLen) :
 Grew E M w (w.alloc (.cells all.toArray e)) (fun b o=>M b o\/(b=w.heap.size/\n*es<=o)) v (.slice (some ⟨w.heap.size,0,none⟩) n n) es n all:=by
 have hb:Below w.heap.size w (w.alloc (.cells all.toArray e)):=(Below.refl _ _).alloc (Nat.le_refl _) _;have hheap:(w.alloc (.cells all.toArray e)).heap[w.heap.size]? = some (.cells all.toArray e (0,0)):=xp1 w _;refine { keeps:=?_,size:=hb.size,os:=rfl,tape:=rfl,output:=rfl,block:=fun k hk _=>hb.block k hk,mem:=fun b o hm _=>.inl hm,mb:=?_,tok:=?_,blk':=?_,cells:=?_,len:=⟨_,_,rfl,Nat.le_refl _⟩ }
 . intro b o u hm hc;have hl:=World.block_lt_of_cell? w _ hc;exact ⟨fun hh=>hh.elim hm (fun hh=>by have:=hh.1;simp only at hl;omega),(wf2.below hb b o u hm hc).2⟩
 . rintro b o (hm | ⟨rfl,_⟩)
   . exact Nat.lt_of_lt_of_le (hmb b o hm) hb.size
   . simp
 . refine .inr ⟨e,n,all,⟨hall,.inr ⟨w.heap.size,n,_,rfl,hN,hheap,Nat.le_refl _,hcm,?_,?_⟩⟩,fun g hg o ho=>?_⟩
   . simp [hall]
   . simp [<-hall]
   . simp [Value.ownBlock] at hg;exact .inr ⟨hg.symm,ho⟩
 . intro g hg
   cases n with
   | zero=>simp [tokB] at hg
   | succ n=>simp [tokB] at hg;exact .inr (by omega)
 . by_cases h0:all=[]
   . exact .inl h0
   . refine .inr ⟨w.heap.size,n,rfl,Nat.le_refl _,fun j u hj=>⟨?_,?_⟩⟩
     . have hjl:j<all.length:=(List.getElem?_eq_some_iff.1 hj).1;rintro (hm | ⟨_,ho⟩)
       . have:=hmb _ _ hm;omega
       . omega
     . simp only [World.cell?,hheap];simpa using hj
end Go.Slot
namespace Go.Slot
open Go Go.RowKit
variable {P:Program}
variable {v:Value} {f:FuncId} {o:Oper} {rd0 rd tk:List Nat} {ti:TI} {y:Operand} {T:TypeId} {j:Nat} {ov:OV} {b:Bool} {ops:Array Oper}
inductive OR where
 | eff (rd tk:List Nat) (eff:List (Nat×AV))
 | call (f:FuncId) (args:List AV) (rd:List Nat)
 | fn (p:(Nat->Nat->Prop)->World->Value->Prop) (args:List AV) (rd:List Nat)
 | mk (f:FuncId) (caps:List AV) (rd:List Nat)
 | own (f:FuncId) (l:List AV) (j s:Nat) (ov:OV) (rd:List Nat)
 | bad
def OR.of:Option (List Nat×List (Nat×AV))->OR
 | some (rd,e)=>.eff rd [] e
 | none=>.bad
def vr2:Value->Option FuncId
 | .func (.func f) fs cs=>match fs.toList,cs.toList with
  | [],[]=>some f
  | _,_=>none
 | _=>none
theorem yz2 (h:vr2 v=some f):v=.func (.func f) #[] #[]:=by
 unfold vr2 at h;split at h
 . rename_i f' fs cs;split at h
   . rename_i h1 h2
     cases h
     have e1:fs=#[]:=by rw [<-Array.toArray_toList (xs:=fs),h1]
     have e2:cs=#[]:=by rw [<-Array.toArray_toList (xs:=cs),h2]
     rw [e1,e2]
   . cases h
 . cases h
def wgg (P:Program) (t:TypeId) (k:TI->OR):OR:=match mkTI P t with
 | some ti=>k ti
 | none=>.bad
def vofA (I:List AV) (o:Oper) (rd:List Nat) (a:Option AV):OR:=match a with
 | some av=>.of (val I o rd av)
 | none=>.bad
def vofB (I:List AV) (o:Oper) (a:Option (List Nat×AV)):OR:=match a with
 | some (rd,av)=>.of (val I o rd av)
 | none=>.bad
def vw7 (ti:TI) (av:AV):Bool:=match ti.sh with
 | .slice _ es _ _=>match av with
  | .one c=>match c.bare with
   | .ints _ _=>es==1
   | .sl n _=>es==n
   | _=>true
  | _=>true
 | _=>true
def z4h (P:Program) (ti:TI) (k:TI->OR):OR:=match ti.sh with
 | .slice e _ _ _=>wgg P e k
 | _=>.bad
def v27 (ti:TI):Bool:=match ti.sh with
 | .array _ _ es=>es != 0
 | _=>true
def AV.wls:AV->Bool
 | .arr _ _ _ | .asl _ | .awn _ _ _ _=>true
 | _=>false
variable {I l caps:List AV} {av res nw res':AV} {a:Option AV} {k:Bool->List Nat->List Nat->List (Nat×AV)->Prop} {F:List AV->AV->Prop}
def opB (P:Program) (I:List AV) (o:Oper):OR:=
 match o.op with
 | .move x=>.of (val I o (orr x) (cpy x (opd I x)))
 | .assign x=>.of (val I o (orr x) (cpy x (opd I x)))
 | .pick c x y=>vofA I o (orr c++orr x++orr y) (zlz I c x y)
 | .alloc T=>wgg P T fun ti=>.of (val I o [] (.box ti.zc))
 | .box _ x=>match xwy (opd I x) with
  | some cs=>.of (val I o (orr x) (.box cs))
  | none=>.bad
 | .load T x=>wgg P T fun ti=>vofB I o (wjl I ti x)
 | .store T x y=>match o.dst with
  | none=>wgg P T fun ti=>match ywr I ti x y with
   | some (rd,s,av)=>.eff rd [] [(s,av)]
   | none=>.bad
  | some _=>.bad
 | .fieldAddr S x f=>wgg P S fun ti=>vofA I o (orr x) (xjw I ti x f)
 | .extract x n=>vofA I o (orr x) (vz9 I x n)
 | .indexAddr T x y=>wgg P T fun ti=>vofB I o (zxf I ti x y)
 | .binOp op _ x y _=>vofA I o (orr x++orr y) (binA I op x y)
 | .unOp op _ x=>vofA I o (orr x) (unA I op x)
 | .convert S D x=>wgg P S fun ts=>wgg P D fun td=>vofA I o (orr x) (vwq I ts td x)
 | .slice T x lo hi none=>wgg P T fun ti=>match (opd I x).wls with
  | true=>vofB I o (xch I ti x lo hi)
  | false=>if vw7 ti (opd I x) then vofA I o (orr x++orrO lo++orrO hi) (x4g I ti x lo hi none) else .bad
 | .slice T x lo hi mx=>wgg P T fun ti=>if vw7 ti (opd I x) then vofA I o (orr x++orrO lo++orrO hi++orrO mx) (x4g I ti x lo hi mx) else .bad
 | .makeSlice T x y=>wgg P T fun ti=>z4h P ti fun te=>vofA I o (orr x++orr y) (zqp I ti te x y)
 | .build T ps=>wgg P T fun ti=>if v27 ti&&ti.sh.agg then vofA I o (orrs ps.toList) (v7w I ti ps.toList) else .bad
 | .buildSlice T n ps=>wgg P T fun ti=>z4h P ti fun te=>vofA I o (orrs ps.toList) (xw9 I ti te n ps.toList)
 | .call c => match c.callee with
  | .builtin .len=>match c.args.toList,c.argTypes.toList with
   | [x],[T]=>wgg P T fun ti=>if xmh I ti x then vofB I o (lenA I x) else .bad
   | _,_=>.bad
  | .builtin .append=>match c.args.toList,c.argTypes.toList,o.dst with
   | [x,y],[T,U],some d=>if T=U then wgg P T fun ti=>match w0m I ti d x y with
    | some (rd,tk,eff)=>.eff rd tk eff
    | none=>.bad
    else .bad
   | _,_,_=>.bad
  | .value (.func f)=>match zvb I c.args.toList with
   | some l=>if ydq I o then .call f l (xl0 o++orrL c.args.toList) else .bad
   | none=>match z9m I c.args.toList with
    | some (l,j,s,ov)=>if ydq I o then .own f l j s ov (xl0 o++s::orrL c.args.toList) else .bad
    | none=>.bad
  | .value (.tmp t)=>match gt I t,zvb I c.args.toList with
   | .one (.raw v),some l=>match vr2 v with
    | some f=>if ydq I o then .call f l (xl0 o++t::orrL c.args.toList) else .bad
    | none=>.bad
   | .one (.fnp p),some l=>if ydq I o then .fn p l (xl0 o++t::orrL c.args.toList) else .bad
   | _,_=>.bad
  | _=>.bad
 | .makeFunc (.func f) fs cs=>match fs.toList,zvb I cs.toList,o.dst with
  | [],some l,some d=>if nh I d then .mk f l (d::orrL cs.toList) else .bad
  | _,_,_=>.bad
 | _=>.bad
theorem vop (hs:∀ r,val I o rd0 av=some r->vni P o I r.1 [] r.2) {eff:List (Nat×AV)} (h:OR.of (val I o rd0 av)=.eff rd tk eff):tk=[]/\vni P o I rd tk eff:=by
 cases hv:val I o rd0 av with
 | none=>rw [hv] at h;cases h
 | some r=>rw [hv] at h;cases h;exact ⟨rfl,hs r hv⟩
theorem wmv {α:Type} {a:Array α} {l:List α} (h:a.toList=l):a=l.toArray:=by rw [<-h]
theorem vqw {d:Nat} {x:Operand} {eff:List (Nat×AV)} (h:w0m I ti d x y=some (rd,tk,eff)):∀ t∈tk,∀ i,(gt I i).v7d t->i∈rd:=by
 unfold w0m at h;split at h
 case h_2=>cases h
 split at h
 case h_2=>cases h
 split at h
 case h_2=>cases h
 split at h
 case h_2=>cases h
 split at h
 case isFalse=>cases h
 simp only [Option.some.injEq,Prod.mk.injEq] at h;obtain ⟨rfl,rfl,rfl⟩:=h;intro t ht i hi
 have hlt:i<I.length:=by
  rcases Nat.lt_or_ge i I.length with h | h
  . exact h
  . unfold gt at hi;rw [List.getElem?_eq_none h] at hi;exact hi.elim
 have key:∀ tk:List Nat,t∈tk->i∈(zcm tk 0 I).map (·.1):=fun tk ht=>by
  have hf:=zgq tk I 0 i hlt;simp only [Nat.zero_add] at hf;rw [if_neg (fun hall=>AV.z1t ((List.all_eq_true.1 hall) t ht) hi)] at hf
  have:=List.mem_of_find?_eq_some hf
  exact List.mem_map.2 ⟨_,by simpa using this,rfl⟩
 simp only [List.mem_cons,List.mem_append];exact .inr (.inr (key _ ht))
theorem zze (hs:∀ av,a=some av->∀ r,val I o rd0 av=some r->vni P o I r.1 [] r.2) {eff:List (Nat×AV)} (h:vofA I o rd0 a=.eff rd tk eff):tk=[]/\vni P o I rd tk eff:=by
 unfold vofA at h;split at h
 . exact vop (hs _ rfl) h
 . cases h
theorem xse {a:Option (List Nat×AV)} (hs:∀ rd0 av,a=some (rd0,av)->∀ r,val I o rd0 av=some r->vni P o I r.1 [] r.2) {eff:List (Nat×AV)} (h:vofB I o a=.eff rd tk eff):tk=[]/\vni P o I rd tk eff:=by
 unfold vofB at h;split at h
 . exact vop (hs _ _ rfl) h
 . cases h
theorem yo2 {t:TypeId} {k:TI->OR} {r:OR} (hr:r≠.bad) (h:wgg P t k=r):∃ ti,mkTI P t=some ti/\k ti=r:=by
 unfold wgg at h;split at h
 . rename_i ti hti;exact ⟨ti,hti,h⟩
 . exact absurd h.symm hr
theorem z9f {k:TI->OR} {r:OR} (hr:r≠.bad) (h:z4h P ti k=r):∃ e es eb ik te,ti.sh=.slice e es eb ik/\mkTI P e=some te/\k te=r:=by
 unfold z4h at h;split at h
 . rename_i e es eb ik hs;obtain ⟨te,h1,h2⟩:=yo2 hr h;exact ⟨e,es,eb,ik,te,hs,h1,h2⟩
 . exact absurd h.symm hr
theorem zrl {eff:List (Nat×AV)} (h:opB P I o=.eff rd tk eff):vni P o I rd tk eff/\(∀ t∈tk,∀ i,(gt I i).v7d t->i∈rd):=by
 have nt:(tk=[]/\vni P o I rd tk eff)->vni P o I rd tk eff/\(∀ t∈tk,∀ i,(gt I i).v7d t->i∈rd):=fun ⟨h1,h2⟩=>⟨h2,by rw [h1];intro t ht;cases ht⟩
 have nb:OR.eff rd tk eff≠.bad:=by simp
 unfold opB at h;split at h
 . rename_i x ho;exact nt (vop (fun r hr=>yq7 (.inl ho) hr) h)
 . rename_i x ho;exact nt (vop (fun r hr=>yq7 (.inr ho) hr) h)
 . rename_i c x y ho;exact nt (zze (fun av ha r hr=>zy1 ho ha hr) h)
 . rename_i T ho;obtain ⟨ti,hti,hk⟩:=yo2 nb h;exact nt (vop (fun r hr=>whs ho hti hr) hk)
 . rename_i T x ho;split at h
   . rename_i cs hcs;exact nt (vop (fun r hr=>vj8 ho hcs hr) h)
   . cases h
 . rename_i T x ho;obtain ⟨ti,hti,hk⟩:=yo2 nb h;exact nt (xse (fun rd0 av ha r hr=>z3d ho hti ha hr) hk)
 . rename_i T x y ho;split at h
   . rename_i hd;obtain ⟨ti,hti,hk⟩:=yo2 nb h;split at hk
     . rename_i rd' s av hst
       cases hk;exact nt ⟨rfl,ysy ho hd hti hst⟩
     . cases hk
   . cases h
 . rename_i S x f ho;obtain ⟨ti,hti,hk⟩:=yo2 nb h;exact nt (zze (fun av ha r hr=>vt5 ho hti ha hr) hk)
 . rename_i x n ho;exact nt (zze (fun av ha r hr=>x5e ho ha hr) h)
 . rename_i T x y ho;obtain ⟨ti,hti,hk⟩:=yo2 nb h;exact nt (xse (fun rd0 av ha r hr=>zoy ho hti ha hr) hk)
 . rename_i op T x y U ho;exact nt (zze (fun av ha r hr=>x2r ho ha hr) h)
 . rename_i op T x ho;exact nt (zze (fun av ha r hr=>z0w ho ha hr) h)
 . rename_i S D x ho;obtain ⟨ts,hts,hk⟩:=yo2 nb h;obtain ⟨td,htd,hk⟩:=yo2 nb hk;exact nt (zze (fun av ha r hr=>v9d ho hts htd ha hr) hk)
 . rename_i T x lo hi ho;obtain ⟨ti,hti,hk⟩:=yo2 nb h;split at hk
   . exact nt (xse (fun rd0 av ha r hr=>zse ho hti ha hr) hk)
   . split at hk
     . rename_i hok;refine nt (zze (fun av ha r hr=>ywm ho hti (fun e es eb ik hsh c hc=>?_) ha (by simpa [orrO] using hr)) hk);unfold vw7 at hok;simp only [hsh,hc] at hok;refine ⟨fun k L e=>?_,fun n rows e=>?_⟩
       . rw [e] at hok;simpa using hok
       . rw [e] at hok;simpa using hok
     . cases hk
 . rename_i T x lo hi mx _ ho;obtain ⟨ti,hti,hk⟩:=yo2 nb h;split at hk
   . rename_i hok;refine nt (zze (fun av ha r hr=>ywm ho hti (fun e es eb ik hsh c hc=>?_) ha hr) hk);unfold vw7 at hok;simp only [hsh,hc] at hok;refine ⟨fun k L e=>?_,fun n rows e=>?_⟩
     . rw [e] at hok;simpa using hok
     . rw [e] at hok;simpa using hok
   . cases hk
 . rename_i T x y ho;obtain ⟨ti,hti,hk⟩:=yo2 nb h;obtain ⟨e,es,eb,ik,te,hs,hte,hk⟩:=z9f nb hk;exact nt (zze (fun av ha r hr=>y42 ho hti (fun e' es' eb' ik' hs'=>by rw [hs] at hs';cases hs';exact hte) ha hr) hk)
 . rename_i T ps ho;obtain ⟨ti,hti,hk⟩:=yo2 nb h;split at hk
   . rename_i hok;simp only [Bool.and_eq_true] at hok;refine nt (zze (fun av ha r hr=>zqu (by rw [ho]) hti (fun n e es hs=>?_) ha hok.2 hr) hk)
     have:=hok.1
     unfold v27 at this;rw [hs] at this;simpa using this
   . cases hk
 . rename_i T n ps ho;obtain ⟨ti,hti,hk⟩:=yo2 nb h;obtain ⟨e,es,eb,ik,te,hs,hte,hk⟩:=z9f nb hk;exact nt (zze (fun av ha r hr=>xyq (by rw [ho]) hti (fun e' es' eb' ik' hs'=>by rw [hs] at hs';cases hs';exact hte) ha hr) hk)
 . rename_i c ho;obtain ⟨callee,args,argTypes⟩:=c;simp only at h;split at h
   . split at h
     . rename_i x T ha ht;obtain ⟨ti,hti,hk⟩:=yo2 nb h;split at hk
       . rename_i hfit;rw [wmv ha,wmv ht] at ho;exact nt (xse (fun rd0 av hb r hr=>yie ho hti hfit hb hr) hk)
       . cases hk
     . cases h
   . split at h
     . rename_i x y T U d ha ht hd;split at h
       . rename_i hTU;subst hTU;obtain ⟨ti,hti,hk⟩:=yo2 nb h;split at hk
         . rename_i rd' tk' eff' hA
           cases hk;rw [wmv ha,wmv ht] at ho;exact ⟨vfb ho hd hti hA,vqw hA⟩
         . cases hk
       . cases h
     . cases h
   . split at h
     . split at h<;>cases h
     . split at h
       . split at h<;>cases h
       . cases h
   . split at h
     . split at h
       . split at h<;>cases h
       . cases h
     . split at h<;>cases h
     . cases h
   . cases h
 . split at h
   . split at h<;>cases h
   . cases h
 . cases h
def orK (P:Program) (I:List AV) (o:Oper):OR->Prop
 | .call f args rd=>∀ res,y4n P f args res->vni P o I rd [] (xas o res)
 | .fn p args rd=>∀ F,p=wxs P F->∀ res,F args res->vni P o I rd [] (xas o res)
 | .mk f caps rd=>∀ F,yss P f->(∀ args res,F args res->y4n P f (args++caps) res)->vni P o I rd [] (xas o (.one (.fnp (wxs P F))))
 | .own f l j s ov rd=>∀ new res nw res',z5b P f l j ov new res->wai (gt I s) ov new=some nw->wcu s ov res=some res'->vni P o I rd [] ((s,nw)::xas o res')
 | _=>True
theorem of_k {x:Option (List Nat×List (Nat×AV))}:orK P I o (.of x):=by unfold OR.of;split<;>trivial
theorem v6n:orK P I o (vofA I o rd a):=by unfold vofA;split<;>first | exact of_k | trivial
theorem vpb {a:Option (List Nat×AV)}:orK P I o (vofB I o a):=by unfold vofB;split<;>first | exact of_k | trivial
theorem zyh {k:TI->OR} (h:∀ ti,orK P I o (k ti)):orK P I o (wgg P T k):=by
 unfold wgg;split
 . exact h _
 . trivial
theorem vtl {k:TI->OR} (h:∀ ti,orK P I o (k ti)):orK P I o (z4h P ti k):=by
 unfold z4h;split
 . exact zyh h
 . trivial
theorem xis:orK P I o (opB P I o):=by
 unfold opB
 split
 case h_19=>
  rename_i c ho;obtain ⟨callee,as,ts⟩:=c;dsimp only
  split
  . split
    . exact zyh fun _=>by
       split
       . exact vpb
       . trivial
    . trivial
  . split
    . split
      . exact zyh fun _=>by split<;>trivial
      . trivial
    . trivial
  . split
    . rename_i l hl
      split
      . rename_i hn
        exact fun res hc=>vfn (ts:=ts) (by rw [ho]) hl hn hc
      . trivial
    . split
      . rename_i hx
        split
        . rename_i hn
          exact fun new res nw res' hc hs hr=>yao (ts:=ts) (by rw [ho]) hx hn hc hs hr
        . trivial
      . trivial
  . split
    . rename_i v l ht hl
      split
      . rename_i f' hf
        split
        . rename_i hn
          exact fun res hc=>xm1 (ts:=ts) (by rw [ho]) (by rw [ht,yz2 hf]) hl hn hc
        . trivial
      . trivial
    . rename_i p l ht hl
      split
      . rename_i hn;intro F hp res hc;subst hp;exact yb9 (ts:=ts) (by rw [ho]) ht hl hn hc
      . trivial
    . trivial
  . trivial
 case h_20=>
  rename_i f' fs cs ho
  split
  . rename_i l d hfs hl hd
    split
    . rename_i hn;intro F wml hF
      have:=vky (P:=P) (by rw [ho,wmv hfs]) hl wml hF (r:=(d::orrL cs.toList,[(d,.one (.fnp (wxs P F)))])) (by unfold val;rw [hd];simp [hn])
      simpa [xas,hd] using this
    . trivial
  . trivial
 all_goals first
  | exact of_k
  | exact v6n
  | trivial
  | exact zyh fun _=>of_k
  | exact zyh fun _=>v6n
  | exact zyh fun _=>vpb
  | exact zyh fun _=>zyh fun _=>v6n
  | exact zyh fun _=>vtl fun _=>v6n
  | (refine zyh fun _=>?_
     split
     . first | exact v6n | exact vpb
     . first | trivial | (split<;>first | exact v6n | trivial))
  | (split
     . first
       | exact of_k
       | (refine zyh fun _=>?_
          split<;>trivial)
     . trivial)
theorem zqj {args:List AV} (h:opB P I o=.call f args rd) (hc:y4n P f args res):vni P o I rd [] (xas o res):=by
 have:=xis (P:=P) (I:=I) (o:=o)
 rw [h] at this;exact this res hc
theorem vn8 {args:List AV} (h:opB P I o=.fn (wxs P F) args rd) (hc:F args res):vni P o I rd [] (xas o res):=by
 have:=xis (P:=P) (I:=I) (o:=o)
 rw [h] at this;exact this F rfl res hc
theorem wj7 (h:opB P I o=.mk f caps rd) (wml:yss P f) (hF:∀ args res,F args res->y4n P f (args++caps) res) :
 vni P o I rd [] (xas o (.one (.fnp (wxs P F)))):=by
 have:=xis (P:=P) (I:=I) (o:=o)
 rw [h] at this;exact this F wml hF
theorem vto {s:Nat} (h:opB P I o=.own f l j s ov rd) {new:OV} (hc:z5b P f l j ov new res)
 (hs:wai (gt I s) ov new=some nw) (hr:wcu s ov res=some res'):vni P o I rd [] ((s,nw)::xas o res'):=by
 have:=xis (P:=P) (I:=I) (o:=o)
 rw [h] at this;exact this new res nw res' hc hs hr
def litE (I:List AV) (d:Nat) (rd:List Nat) (se:List (Nat×AV)) (b:Bool):Option AV->OR
 | some (.one c)=>match b,nh I d with
  | true,true=>.eff (d::(rd++se.map (·.1))) [d] (se++[(d,.one (.tok d c))])
  | _,_=>.bad
 | _=>.bad
def isNone {α:Type}:Option α->Bool
 | none=>true
 | some _=>false
def litA (P:Program) (I:List AV) (o:Oper) (T:TypeId) (n:Nat) (ps:List (Nat×Operand)):OR:=match o.dst with
 | some d=>wgg P T fun ti=>z4h P ti fun te=>litE I d (orrs ps) (zcm [d] 0 I) (isNone o.guard) (xw9 I ti te n ps)
 | none=>.bad
theorem x7j (es:Nat):∀(n:Nat) (cs:List Cell),cs.length=n*es->(chunk es n cs).flatten=cs
 | 0,cs,h=>by
  have:cs=[]:=List.eq_nil_of_length_eq_zero (by simpa using h)
  subst this;rfl
 | n+1,cs,h=>by
  rw [Nat.add_mul,Nat.one_mul] at h;simp only [chunk,List.flatten_cons];rw [x7j es n (cs.drop es) (by simp;omega),List.take_append_drop]
theorem xc3 (es:Nat):∀(n:Nat) (cs:List Cell),cs.length=n*es->∀ r∈chunk es n cs,r.length=es
 | 0,cs,_=>fun r hr=>by cases hr
 | n+1,cs,h=>fun r hr=>by
  rw [Nat.add_mul,Nat.one_mul] at h;simp only [chunk] at hr
  rcases List.mem_cons.1 hr with rfl | hr
  . simp;omega
  . exact xc3 es n (cs.drop es) (by simp;omega) r hr
theorem yf8 {n:Nat} {ps:List (Nat×Operand)} (ho:o.op=.buildSlice T n ps.toArray) {eff:List (Nat×AV)} (h:litA P I o T n ps=.eff rd tk eff) :
 vni P o I rd tk eff/\(∀ t∈tk,∀ i,(gt I i).v7d t->i∈rd):=by
 have nb:OR.eff rd tk eff≠.bad:=by simp
 unfold litA at h;split at h
 case h_2=>cases h
 rename_i d hdst;obtain ⟨ti,hti,hk⟩:=yo2 nb h;obtain ⟨e,es,eb,ik,te,hsh,hte,hk⟩:=z9f nb hk;unfold litE at hk;split at hk
 case h_2=>cases hk
 rename_i c hb;split at hk
 case h_2=>cases hk
 rename_i hn
 cases hk;refine ⟨?_,?_⟩
 . intro E I' a w hag htk ⟨τ,M,hI⟩ K Q hK;have hok:=wgk hti;obtain ⟨ds,i,z,hd,hi,hz,_,_,_,_,_,hsh'⟩:=hok.ex;obtain ⟨rfl,j,z',hj,hz',hjs,hjb,hes0,hzs,hik⟩:=zu3 (hsh'.symm.trans hsh);obtain ⟨de,je,ze,hde,hje,hze,_,_,_,hone,hzce,_⟩:=(wgk hte).ex;rw [hj] at hje;cases hje;rw [hz'] at hze;cases hze;unfold xw9 at hb;rw [hsh] at hb;dsimp only at hb;split at hb
   case isFalse=>cases hb
   rename_i hsmall;split at hb
   . cases hb
   rename_i cs hfill
   have hav:xsx I' ps=xsx I ps:=yzt ps (fun x hx=>hag.opd (fun t ht=>by
    have:=hx t ht
    simp [this]))
   have hz0:RdL M w τ (yql z'.cells.toList n) (yql te.zc n):=vrl (by rw [hzce];exact zs3 hone) n
   have hinit:(Array.range (n*es)).map (z'.cells[· % z'.cells.size]!)=(yql z'.cells.toList n).toArray:=by
    apply Array.ext
    . simp [vww,hzs]
    . intro q h1 h2;simp only [Array.size_map,Array.size_range] at h1;have hq:=vp8 z'.cells.toList n q (by simpa [hzs] using h1);have hlt:q % z'.cells.size<z'.cells.size:=Nat.mod_lt _ (by rw [hzs];omega);simp only [Array.getElem_map,Array.getElem_range,List.getElem_toArray];simp only [Array.length_toList,Array.getElem?_toList] at hq;rw [Array.getElem?_eq_getElem hlt,List.getElem?_eq_getElem (by simpa using h2)] at hq;simp at hq;rw [hq];simp [hlt]
   obtain ⟨cells',hf,hrd⟩:=x1d hI (fun i=>some (i*es,es)) ps (yql z'.cells.toList n).toArray _ cs (by simpa using hz0) (by rw [hav];exact hfill)
   have hrun:(execOp a.eval o).run P w=.ok (.value (.slice (some ⟨w.heap.size,0,none⟩) n n)) (w.alloc (.cells cells' e)):=by
    have h24:¬(16777216<n*es):=by omega
    have hne:¬(n*es=0):=by
     intro h0
     rcases Nat.mul_eq_zero.1 h0 with h0 | h0
     . exact hsmall.2 h0
     . exact hes0 h0
    have hpe:(Array.map (fun x=>match x with | (i,x)=>(i,a.eval x)) ps.toArray).toList=ps.map fun p=>(p.1,a.eval p.2):=by simp
    simp only [execOp,ho,Instr.buildSlice,Sem.run_bind,w9c hd,Result.andThen_ok,yyt hj,hjs];rw [if_neg (by simpa using h24),if_neg hne];simp only [Sem.run_bind,wx4 hj hz',Result.andThen_ok,Sem.run_pure,hinit];rw [hpe,hf];simp [newRow]
   have hcl:(vc2 cs).length=n*es:=by
    rw [v5h,xsc _ _ _ hfill,vww,hzce];simp [hzs]
   have hall:cells'.toList.length=n*es:=by rw [hrd.bare.length,hcl]
   have hn1:n<=n*es:=Nat.le_mul_of_pos_right n (Nat.pos_of_ne_zero hes0);obtain ⟨old,h1,h2⟩:=xd0 (hag.nh (by simp) hn)
   have hfin:app (zcm [d] 0 I++[(d,.one (.tok d c))]) I'=(vtf [d] I').set d (.one (.tok d c)):=by
    rw [wkl,yfn hag.1 (fun r hr=>hag.2 r (by simp only [List.mem_cons,List.mem_append];exact .inr (.inr hr))) (fun t ht i hi=>hag.2 i (htk t ht i hi))];rfl
   have hg:=yj3 hI.size hI.mb (.slice none 0 0) e es n cells'.toList hall (by simp [maxLen];omega);rw [Array.toArray_toList] at hg;have hv:zal E M w ⟨.slice none 0 0,es⟩:=.inl ⟨none,rfl⟩;split at hb
   . rename_i k;split at hb
     . rename_i he1;subst he1;simp only [Option.map_eq_some_iff,AV.one.injEq] at hb;obtain ⟨l,hl,rfl⟩:=hb;have hvs:=xrp hrd.bare hl
       have hll:l.length=n:=by
        have h1:=congrArg List.length hvs;have h2:=hrd.bare.length;simp only [List.length_map] at h1;omega
       subst hll;rw [hvs] at hg;exact xeg hdst (by simp) hI h1 h2 rfl hg hg.ints hrun hv (fun _ _ _ _=>zq4) (fun _ _ _ _=>zq4) hfin hK
     . cases hb
   . cases hb;have hfl:(chunk es n (vc2 cs)).flatten=vc2 cs:=x7j es n _ hcl
     have hg':Grew E M w (w.alloc (.cells cells' e)) (fun b o=>M b o\/(b=w.heap.size/\n*es<=o)) (.slice none 0 0) (.slice (some ⟨w.heap.size,0,none⟩) n n) es (chunk es n (vc2 cs)).length cells'.toList:=by
      rw [v3j];exact hg
     exact xeg hdst (by simp) hI h1 h2 rfl hg' (hg'.rows (by rw [hfl];exact hrd.bare) (fun r hr=>xc3 es n _ hcl r hr) (by rw [v3j];exact hall) (Nat.pos_of_ne_zero hes0)) hrun hv (fun _ _ _ _=>zq4) (fun _ _ _ _=>zq4) hfin hK
 . intro t ht i hi
   have hlt:i<I.length:=by
    rcases Nat.lt_or_ge i I.length with h | h
    . exact h
    . unfold gt at hi;rw [List.getElem?_eq_none h] at hi;exact hi.elim
   have hf:=zgq [d] I 0 i hlt;simp only [Nat.zero_add] at hf;rw [if_neg (fun hall=>AV.z1t ((List.all_eq_true.1 hall) t ht) hi)] at hf
   have:=List.mem_of_find?_eq_some hf
   simp only [List.mem_cons,List.mem_append];exact .inr (.inr (List.mem_map.2 ⟨_,by simpa using this,rfl⟩))
def y00 (es:Nat):Option IntKind->Cell
 | some k=>.ints k []
 | none=>.sl es []
def isZc:Cell->Bool
 | .zc=>true
 | .raw (.slice none 0 0)=>true
 | _=>false
def zcAt:AV->Bool
 | .one c=>isZc c
 | _=>false
def ownN:Option Cell->Option AV
 | some c'=>if c'.cnt≠0 then some (.arr [] c' none) else none
 | none=>none
def w6x (I:List AV) (ti:TI) (x y:Operand):Option AV:=match ti.sh with
 | .slice _ es eb ik=>match zcAt (opd I x) with
  | true=>match opd I y with
   | .one cy=>ownN (wch es eb ik (y00 es ik) cy.bare)
   | _=>none
  | false=>none
 | _=>none
theorem vun {M:Nat->Nat->Prop} {w:World} {τ:Nat->TV} {c:Cell} (h:isZc c=true) (hr:RdT M w τ v c):∃ ad,v=.slice ad 0 0:=by
 unfold isZc at h;split at h
 . have hr:RdC M w v .zc:=hr
   cases hr;exact ⟨_,rfl⟩
 . exact ⟨none,RdC.x18 hr⟩
 . cases h
theorem vxn {x:Operand} (ho:o.op=.call { callee:=.builtin .append,args:=#[x,y],argTypes:=#[T,T] }) (hti:mkTI P T=some ti)
 (hA:w6x I ti x y=some av) {r:List Nat×List (Nat×AV)} (h:val I o (orr x++orr y) av=some r):vni P o I r.1 [] r.2:=by
 obtain ⟨d,hdst,hn,rfl⟩:=y56 h;obtain ⟨ds,i0,z0,hd0,hi0,hz0,_,_,_,_,_,hsh'⟩:=(wgk hti).ex;unfold w6x at hA;split at hA
 case h_2=>cases hA
 rename_i e es eb ik hsh;split at hA
 case h_2=>cases hA
 rename_i hzc;split at hA
 case h_2=>cases hA
 rename_i cy hy;unfold ownN at hA;split at hA
 case h_2=>cases hA
 rename_i c' wvz;split at hA
 case isFalse=>cases hA
 rename_i hcnt0
 cases hA;obtain ⟨rfl,j,z',hj,hz',hjs,hjb,hes0,hzs,hik⟩:=zu3 (hsh'.symm.trans hsh);have hes:0<es:=Nat.pos_of_ne_zero hes0;intro E I' a w hag _ ⟨τ,M,hI⟩ K Q hK;have hox:opd I' x=opd I x:=hag.opd (fun t ht=>by simp [ht]);have hoy:opd I' y=opd I y:=hag.opd (fun t ht=>by simp [ht]);have sx:=hI.opd x;have sy:=hI.opd y;rw [hox] at sx;rw [hoy,hy] at sy
 have hxv:∃ ad,a.eval x=.slice ad 0 0:=by
  unfold zcAt at hzc;split at hzc
  . rename_i c hc;rw [hc] at sx;exact vun hzc sx
  . cases hzc
 obtain ⟨xad,hxv⟩:=hxv;have sy:RdT M w τ (a.eval y) cy:=sy
 have hu:(y00 es ik).uni:=by
  cases ik with
  | some k=>exact trivial
  | none=>intro r hr;cases hr
 have hc0:(y00 es ik).cnt=0:=by cases ik<;>rfl
 have hf0:(y00 es ik).flat=[]:=by cases ik<;>rfl
 obtain ⟨m,news,fy,⟨yad,ycap,hyv⟩,hnl,hnr,hnc,hu',hcnt',hesz',hesz,hflat',hb1,hb2⟩:=wdv hes wvz hu sy.bare;rw [hc0,Nat.zero_add] at hcnt' hb1 hb2;rw [hf0,List.nil_append] at hflat'
 have hm0:0<m:=by omega
 obtain ⟨old,h1,h2⟩:=xd0 (hag.nh (by simp) hn);have hn1:∀ u∈news,u.oneCell'=true:=hnr.oneL
 have hnc':news=[]\/∃ b off cap,Value.slice yad m ycap=.slice (some ⟨b,off,none⟩) m cap/\∀ j u,news[j]? = some u->w.drew.cell? ⟨b,off+j,none⟩=some u:=hnc.imp id fun ⟨b',off,cap',e',hh⟩=>⟨b',off,cap',by rw [<-hyv];exact e',fun j u hj=>(hh j u hj).2⟩
 have hfd:(Builtin.firstCells j.size m (.slice yad m ycap)).run P w.drew=.ok news.toArray w.drew:=waf w.drew m _ news ⟨_,_,rfl⟩ (by rw [hjs];exact hnl) hnc';have hfo:(Builtin.firstCells j.size 0 (.slice xad 0 0)).run P w.drew=.ok ([]:List Value).toArray w.drew:=waf w.drew 0 _ [] ⟨_,_,rfl⟩ (by simp) (.inl rfl);have hrun:=wtc (P:=P) hd0 hj hz' w o.type hfd hfo (by omega) (by rw [Nat.zero_add,hjb];exact hb1) (by rw [Nat.zero_add];exact hb2);rw [Nat.zero_add] at hrun;generalize hgc:grownCap w m 0 e=gc at hrun
 have hge:m<=gc:=by rw [<-hgc];exact grownCap_ge w m 0 e
 have hrunop:(execOp a.eval o).run P w=.ok (.value (.slice (some ⟨w.heap.size,0,none⟩) m gc)) (w.drew.alloc (.cells (([]++news).toArray++Builtin.zeroCells z'.cells (gc-m)) e)):=by
  have hrun':=hrun;simp only [List.nil_append] at hrun';simp [execOp,ho,resolve,invoke,builtin,hxv,hyv,hrun']
 have hbl:Below w.heap.size w (w.drew.alloc (.cells (([]++news).toArray++Builtin.zeroCells z'.cells (gc-m)) e)):=((Below.refl _ _).drew).alloc (Nat.le_refl _) _;have hheap':(w.drew.alloc (.cells (([]++news).toArray++Builtin.zeroCells z'.cells (gc-m)) e)).heap[w.heap.size]? = some (.cells (([]++news).toArray++Builtin.zeroCells z'.cells (gc-m)) e (0,0)):=xp1 w.drew _;unfold Oper.wp;rw [hrunop];show K (a.put o.dst _) _;rw [hdst];refine hK _ _ ⟨τ,_,hI.ylj hbl h1 h2 (.slice (some ⟨w.heap.size,0,none⟩) m gc) (.arr [] c' none) rfl rfl (Nat.le_refl _) (by simp [blk]) ?_ (fun t ht=>ht.elim)⟩;refine ⟨w.heap.size,e,news,(Builtin.zeroCells z'.cells (gc-m)).toList,gc,by rw [hcnt'];rfl,?_,?_,fun p hp=>(by cases hp),hu',by rw [hcnt'];exact hge,?_⟩
 . rw [hheap']
   congr 2
   apply Array.ext';simp
 . rw [hflat'];refine hnr.keep (fun b' o u hm hc=>?_);have hl:=World.block_lt_of_cell? w _ hc;exact ⟨fun hh=>hh.elim hm (fun hh=>by simp only [blk] at hh;simp only at hl;omega),(wf2.below hbl b' o u hm hc).2⟩
 . rw [hesz',hnl,Array.length_toList,size_zeroCells,hzs,<-Nat.add_mul];exact Nat.mul_le_mul_right _ (by omega)
def litB (P:Program) (I:List AV) (o:Oper) (x y:Operand) (T:TypeId):OR:=wgg P T fun ti=>vofA I o (orr x++orr y) (w6x I ti x y)
def opL (P : Program) (I : List AV) (o : Oper) : Option OR := match o.op with
 | .buildSlice T n ps=>match n != 0 with
  | true=>some (litA P I o T n ps.toList)
  | false=>none
 | .call c=>match c.callee with
  | .builtin .append=>match c.args.toList,c.argTypes.toList with
   | [x,y],[T,U]=>match zcAt (opd I x) with
    | true=>if T=U then some (litB P I o x y T) else none
    | false=>none
   | _,_=>none
  | _=>none
 | _=>none
def opA0 (P:Program) (I:List AV) (o:Oper):OR:=if isX I o.op=true then .of (opX P I o) else opB P I o
def selO:Option OR->OR->OR
 | some r,_=>r
 | none,r=>r
def opA (P:Program) (lt:Bool) (I:List AV) (o:Oper):OR:=match lt with
 | true=>selO (opL P I o) (opA0 P I o)
 | false=>opA0 P I o
theorem ymz {eff:List (Nat×AV)} (h:opA0 P I o=.eff rd tk eff):vni P o I rd tk eff/\(∀ t∈tk,∀ i,(gt I i).v7d t->i∈rd):=by
 unfold opA0 at h;split at h
 . unfold OR.of at h;split at h
   . rename_i rd' e hx
     cases h;exact ⟨zyl hx,fun t ht=>by cases ht⟩
   . cases h
 . exact zrl h
theorem ywk {args:List AV} (h:opA0 P I o=.call f args rd) (hc:y4n P f args res):vni P o I rd [] (xas o res):=by
 unfold opA0 at h;split at h
 . unfold OR.of at h;split at h<;>cases h
 . exact zqj h hc
theorem wog {args:List AV} (h:opA0 P I o=.fn (wxs P F) args rd) (hc:F args res):vni P o I rd [] (xas o res):=by
 unfold opA0 at h;split at h
 . unfold OR.of at h;split at h<;>cases h
 . exact vn8 h hc
theorem wx9 (h:opA0 P I o=.mk f caps rd) (wml:yss P f) (hF:∀ args res,F args res->y4n P f (args++caps) res) :
 vni P o I rd [] (xas o (.one (.fnp (wxs P F)))):=by
 unfold opA0 at h;split at h
 . unfold OR.of at h;split at h<;>cases h
 . exact wj7 h wml hF
theorem vmy {s:Nat} (h:opA0 P I o=.own f l j s ov rd) {new:OV} (hc:z5b P f l j ov new res)
 (hs:wai (gt I s) ov new=some nw) (hr:wcu s ov res=some res'):vni P o I rd [] ((s,nw)::xas o res'):=by
 unfold opA0 at h;split at h
 . unfold OR.of at h;split at h<;>cases h
 . exact vto h hc hs hr
theorem vwl {eff:List (Nat×AV)} (h:opL P I o=some (.eff rd tk eff)):vni P o I rd tk eff/\(∀ t∈tk,∀ i,(gt I i).v7d t->i∈rd):=by
 unfold opL at h;split at h
 . rename_i T n ps ho;split at h
   . simp only [Option.some.injEq] at h;exact yf8 (by rw [ho]) h
   . cases h
 . rename_i c ho;obtain ⟨callee,args,argTypes⟩:=c;simp only at h;split at h
   . split at h
     . rename_i x y T U ha ht;split at h
       . split at h
         . rename_i hTU;subst hTU;simp only [Option.some.injEq] at h
           have ea:args=#[x,y]:=by cases args;simp at ha;rw [ha]
           have et:argTypes=#[T,T]:=by cases argTypes;simp at ht;rw [ht]
           rw [ea,et] at ho;unfold litB at h;obtain ⟨ti,hti,hk⟩:=yo2 (by simp) h
           have:=zze (fun av ha r hr=>vxn ho hti ha hr) hk
           obtain ⟨h1,h2⟩:=this;exact ⟨h2,by rw [h1];intro t ht;cases ht⟩
         . cases h
       . cases h
     . cases h
   . cases h
 . cases h
def yrx (r:OR):Prop:=r=.bad\/∃ rd tk eff,r=.eff rd tk eff
theorem yhz {k:TI->OR} (h:∀ ti,yrx (k ti)):yrx (wgg P T k):=by
 unfold wgg;split
 . exact h _
 . exact .inl rfl
theorem vus {k:TI->OR} (h:∀ ti,yrx (k ti)):yrx (z4h P ti k):=by
 unfold z4h;split
 . exact yhz h
 . exact .inl rfl
theorem vpf {d:Nat} {se:List (Nat×AV)}:yrx (litE I d rd se b a):=by
 unfold litE;split
 . split
   . exact .inr ⟨_,_,_,rfl⟩
   . exact .inl rfl
 . exact .inl rfl
theorem xal:yrx (vofA I o rd a):=by
 unfold vofA;split
 . unfold OR.of;split
   . exact .inr ⟨_,_,_,rfl⟩
   . exact .inl rfl
 . exact .inl rfl
theorem wel {r:OR} (h:opL P I o=some r):yrx r:=by
 unfold opL at h;split at h
 . split at h
   . cases h;unfold litA;split
     . exact yhz (fun _=>vus (fun _=>vpf))
     . exact .inl rfl
   . cases h
 . split at h
   . split at h
     . split at h
       . split at h
         . cases h;exact yhz (fun _=>xal)
         . cases h
       . cases h
     . cases h
   . cases h
 . cases h
theorem zlv {lt:Bool} {eff:List (Nat×AV)} (h:opA P lt I o=.eff rd tk eff):vni P o I rd tk eff/\(∀ t∈tk,∀ i,(gt I i).v7d t->i∈rd):=by
 unfold opA at h;split at h
 . unfold selO at h;split at h
   . rename_i r hr;subst h;exact vwl (by assumption)
   . exact ymz h
 . exact ymz h
theorem vvl {lt:Bool} {r:OR} (h:opA P lt I o=r) (h1:r≠.bad) (h2:∀ rd tk e,r≠.eff rd tk e):opA0 P I o=r:=by
 unfold opA at h;split at h
 . unfold selO at h;split at h
   . subst h
     rcases wel (P:=P) (I:=I) (o:=o) (by assumption) with h3 | ⟨rd,tk,e,h3⟩
     . exact absurd h3 h1
     . exact absurd h3 (h2 _ _ _)
   . exact h
 . exact h
inductive GR where
 | plain
 | when (d:Nat) (c b:Bool)
 | skip (d:Nat)
 | bad
def vmw (ops:List Oper) (I:List AV) (o:Oper):GR:=match o.guard with
 | none=>.plain
 | some (j,b)=>match (ops[j]?).bind (·.dst) with
  | some d=>match gt I d with
   | .one (.raw (.bool c))=>.when d c b
   | .undef=>.skip d
   | _=>.bad
  | none=>.bad
def BadK (_o:Op) (_σ:List AV):Prop:=False
def BadC (_c:Operand) (_σ:List AV):Prop:=False
def y5t (P:Program) (f:FuncId) (args:List AV) (K:Bool->AV->Prop):Prop:=∃ res,y4n P f args res/\K true res
def FnK (P:Program) (p:(Nat->Nat->Prop)->World->Value->Prop) (args:List AV) (K:Bool->AV->Prop):Prop:=∃ F,p=wxs P F/\∃ res,F args res/\K true res
def MkK (P:Program) (f:FuncId) (caps:List AV) (K:Bool->(List AV->AV->Prop)->Prop):Prop:=∃ F,yss P f/\(∀ args res,F args res->y4n P f (args++caps) res)/\K true F
def OwnK (P:Program) (f:FuncId) (l:List AV) (j:Nat) (ov:OV) (k:Bool->OV->AV->Prop):Prop:=∃ new res,z5b P f l j ov new res/\k true new res
def ownF (o:Oper) (I:List AV) (s:Nat) (rd:List Nat) (k:Bool->List Nat->List Nat->List (Nat×AV)->Prop) (b:Bool) (nw res:Option AV):Prop:=match nw,res with
 | some nw,some r=>k b rd [] ((s,nw)::xas o r)
 | _,_=>BadK o.op I
def vdc (c b:Bool) (X Y:Bool->Prop):Prop:=(c=b->X true)/\(c=(!b)->Y true)
def ymv (c:Bool) (X Y:Bool->Prop):Prop:=(c=true->X true)/\(c=false->Y true)
def doF (P:Program) (x:OR) (o:Oper) (I:List AV) (b:Bool) (k:Bool->List Nat->List Nat->List (Nat×AV)->Prop):Prop:=match x with
 | .eff rd tk e=>k b rd tk e
 | .call f args rd=>y5t P f args (fun b res=>k b rd [] (xas o res))
 | .fn p args rd=>FnK P p args (fun b res=>k b rd [] (xas o res))
 | .mk f caps rd=>MkK P f caps (fun b F=>k b rd [] (xas o (.one (.fnp (wxs P F)))))
 | .own f l j s ov rd=>OwnK P f l j ov (fun b new res=>ownF o I s rd k b (wai (gt I s) ov new) (wcu s ov res))
 | .bad=>BadK o.op I
def xtk (I:List AV) (o:Oper) (d:Nat) (b:Bool) (k:Bool->List Nat->List Nat->List (Nat×AV)->Prop):Prop:=match o.dst with
 | some e=>if nh I e then k b [d,e] [] [(e,.undef)] else BadK o.op I
 | none=>BadK o.op I
def onD (d:Nat) (o:Oper) (I:List AV) (k:Bool->List Nat->List Nat->List (Nat×AV)->Prop) (b:Bool) (rd tk:List Nat) (e:List (Nat×AV)):Prop:=match tk with
 | []=>k b (d::rd) [] e
 | _=>BadK o.op I
def gdF (P:Program) (lt:Bool) (g:GR) (o:Oper) (I:List AV) (b:Bool) (k:Bool->List Nat->List Nat->List (Nat×AV)->Prop):Prop:=match g with
 | .plain=>doF P (opA P lt I o) o I b k
 | .when d c b'=>vdc c b' (fun b=>doF P (opA P lt I o) o I b (onD d o I k)) (fun b=>xtk I o d b k)
 | .skip d=>xtk I o d b k
 | .bad=>BadK o.op I
theorem von :
 (vmw ops.toList I o=.plain->o.guard=none)/\
 (∀ d c b,vmw ops.toList I o=.when d c b->∃ j,o.guard=some (j,b)/\(ops[j]?).bind (·.dst)=some d/\gt I d=.one (.raw (.bool c)))/\
 (∀ d,vmw ops.toList I o=.skip d->∃ j b,o.guard=some (j,b)/\(ops[j]?).bind (·.dst)=some d/\gt I d=.undef):=by
 unfold vmw
 split
 . rename_i hg;exact ⟨fun _=>hg,fun d c b h=>(by cases h),fun d h=>(by cases h)⟩
 . rename_i j b hg;simp only [Array.getElem?_toList]
   split
   . rename_i d hd
     split
     . rename_i c hc;exact ⟨fun h=>(by cases h),fun d' c' b' h=>by cases h;exact ⟨j,hg,hd,hc⟩,fun d h=>(by cases h)⟩
     . rename_i hc;exact ⟨fun h=>(by cases h),fun d' c' b' h=>(by cases h),fun d' h=>by cases h;exact ⟨j,b,hg,hd,hc⟩⟩
     . exact ⟨fun h=>(by cases h),fun d' c' b' h=>(by cases h),fun d h=>(by cases h)⟩
   . exact ⟨fun h=>(by cases h),fun d' c' b' h=>(by cases h),fun d h=>(by cases h)⟩
theorem zvq {lt:Bool} (h:doF P (opA P lt I o) o I b k) :
 ∃ b' rd tk e,vni P o I rd tk e/\(∀ t∈tk,∀ i,(gt I i).v7d t->i∈rd)/\k b' rd tk e:=by
 unfold doF at h;split at h
 . rename_i rd tk e he;exact ⟨_,_,_,_,(zlv he).1,(zlv he).2,h⟩
 . rename_i he;obtain ⟨res,h1,h2⟩:=h;exact ⟨_,_,_,_,ywk (vvl he (by simp) (by simp)) h1,by simp,h2⟩
 . rename_i he;obtain ⟨F,rfl,res,h1,h2⟩:=h;exact ⟨_,_,_,_,wog (vvl he (by simp) (by simp)) h1,by simp,h2⟩
 . rename_i he;obtain ⟨F,hc,hF,h2⟩:=h;exact ⟨_,_,_,_,wx9 (vvl he (by simp) (by simp)) hc hF,by simp,h2⟩
 . rename_i he;obtain ⟨new,res,h1,h2⟩:=h;unfold ownF at h2;split at h2
   . rename_i hs hr;exact ⟨_,_,_,_,vmy (vvl he (by simp) (by simp)) h1 hs hr,by simp,h2⟩
   . exact h2.elim
 . exact h.elim
theorem ze3 {d:Nat} (h:xtk I o d b k):∃ e,o.dst=some e/\nh I e=true/\k b [d,e] [] [(e,.undef)]:=by
 unfold xtk at h;split at h
 . rename_i e he;split at h
   . rename_i hn;exact ⟨e,he,hn,h⟩
   . exact h.elim
 . exact h.elim
theorem v0h {lt:Bool} (h:gdF P lt (vmw ops.toList I o) o I b k) :
 ∃ b' rd tk e,GStep P ops o I rd tk e/\k b' rd tk e:=by
 unfold gdF at h;split at h
 . rename_i hg;obtain ⟨b',rd,tk,e,h1,h2,h3⟩:=zvq h;exact ⟨b',rd,tk,e,GStep.plain (von.1 hg) h2 h1,h3⟩
 . rename_i d c b' hg;obtain ⟨j,h1,h2,h3⟩:=von.2.1 d c b' hg;obtain ⟨hx,hy⟩:=h;by_cases hcb:c=b'
   . subst hcb;obtain ⟨b'',rd,tk,e,ha,hb,hk⟩:=zvq (hx rfl);unfold onD at hk;split at hk
     . exact ⟨_,_,_,_,GStep.taken h1 h2 h3 ha,hk⟩
     . exact hk.elim
   . have hn:c = !b':=by cases c<;>cases b'<;>simp_all
     obtain ⟨e,he,hnh,hk⟩:=ze3 (hy hn);exact ⟨_,_,_,_,GStep.vyy h1 h2 (.inl (by rw [h3,hn])) he hnh,hk⟩
 . rename_i d hg;obtain ⟨j,b',h1,h2,h3⟩:=von.2.2 d hg;obtain ⟨e,he,hnh,hk⟩:=ze3 h;exact ⟨_,_,_,_,GStep.vyy h1 h2 (.inr h3) he hnh,hk⟩
 . exact h.elim
def RunF (P:Program) (lt:Bool) (ops:List Oper):Bool->List Oper->List AV->(Bool->List AV->Prop)->Prop
 | b,[],I,K=>K b I
 | b,o::r,I,K=>gdF P lt (vmw ops I o) o I b (fun b _ _ e=>RunF P lt ops b r (app e I) K)
theorem RunF.run {lt:Bool} {ops:Array Oper}:∀(l:List Oper) (b:Bool) (I:List AV) (K:Bool->List AV->Prop),RunF P lt ops.toList b l I K->Run P ops l I (fun I=>∃ b,K b I)
 | [],b,_,_,h=>⟨b,h⟩
 | o::r,b,I,K,h=>by
  unfold RunF at h;obtain ⟨b',rd,tk,e,h1,h2⟩:=v0h h;exact ⟨_,_,_,h1,RunF.run r b' _ K h2⟩
def IndK (ops:List Oper) (acc:List SR) (σ0:List AV) (k:Bool->Prop):Prop:=indep ops acc σ0=true/\k true
def RunG (P:Program) (lt:Bool) (ops:List Oper) (σ0:List AV):Bool->List Oper->List SR->List AV->(Bool->List AV->Prop)->Prop
 | _,[],acc,I,K=>IndK ops acc σ0 (fun b=>K b I)
 | b,o::r,acc,I,K=>gdF P lt (vmw ops I o) o I b (fun b rd tk e=>RunG P lt ops σ0 b r (acc++[⟨rd,tk,e⟩]) (app e I) K)
theorem RunG.runD {lt:Bool} {ops:Array Oper} {σ0:List AV}:∀(l:List Oper) (b:Bool) (acc:List SR) (I:List AV) (K:Bool->List AV->Prop),RunG P lt ops.toList σ0 b l acc I K->RunD P ops ops.toList σ0 l acc I (fun I=>∃ b,K b I)
 | [],b,_,_,_,h=>⟨h.1,true,h.2⟩
 | o::r,b,acc,I,K,h=>by
  unfold RunG at h;obtain ⟨b',rd,tk,e,h1,h2⟩:=v0h h;exact ⟨_,_,_,h1,RunG.runD r b' _ _ K h2⟩
def ycn (next:Bool->List AV->Prop) (Q:Exit->Bool->List AV->Prop):Exit->Bool->List AV->Prop
 | .normal=>next
 | .exit id=>Q (.exit id)
 | .goto l=>Q (.goto l)
 | .ret=>Q .ret
 | .panic c=>Q (.panic c)
 | .outgrown=>Q .outgrown
def vtx (id:Nat) (Q:Exit->Bool->List AV->Prop):Exit->Bool->List AV->Prop
 | .normal=>Q .normal
 | .exit j=>if j=id then Q .normal else Q (.exit j)
 | .goto l=>Q (.goto l)
 | .ret=>Q .ret
 | .panic c=>Q (.panic c)
 | .outgrown=>Q .outgrown
def outQ (Q:Exit->Bool->List AV->Prop):Exit->List AV->Prop:=fun e I=>∃ b,Q e b I
def wfy (P:Program) (_G:List (Nat×List Gh)) (c:Code) (Q:Exit->Bool->List AV->Prop) (I:List AV):Prop:=zus P (.loop c) (outQ Q) I
def ysi (P:Program) (k:Bool->Prop):Prop:=P.follows .mixedOrders=true/\k true
def wth (_:Program) (c:Operand) (I:List AV) (X Y:Bool->Prop):AV->Prop
 | .one (.raw (.bool p))=>ymv p X Y
 | _=>BadC c I
def ghOf:List (Nat×List Gh)->Nat->List Gh
 | [],_=>[]
 | (i,l)::r,j=>if i=j then l else ghOf r j
def yeg:Code->Option Nat
 | .region id _ _=>some id
 | .seq x _=>yeg x
 | .block _ x=>yeg x
 | .loop x=>yeg x
 | _=>none
def x5i:List Gh->Bool
 | []=>false
 | .join::_=>true
 | .frz _::r=>x5i r
 | .any _::r=>x5i r
 | .mv _ _::r=>x5i r
 | .lit::r=>x5i r
def ya9:List Gh->Bool
 | []=>false
 | .lit::_=>true
 | .frz _::r=>ya9 r
 | .any _::r=>ya9 r
 | .mv _ _::r=>ya9 r
 | .join::r=>ya9 r
def z7d:List (Nat×List Gh)->Code->Bool
 | [],_=>false
 | g::G,y=>match yeg y with
  | some id=>x5i (ghOf (g::G) id)
  | none=>false
def xks (P:Program) (_G:List (Nat×List Gh)) (x y:Code) (Q:Exit->Bool->List AV->Prop) (I:List AV):Prop:=zus P (.seq x y) (outQ Q) I
def seqF (c:Bool) (A B:Bool->Prop):Prop:=match c with
 | true=>A true
 | false=>B true
def RC (P:Program) (G:List (Nat×List Gh)):Code->Bool->(Exit->Bool->List AV->Prop)->List AV->Prop
 | .skip,b,Q,I=>Q .normal b I
 | .region id ops false,b,Q,I=>RunF P (ya9 (ghOf G id)) ops.toList b ops.toList (ghL (ghOf G id) I) (Q .normal)
 | .region id ops true,b,Q,I=>ysi P (fun _=>RunG P (ya9 (ghOf G id)) ops.toList (ghL (ghOf G id) I) b ops.toList [] (ghL (ghOf G id) I) (Q .normal))
 | .seq x y,b,Q,I=>seqF (z7d G y) (fun _=>xks P G x y Q I) (fun _=>RC P G x b (ycn (fun b I=>RC P G y b Q I) Q) I)
 | .cond c x y,_,Q,I=>wth P c I (fun b=>RC P G x b Q I) (fun b=>RC P G y b Q I) (opd I c)
 | .block id x,b,Q,I=>RC P G x b (vtx id Q) I
 | .loop x,_,Q,I=>wfy P G x Q I
 | .exit id,b,Q,I=>Q (.exit id) b I
 | .ret,b,Q,I=>Q .ret b I
 | _,_,_,_=>False
end Go.Slot
