/- The proof, part X8: Mt, Mu. -/
import Derived.Test.YtpkininnjhbeaaaGreatDoorX7
namespace Go.Slot
open Go Go.RowKit
variable {P:Program}
variable {E:Env} {τ:Nat->TV} {M:Nat->Nat->Prop} {a:Act} {w w':World} {j:Nat} {fn:Func}
def ch (a0 a1 a2 a3 a4 a5 a6 a7 a8 a9 a10 a11 a12 a13 a14 a15:AV) (r:List AV):List AV:=a0::a1::a2::a3::a4::a5::a6::a7::a8::a9::a10::a11::a12::a13::a14::a15::r
def vh6:List AV->List AV
 | a0::a1::a2::a3::a4::a5::a6::a7::a8::a9::a10::a11::a12::a13::a14::a15::r=>ch a0 a1 a2 a3 a4 a5 a6 a7 a8 a9 a10 a11 a12 a13 a14 a15 (vh6 r)
 | l=>l
theorem vsc:∀ l:List AV,vh6 l=l
 | []=>rfl
 | [a0]=>rfl
 | [a0,a1]=>rfl
 | [a0,a1,a2]=>rfl
 | [a0,a1,a2,a3]=>rfl
 | [a0,a1,a2,a3,a4]=>rfl
 | [a0,a1,a2,a3,a4,a5]=>rfl
 | [a0,a1,a2,a3,a4,a5,a6]=>rfl
 | [a0,a1,a2,a3,a4,a5,a6,a7]=>rfl
 | [a0,a1,a2,a3,a4,a5,a6,a7,a8]=>rfl
 | [a0,a1,a2,a3,a4,a5,a6,a7,a8,a9]=>rfl
 | [a0,a1,a2,a3,a4,a5,a6,a7,a8,a9,a10]=>rfl
 | [a0,a1,a2,a3,a4,a5,a6,a7,a8,a9,a10,a11]=>rfl
 | [a0,a1,a2,a3,a4,a5,a6,a7,a8,a9,a10,a11,a12]=>rfl
 | [a0,a1,a2,a3,a4,a5,a6,a7,a8,a9,a10,a11,a12,a13]=>rfl
 | [a0,a1,a2,a3,a4,a5,a6,a7,a8,a9,a10,a11,a12,a13,a14]=>rfl
 | a0::a1::a2::a3::a4::a5::a6::a7::a8::a9::a10::a11::a12::a13::a14::a15::r=>by
  have ih:=vsc r;show ch a0 a1 a2 a3 a4 a5 a6 a7 a8 a9 a10 a11 a12 a13 a14 a15 (vh6 r)=_;rw [ih];rfl
def AV.frzd:AV->AV
 | .box cs=>.elt (vc2 cs)
 | .arr _ c none=>.one c
 | av=>av
variable {I:List AV}
def zma (s:Nat) (hv:AV) (i:Nat) (av:AV):AV:=
 if i=s then hv.frzd else match av with
 | .ptr s' off=>if s'=s then (match hv with | .box cs=>.elt (vc2 (cs.drop off)) | _=>.any) else av
 | .asl s'=>if s'=s then (match hv with | .arr _ c none=>.one c | _=>.any) else av
 | .awn s' m lo n=>if s'=s then (match hv with | .arr _ c none=>if lo+n<=c.cnt/\m=c.esz then .one (c.sub lo n) else .any | _=>.any) else av
 | .pel s' m i f=>if s'=s then (match hv with | .arr _ c none=>if m=c.esz then (match c.at i f with | some cs=>.elt cs | none=>.any) else .any | _=>.any) else av
 | _=>av
def vn0 (s:Nat) (hv:AV):Nat->List AV->List AV
 | _,[]=>[]
 | i,av::r=>zma s hv i av::vn0 s hv (i+1) r
def frz (s:Nat) (I:List AV):List AV:=match gt I s with
 | .box cs=>vn0 s (.box cs) 0 I
 | .arr pre c none=>vn0 s (.arr pre c none) 0 I
 | _=>I
theorem xau (s:Nat) (hv:AV):∀(k:Nat) (I:List AV) (i:Nat),(vn0 s hv k I)[i]? = (I[i]?).map (zma s hv (k+i))
 | _,[],i=>by simp [vn0]
 | k,av::r,0=>by simp [vn0]
 | k,av::r,i+1=>by
  have:=xau s hv (k+1) r i
  simpa [vn0,Nat.add_assoc,Nat.add_comm 1 i] using this
theorem x5l (s:Nat) (hv:AV):∀(k:Nat) (I:List AV),(vn0 s hv k I).length=I.length
 | _,[]=>rfl
 | k,av::r=>by simp [vn0,x5l s hv (k+1) r]
theorem RelI.freeze (h:RelI E τ M I a w) {s:Nat} {hv:AV} (hs:I[s]? = some hv) (hf:hv.fresh=true) :
 ∃ M',RelI E τ M' (vn0 s hv 0 I) a w:=by
 have hh:hv.xeo=true:=by cases hv<;>first | rfl | cases hf
 obtain ⟨b,hb⟩:∃ b,blk (a.tmps.getD s Go.undef)=b:=⟨_,rfl⟩;have hold:=h.hold s hv hs hh;rw [hb] at hold;have hN:=hold.2.2.1 hf;refine ⟨fun b' o=>M b' o/\b'≠b,?_⟩;have hk:wf2 M (fun b' o=>M b' o/\b'≠b) w w:=wf2.shrink w (fun _ _ h=>h.1)
 have hMb:∀ o,¬(M b o/\b≠b):=fun o h=>h.2 rfl
 have hget:∀(i:Nat) (y:AV),(vn0 s hv 0 I)[i]? = some y->∃ x,I[i]? = some x/\y=zma s hv i x:=fun i y hi=>by
  rw [xau] at hi;simp only [Nat.zero_add,Option.map_eq_some_iff] at hi;obtain ⟨x,hx,rfl⟩:=hi;exact ⟨x,hx,rfl⟩
 have hss:=h.slot s hv hs
 have boxrd:∀ cs,hv=.box cs->∃ vs:List Value,a.tmps.getD s Go.undef=.pointer (some ⟨b,0,none⟩)/\(∀ off j u,(vs.drop off)[j]? = some u->w.cell? ⟨b,off+j,none⟩=some u)/\RdD (fun b' o=>M b' o/\b'≠b) w vs (vc2 cs):=fun cs e=>by
  subst e;obtain ⟨b',vs,T,e1,hheap,hr⟩:=hss
  have:b'=b:=by rw [e1] at hb;exact hb
  subst this;exact ⟨vs,e1,fun off j u hj=>xk2 hheap off j u hj,hr.bare.keep hk⟩
 have arrrd:∀ pre c,hv=.arr pre c none->∃ cap,a.tmps.getD s Go.undef=.slice (some ⟨b,pre.length,none⟩) c.cnt cap/\RdC (fun b' o=>M b' o/\b'≠b) w (.slice (some ⟨b,pre.length,none⟩) c.cnt cap) c/\c.uni/\
  ∃ vs,RdD (fun b' o=>M b' o/\b'≠b) w vs c.flat/\∀ i u,vs[i]? = some u->w.cell? ⟨b,pre.length+i,none⟩=some u:=fun pre c e=>by
  subst e;obtain ⟨b',T,vs,q,cap,e1,hheap,hr,_,hu,hcap,_⟩:=hss
  have:b'=b:=by rw [e1] at hb;exact hb
  subst this;refine ⟨cap,e1,viy hheap (hr.keep hk) hu hcap hMb,hu,vs,hr.keep hk,fun i u hi=>?_⟩;have hlt:i<vs.length:=(List.getElem?_eq_some_iff.1 hi).1;simp only [World.cell?,hheap];simp only [List.getElem?_toArray];rw [List.getElem?_append_right (by omega),List.getElem?_append_left (by omega)];rw [show pre.length+i-pre.length=i by omega];exact hi
 have hslot:∀(i:Nat) (x:AV),I[i]? = some x->xb1 (fun b' o=>M b' o/\b'≠b) w τ a.tmps (a.tmps.getD i Go.undef) (zma s hv i x)/\(∀ t,(zma s hv i x).v7d t->live I t)/\
  ((zma s hv i x).xeo=true->i≠s/\zma s hv i x=x)/\(∀ s' b',(zma s hv i x).rf=some (s',b')->s'≠s/\i≠s/\zma s hv i x=x):=fun i x hi=>by
  have same:i≠s->(∀ s' b',x.rf=some (s',b')->s'≠s)->xb1 (fun b' o=>M b' o/\b'≠b) w τ a.tmps (a.tmps.getD i Go.undef) x/\(∀ t,x.v7d t->live I t)/\(x.xeo=true->i≠s/\x=x)/\(∀ s' b',x.rf=some (s',b')->s'≠s/\i≠s/\x=x):=fun his hrf=>
   ⟨(h.slot i x hi).keep hk (fun _ _=>rfl) (fun _ _ _=>rfl) (fun _=>rfl),fun t ht=>⟨i,x,hi,ht⟩,fun _=>⟨his,rfl⟩,fun s' b' hr=>⟨hrf s' b' hr,his,rfl⟩⟩
  have dat:∀ y:AV,xb1 (fun b' o=>M b' o/\b'≠b) w τ a.tmps (a.tmps.getD i Go.undef) y->(∀ t,¬y.v7d t)->y.xeo=false->y.rf=none->
   xb1 (fun b' o=>M b' o/\b'≠b) w τ a.tmps (a.tmps.getD i Go.undef) y/\(∀ t,y.v7d t->live I t)/\(y.xeo=true->i≠s/\y=x)/\(∀ s' b',y.rf=some (s',b')->s'≠s/\i≠s/\y=x):=fun y h1 h2 h3 h4=>
   ⟨h1,fun t ht=>absurd ht (h2 t),fun e=>(by rw [h3] at e;cases e),fun s' b' e=>(by rw [h4] at e;cases e)⟩
  have anyc:=dat .any trivial (fun _ ht=>ht) rfl rfl;unfold zma;by_cases his:i=s
  . rw [if_pos his];subst his
    cases hv with
    | box cs=>
     obtain ⟨vs,e1,hc,hr⟩:=boxrd cs rfl;exact dat _ ⟨b,0,vs,e1,fun j u hj=>⟨fun hx=>hx.2 rfl,hc 0 j u (by simpa using hj)⟩,hr⟩ (fun _ ht=>ht) rfl rfl
    | arr pre c post=>
     cases post with
     | some _=>cases hf
     | none=>
      obtain ⟨cap,e1,hr,_⟩:=arrrd pre c rfl;exact dat (.one c) (by rw [e1];exact RdT.of hr) (fun t ht=>hr.wi1 t ht) rfl rfl
    | _=>cases hf
  . rw [if_neg his];have hx:=h.slot i x hi
    cases x with
    | ptr s' off =>
     simp only
     split
     . rename_i e;subst e
       cases hv with
       | box cs=>
        obtain ⟨vs,e1,hc,hr⟩:=boxrd cs rfl;have hx:a.tmps.getD i Go.undef=.pointer (some ⟨blk (a.tmps.getD s' Go.undef),off,none⟩):=hx;rw [hb] at hx;refine dat _ ⟨b,off,vs.drop off,hx,fun j u hj=>⟨fun hx=>hx.2 rfl,hc off j u hj⟩,?_⟩ (fun _ ht=>ht) rfl rfl;rw [yot];exact hr.drop off
       | _=>exact anyc
     . rename_i e;exact same his (fun s' b' hr=>by simp only [AV.rf,Option.some.injEq,Prod.mk.injEq] at hr;rw [<-hr.1];exact e)
    | asl s' =>
     simp only
     split
     . rename_i e;subst e
       cases hv with
       | arr pre c post=>
        cases post with
        | some _=>cases hf
        | none=>
         obtain ⟨cap,e1,hr,_⟩:=arrrd pre c rfl;have hx:a.tmps.getD i Go.undef=a.tmps.getD s' Go.undef:=hx;exact dat (.one c) (by rw [hx,e1];exact RdT.of hr) (fun t ht=>hr.wi1 t ht) rfl rfl
       | _=>exact anyc
     . rename_i e;exact same his (fun s' b' hr=>by simp only [AV.rf,Option.some.injEq,Prod.mk.injEq] at hr;rw [<-hr.1];exact e)
    | awn s' m lo n =>
     simp only
     split
     . rename_i e;subst e
       cases hv with
       | arr pre c post =>
        cases post with
        | some _=>cases hf
        | none=>
         simp only
         split
         . rename_i hc;obtain ⟨hfit,rfl⟩:=hc;obtain ⟨cap,e1,hr,hu,_⟩:=arrrd pre c rfl;obtain ⟨ad,cap',e2,had,hn,_⟩:=hx;rw [e1] at had
           have:=hr.sub hu hfit (ad:=ad) (fun hne=>had (.inl hne)) hn
           exact dat (.one (c.sub lo n)) (by rw [e2];exact RdT.of this) (fun t ht=>this.wi1 t ht) rfl rfl
         . exact anyc
       | _=>exact anyc
     . rename_i e;exact same his (fun s' b' hr=>by simp only [AV.rf,Option.some.injEq,Prod.mk.injEq] at hr;rw [<-hr.1];exact e)
    | pel s' m i' f =>
     simp only
     split
     . rename_i e;subst e
       cases hv with
       | arr pre c post =>
        cases post with
        | some _=>cases hf
        | none=>
         simp only
         split
         . rename_i hm;subst hm
           split
           . rename_i cs hat;obtain ⟨cap,e1,_,hu,vs,hr,hcl⟩:=arrrd pre c rfl;obtain ⟨hi',r,hdrop⟩:=Cell.zgr hu hat;have hx:a.tmps.getD i Go.undef=.pointer (some ⟨blk (a.tmps.getD s' Go.undef),offV (a.tmps.getD s' Go.undef)+i'*c.esz+f,none⟩):=hx;rw [e1] at hx;have hfull:=hr.drop (i'*c.esz+f);rw [hdrop] at hfull;have hrd':=hfull.take cs.length;rw [List.take_left] at hrd';refine dat (.elt cs) ⟨b,pre.length+i'*c.esz+f,_,hx,fun j u hj=>⟨fun hx=>hx.2 rfl,?_⟩,hrd'⟩ (fun _ ht=>ht) rfl rfl;rw [List.getElem?_take] at hj;split at hj
             . rw [List.getElem?_drop] at hj
               have:=hcl _ u hj
               rw [show pre.length+i'*c.esz+f+j=pre.length+(i'*c.esz+f+j) by omega];exact this
             . cases hj
           . exact anyc
         . exact anyc
       | _=>exact anyc
     . rename_i e;exact same his (fun s' b' hr=>by simp only [AV.rf,Option.some.injEq,Prod.mk.injEq] at hr;rw [<-hr.1];exact e)
    | _=>exact same his (fun s' b' hr=>by cases hr)
 have hlive:∀ t,live (vn0 s hv 0 I) t->live I t:=fun t ⟨i,y,hi,hy⟩=>by
  obtain ⟨x,hx,rfl⟩:=hget i y hi;exact (hslot i x hx).2.1 t hy
 refine RelI.mk h.hd (by rw [x5l];exact h.hs) ?_ ?_ (fun b' o hm=>h.mb b' o hm.1) ?_ ?_ ?_ ?_ ?_ ?_ h.size h.os h.tape h.output h.frame
 . intro i y hi;obtain ⟨x,hx,rfl⟩:=hget i y hi;exact (hslot i x hx).1
 . intro b' o hm;refine ⟨h.m0 b' o hm,fun e=>?_⟩
   have:=E.hM b' o hm
   rw [e] at this;exact absurd this (by have:=hN;unfold Env.N at this;omega)
 . intro i y hi hy;obtain ⟨x,hx,rfl⟩:=hget i y hi;obtain ⟨hne,he⟩:=(hslot i x hx).2.2.1 hy;rw [he] at hy ⊢;have h1:=h.hold i x hx hy;refine ⟨fun o=>⟨h1.1 o,fun e=>hne ?_⟩,h1.2⟩;exact h.inj i s x hv hx hs hy hh (e.trans hb.symm)
 . intro i j y z hi hj hy hz;obtain ⟨x,hx,rfl⟩:=hget i y hi;obtain ⟨x',hx',rfl⟩:=hget j z hj;obtain ⟨_,he⟩:=(hslot i x hx).2.2.1 hy;obtain ⟨_,he'⟩:=(hslot j x' hx').2.2.1 hz;rw [he] at hy;rw [he'] at hz;exact h.inj i j x x' hx hx' hy hz
 . intro i y s' b' hi hr;obtain ⟨x,hx,rfl⟩:=hget i y hi;obtain ⟨hne,_,he⟩:=(hslot i x hx).2.2.2 s' b' hr;rw [he] at hr;obtain ⟨hv',h1,h2⟩:=h.refs i x s' b' hx hr;refine ⟨hv',?_,h2⟩;rw [xau,h1];simp only [Option.map_some,Nat.zero_add,Option.some.injEq];unfold zma;rw [if_neg hne]
   cases hv'<;>first | rfl | (cases b'<;>cases h2)
 . intro t ht
   rcases h.toks t (hlive t ht) with h' | ⟨e,n,xs,ho,hm⟩
   . exact .inl h'
   . rcases ho.2 with ⟨h1,_⟩ | ⟨g,cap,cur,hv',hg,hh',hnc,r⟩
     . exact .inl ⟨none,h1⟩
     . cases cap with
       | zero=>exact .inl ⟨some ⟨g,0,none⟩,by rw [hv'];simp at hnc;rw [hnc]⟩
       | succ cap=>
        refine .inr ⟨e,n,xs,⟨ho.1,.inr ⟨g,cap+1,cur,hv',hg,hh',hnc,r⟩⟩,fun g' hg' o ho'=>⟨hm g' hg' o ho',fun e=>?_⟩⟩;subst e
        have hgg:g'=g:=by rw [hv'] at hg';simpa [Value.ownBlock] using hg'.symm
        exact h.tbox t s hv (hlive t ht) hs hh (by rw [hv',hb,hgg];rfl)
 . exact fun t t' g ht ht'=>h.tinj t t' g (hlive t ht) (hlive t' ht')
 . intro t i y ht hi hy;obtain ⟨x,hx,rfl⟩:=hget i y hi;obtain ⟨_,he⟩:=(hslot i x hx).2.2.1 hy;rw [he] at hy;exact h.tbox t i x (hlive t ht) hx hy
theorem StLe.frz (s:Nat) (I:List AV):StLe I (Go.Slot.frz s I):=by
 unfold Go.Slot.frz
 split
 . rename_i cs hg;intro E a w ⟨τ,M,hI⟩;obtain ⟨M',h'⟩:=hI.freeze (y94 hg (by simp)) rfl;exact ⟨τ,M',h'⟩
 . rename_i pre c hg;intro E a w ⟨τ,M,hI⟩;obtain ⟨M',h'⟩:=hI.freeze (y94 hg (by simp)) rfl;exact ⟨τ,M',h'⟩
 . exact StLe.refl I
inductive Gh where
 | frz (s:Nat)
 | any (s:Nat)
 | mv (s t:Nat)
 | join
 | lit
def y0x (s:Nat) (I:List AV):List AV:=if nh I s then I.set s .any else I
theorem LeS.y0x (s:Nat) (I:List AV):LeS I (I.set s .any):=by
 induction I generalizing s with
 | nil=>exact .nil
 | cons a I ih=>
  cases s with
  | zero=>exact .cons (.any a) (LeS.refl I)
  | succ s=>exact .cons (.refl a) (ih s)
theorem StLe.y0x (s:Nat) (I:List AV):StLe I (Go.Slot.y0x s I):=by
 unfold Go.Slot.y0x
 split
 . rename_i hn;intro E a w ⟨τ,M,hI⟩;obtain ⟨old,hs,ho⟩:=xd0 hn;have hlt:s<I.length:=(List.getElem?_eq_some_iff.1 hs).1
   have hnot:∀ i x,I[i]? = some x->x.xeo=true->i≠s:=fun i x hi hx e=>by
    subst e;rw [hs] at hi;cases hi;rw [ho] at hx;cases hx
   have hlive:∀ t,live (I.set s .any) t->live I t:=fun t ⟨i,x,hi,hx⟩=>by
    rcases getElem?_set_cases hi with ⟨_,rfl⟩ | ⟨_,hi⟩
    . exact hx.elim
    . exact ⟨i,x,hi,hx⟩
   refine ⟨τ,M,RelI.mk hI.hd (by simpa using hI.hs) ?_ hI.m0 hI.mb ?_ ?_ ?_ (fun t ht=>hI.toks t (hlive t ht)) (fun t t' g h1 h2=>hI.tinj t t' g (hlive t h1) (hlive t' h2)) ?_ hI.size hI.os hI.tape hI.output hI.frame⟩
   . intro i x hi
     rcases getElem?_set_cases hi with ⟨_,rfl⟩ | ⟨_,hi⟩
     . exact trivial
     . exact hI.slot i x hi
   . intro i x hi hx
     rcases getElem?_set_cases hi with ⟨_,rfl⟩ | ⟨_,hi⟩
     . cases hx
     . exact hI.hold i x hi hx
   . intro i j x y hi hj hx hy
     rcases getElem?_set_cases hi with ⟨_,rfl⟩ | ⟨_,hi⟩
     . cases hx
     . rcases getElem?_set_cases hj with ⟨_,rfl⟩ | ⟨_,hj⟩
       . cases hy
       . exact hI.inj i j x y hi hj hx hy
   . intro i x s' b hi hr
     rcases getElem?_set_cases hi with ⟨_,rfl⟩ | ⟨_,hi⟩
     . cases hr
     . obtain ⟨hv,h1,h2⟩:=hI.refs i x s' b hi hr;exact ⟨hv,by rw [List.getElem?_set_ne (Ne.symm (hnot s' hv h1 (AV.x61 h2)))];exact h1,h2⟩
   . intro t i x ht hi hx
     rcases getElem?_set_cases hi with ⟨_,rfl⟩ | ⟨_,hi⟩
     . cases hx
     . exact hI.tbox t i x (hlive t ht) hi hx
 . exact StLe.refl I
def hitB (s i:Nat) (av:AV):Bool:=if i=s then true else match av.rf with
 | some (s',_)=>s'==s
 | none=>false
def zzc (s i:Nat) (av:AV):AV:=if hitB s i av=true then .any else av
def voy (s:Nat):Nat->List AV->List AV
 | _,[]=>[]
 | i,av::r=>zzc s i av::voy s (i+1) r
def yga (s:Nat) (I:List AV):List AV:=voy s 0 I
theorem vuc (s:Nat):∀(k:Nat) (I:List AV) (i:Nat),(voy s k I)[i]? = (I[i]?).map (zzc s (k+i))
 | _,[],i=>by simp [voy]
 | k,av::r,0=>by simp [voy]
 | k,av::r,i+1=>by
  simp only [voy,List.getElem?_cons_succ];rw [vuc s (k+1) r i,show k+1+i=k+(i+1) by omega]
theorem y8r (s:Nat):∀(k:Nat) (I:List AV),(voy s k I).length=I.length
 | _,[]=>rfl
 | k,av::r=>by simp [voy,y8r s (k+1) r]
theorem zva (s:Nat) (I:List AV):(yga s I).length=I.length:=y8r s 0 I
theorem v2x {s:Nat} {i:Nat} {y:AV} (h:(yga s I)[i]? = some y):∃ x,I[i]? = some x/\y=zzc s i x:=by
 unfold yga at h;rw [vuc] at h;simp only [Nat.zero_add,Option.map_eq_some_iff] at h;obtain ⟨x,hx,rfl⟩:=h;exact ⟨x,hx,rfl⟩
theorem y0g (s i:Nat) (x:AV):(zzc s i x=.any)\/(zzc s i x=x/\i≠s/\∀ s' b,x.rf=some (s',b)->s'≠s):=by
 unfold zzc
 split
 . exact .inl rfl
 . rename_i h;unfold hitB at h;split at h
   . exact absurd rfl h
   . rename_i hne;refine .inr ⟨rfl,hne,fun s' b e=>?_⟩;rw [e] at h;simpa using h
theorem RelI.yga {E:Env} {τ:Nat->TV} {M:Nat->Nat->Prop} {I:List AV} {a:Act} {w:World} (h:RelI E τ M I a w) (s:Nat):RelI E τ M (Go.Slot.yga s I) a w:=by
 have hlive:∀ t,live (Go.Slot.yga s I) t->live I t:=fun t ⟨i,y,hi,hy⟩=>by
  obtain ⟨x,hx,rfl⟩:=v2x hi
  rcases y0g s i x with e | ⟨e,_⟩
  . rw [e] at hy;exact hy.elim
  . rw [e] at hy;exact ⟨i,x,hx,hy⟩
 have hh:∀(i:Nat) (y:AV),(Go.Slot.yga s I)[i]? = some y->y.xeo=true->I[i]? = some y:=fun (i:Nat) (y:AV) hi hy=>by
  obtain ⟨x,hx,rfl⟩:=v2x hi
  rcases y0g s i x with e | ⟨e,_⟩
  . rw [e] at hy;cases hy
  . rw [e];exact hx
 refine RelI.mk h.hd (by rw [zva];exact h.hs) ?_ h.m0 h.mb (fun i y hi hy=>h.hold i y (hh i y hi hy) hy) (fun i j y z hi hj hy hz=>h.inj i j y z (hh i y hi hy) (hh j z hj hz) hy hz) ?_
  (fun t ht=>h.toks t (hlive t ht)) (fun t t' g ht ht'=>h.tinj t t' g (hlive t ht) (hlive t' ht')) (fun t i y ht hi hy=>h.tbox t i y (hlive t ht) (hh i y hi hy) hy) h.size h.os h.tape h.output h.frame
 . intro i y hi;obtain ⟨x,hx,rfl⟩:=v2x hi
   rcases y0g s i x with e | ⟨e,_⟩
   . rw [e];exact trivial
   . rw [e];exact h.slot i x hx
 . intro i y s' b hi hr;obtain ⟨x,hx,rfl⟩:=v2x hi
   rcases y0g s i x with e | ⟨e,hne,hrf⟩
   . rw [e] at hr;cases hr
   . rw [e] at hr;obtain ⟨hv,h1,h2⟩:=h.refs i x s' b hx hr;have hs':=hrf s' b hr;refine ⟨hv,?_,h2⟩;unfold Go.Slot.yga;rw [vuc,h1];simp only [Nat.zero_add,Option.map_some,Option.some.injEq]
     have:hv.rf=none:=by cases hv<;>first | rfl | (cases b<;>cases h2)
     unfold zzc hitB;rw [if_neg hs',this];simp
theorem RelI.take (h:RelI E τ M I a w) {d:Nat} {old:AV} (hd:I[d]? = some old) (hnh:old.xeo=false) (v:Value) (av:AV) (hav:av.xeo=true) (hfrs:av.fresh=true)
 (hN:E.N<=blk v) (hM:∀ o,M (blk v) o) (hfree:∀(i:Nat) (x:AV),I[i]? = some x->x.xeo=true->blk (a.tmps.getD i Go.undef)≠blk v) (hfreet:∀ t,live I t->tokB (τ t).v≠some (blk v))
 (hok:xb1 M w τ a.tmps v av) (htok:∀ t,av.v7d t->live I t):RelI E τ M (I.set d av) (a.put (some d) v) w:=by
 have hlt:d<a.tmps.size:=h.lt hd
 have hns:∀(s:Nat) (b:Bool) (hv:AV),I[s]? = some hv->hv.fits b=true->d≠s:=fun s b hv hs hf e=>by
  subst e;rw [hd] at hs;cases hs;have:=AV.x61 hf;rw [hnh] at this;cases this
 have hself:(a.tmps.setIfInBounds d v).getD d Go.undef=v:=by simp [hlt]
 have hlive:∀ t,live (I.set d av) t->live I t:=fun t ⟨i,x,hi,hx⟩=>by
  rcases getElem?_set_cases hi with ⟨_,rfl⟩ | ⟨_,hi⟩
  . exact htok t hx
  . exact ⟨i,x,hi,hx⟩
 refine RelI.mk h.hd (by simpa [Act.put] using h.hs) ?_ h.m0 h.mb ?_ ?_ ?_ (fun t ht=>h.toks t (hlive t ht)) (fun t t' g ht ht'=>h.tinj t t' g (hlive t ht) (hlive t' ht')) ?_ h.size h.os h.tape h.output h.frame
 . intro i x hi;show xb1 _ w τ (a.tmps.setIfInBounds d v) ((a.tmps.setIfInBounds d v).getD i Go.undef) x
   rcases getElem?_set_cases hi with ⟨rfl,rfl⟩ | ⟨hne,hi⟩
   . rw [hself];exact hok.keep (fun _ _ _ h1 h2=>⟨h1,h2⟩) (fun _ _=>rfl) (fun s b hr=>by cases x<;>simp [AV.rf,AV.xeo] at hr hav) (fun _=>rfl)
   . rw [getD_set_ne (Ne.symm hne)];exact (h.slot i x hi).keep (fun _ _ _ h1 h2=>⟨h1,h2⟩) (fun _ _=>rfl) (fun s b hr=>by obtain ⟨hv,h1,h2⟩:=h.refs i x s b hi hr;exact getD_set_ne (hns s b hv h1 h2) v) (fun _=>rfl)
 . intro i x hi hh;show (∀ o',M (blk ((a.tmps.setIfInBounds d v).getD i Go.undef)) o')/\(_<=blk ((a.tmps.setIfInBounds d v).getD i Go.undef)\/E.X (blk ((a.tmps.setIfInBounds d v).getD i Go.undef)))/\(_->_<=blk ((a.tmps.setIfInBounds d v).getD i Go.undef))/\(_->(a.tmps.setIfInBounds d v).getD i Go.undef=_)
   rcases getElem?_set_cases hi with ⟨rfl,rfl⟩ | ⟨hne,hi⟩
   . rw [hself];exact ⟨hM,.inl hN,fun _=>hN,fun e=>by rw [hfrs] at e;cases e⟩
   . rw [getD_set_ne (Ne.symm hne)];exact h.hold i x hi hh
 . intro i j x y hi hj hx hy;show blk ((a.tmps.setIfInBounds d v).getD i Go.undef)=blk ((a.tmps.setIfInBounds d v).getD j Go.undef)->_
   rcases getElem?_set_cases hi with ⟨rfl,rfl⟩ | ⟨hne,hi'⟩
   . rcases getElem?_set_cases hj with ⟨rfl,rfl⟩ | ⟨hne',hj⟩
     . exact fun _=>rfl
     . rw [hself,getD_set_ne (Ne.symm hne')]
       exact fun e=>absurd e.symm (hfree j y hj hy)
   . rcases getElem?_set_cases hj with ⟨rfl,rfl⟩ | ⟨hne',hj⟩
     . rw [hself,getD_set_ne (Ne.symm hne)]
       exact fun e=>absurd e (hfree i x hi' hx)
     . rw [getD_set_ne (Ne.symm hne),getD_set_ne (Ne.symm hne')];exact h.inj i j x y hi' hj hx hy
 . intro i x s b hi hr
   have:∃ hv:AV,I[s]? = some hv/\hv.fits b=true:=by
    rcases getElem?_set_cases hi with ⟨rfl,rfl⟩ | ⟨hne,hi⟩
    . cases x<;>simp [AV.rf,AV.xeo] at hr hav
    . exact h.refs i x s b hi hr
   obtain ⟨hv,h1,h2⟩:=this;exact ⟨hv,by rw [List.getElem?_set_ne (hns s b hv h1 h2)];exact h1,h2⟩
 . intro t i x ht hi hx;show _≠some (blk ((a.tmps.setIfInBounds d v).getD i Go.undef))
   rcases getElem?_set_cases hi with ⟨rfl,rfl⟩ | ⟨hne,hi⟩
   . rw [hself];exact hfreet t (hlive t ht)
   . rw [getD_set_ne (Ne.symm hne)];exact h.tbox t i x (hlive t ht) hi hx
def mvS (s t:Nat) (I:List AV):List AV:=match gt I t with
 | .asl s'=>if s'=s then match gt I s with
  | .arr pre c none=>(yga s I).set t (.arr pre c none)
  | _=>I
  else I
 | _=>I
theorem yef {d:Nat}:a.put (some d) (a.tmps.getD d Go.undef)=a:=by
 unfold Act.put
 cases a with
 | mk tmps defers=>
  simp only
  congr 1
  apply Array.ext
  . simp
  . intro i h1 h2;rw [Array.getElem_setIfInBounds]
    split
    . rename_i e;subst e;simp [h2]
    . rfl
theorem StLe.mvS (s t : Nat) (I : List AV) : StLe I (Go.Slot.mvS s t I) := by
 unfold Go.Slot.mvS
 split
 . rename_i s' hgt
   split
   . rename_i e;subst e
     split
     . rename_i pre c hgs;intro E a w ⟨τ,M,hI⟩;have hs:=y94 hgs (by simp);have ht:=y94 hgt (by simp)
       have hne:t≠s':=fun e=>by subst e;rw [hs] at ht;cases ht
       have hv:a.tmps.getD t Go.undef=a.tmps.getD s' Go.undef:=by have:=hI.gt t;rw [hgt] at this;exact this
       have hold:=hI.hold s' _ hs rfl;have h1:=hI.yga s'
       have ht1:(yga s' I)[t]? = some .any:=by
        unfold yga;rw [vuc,ht];simp only [Nat.zero_add,Option.map_some,Option.some.injEq];unfold zzc hitB;rw [if_neg hne];simp [AV.rf]
       have h2:=h1.take ht1 rfl (a.tmps.getD t Go.undef) (.arr pre c none) rfl rfl (by rw [hv];exact hold.2.2.1 rfl) (by rw [hv];exact hold.1) (fun i x hi hx e=>by
        obtain ⟨y,hy,rfl⟩:=v2x hi
        rcases y0g s' i y with e' | ⟨e',hne',_⟩
        . rw [e'] at hx;cases hx
        . rw [e'] at hx;rw [hv] at e
          exact hne' (hI.inj i s' y _ hy hs hx rfl e)) (fun d hd=>by
        rw [hv];obtain ⟨i,y,hi,hy⟩:=hd;obtain ⟨x,hx,rfl⟩:=v2x hi
        rcases y0g s' i x with e' | ⟨e',_⟩
        . rw [e'] at hy;exact hy.elim
        . rw [e'] at hy
          exact hI.tbox d s' _ ⟨i,x,hx,hy⟩ hs rfl) (by rw [hv];have:=hI.slot s' _ hs;exact this) (fun d hd=>hd.elim)
       rw [yef] at h2;exact ⟨τ,M,h2⟩
     . exact StLe.refl I
   . exact StLe.refl I
 . exact StLe.refl I
def ghA:Gh->List AV->List AV
 | .frz s,I=>frz s I
 | .any s,I=>y0x s I
 | .mv s t,I=>mvS s t I
 | .join,I=>I
 | .lit,I=>I
def ghL:List Gh->List AV->List AV
 | [],I=>I
 | g::r,I=>ghL r (vh6 (ghA g I))
theorem StLe.ghA (g:Gh) (I:List AV):StLe I (Go.Slot.ghA g I):=by
 cases g with
 | frz s=>exact StLe.frz s I
 | any s=>exact StLe.y0x s I
 | mv s t=>exact StLe.mvS s t I
 | join=>exact StLe.refl I
 | lit=>exact StLe.refl I
theorem StLe.ghL:∀(l:List Gh) (I:List AV),StLe I (Go.Slot.ghL l I)
 | [],I=>StLe.refl I
 | g::r,I=>(StLe.ghA g I).trans (by unfold Go.Slot.ghL;rw [vsc];exact StLe.ghL r _)
def anyH (av:AV):AV:=match av.xeo with
 | true=>av
 | false=>.any
def v31:Bool->List Nat->List Nat
 | true,[]=>[]
 | true,_::ks=>ks
 | false,ks=>ks
def zcq:Bool->AV->AV
 | true,av=>av
 | false,av=>anyH av
def isK:List Nat->Nat->Bool
 | [],_=>false
 | k::_,i=>i==k
def y05:List Nat->Nat->List AV->List AV
 | _,_,[]=>[]
 | ks,i,av::r=>zcq (isK ks i) av::y05 (v31 (isK ks i) ks) (i+1) r
def wlx (keep:List Nat) (I:List AV):List AV:=y05 keep 0 I
theorem wsl (av:AV):anyH av=av\/(anyH av=.any/\av.xeo=false):=by
 unfold anyH
 cases h:av.xeo with
 | true=>exact .inl rfl
 | false=>exact .inr ⟨rfl,rfl⟩
theorem xi8:∀(keep:List Nat) (k:Nat) (I:List AV) (i:Nat),∃ f:AV->AV,(y05 keep k I)[i]? = (I[i]?).map f/\∀ x,f x=x\/(f x=.any/\x.xeo=false)
 | _,_,[],i=>⟨id,by simp [y05],fun x=>.inl rfl⟩
 | ks,k,av::r,0=>by
  refine ⟨zcq (isK ks k),by simp [y05],fun x=>?_⟩
  cases isK ks k with
  | true=>exact .inl rfl
  | false=>exact wsl x
 | ks,k,av::r,i+1=>by
  obtain ⟨f,h1,h2⟩:=xi8 (v31 (isK ks k) ks) (k+1) r i;exact ⟨f,by simpa [y05] using h1,h2⟩
theorem y91:∀(keep:List Nat) (k:Nat) (I:List AV),(y05 keep k I).length=I.length
 | _,_,[]=>by simp [y05]
 | ks,k,av::r=>by simp [y05,y91 (v31 (isK ks k) ks) (k+1) r]
theorem StLe.only (keep:List Nat) (I:List AV):StLe I (wlx keep I):=by
 intro E a w ⟨τ,M,h⟩
 have get:∀(i:Nat) (y:AV),(wlx keep I)[i]? = some y->∃ x,I[i]? = some x/\(y=x\/(y=.any/\x.xeo=false)):=fun i y hi=>by
  obtain ⟨f,h1,h2⟩:=xi8 keep 0 I i;unfold wlx at hi;rw [h1] at hi;simp only [Option.map_eq_some_iff] at hi;obtain ⟨x,hx,rfl⟩:=hi;exact ⟨x,hx,h2 x⟩
 have hh:∀(i:Nat) (y:AV),(wlx keep I)[i]? = some y->y.xeo=true->I[i]? = some y:=fun i y hi hy=>by
  obtain ⟨x,hx,rfl | ⟨rfl,_⟩⟩:=get i y hi
  . exact hx
  . cases hy
 have hlive:∀ t,live (wlx keep I) t->live I t:=fun t ⟨i,y,hi,hy⟩=>by
  obtain ⟨x,hx,rfl | ⟨rfl,_⟩⟩:=get i y hi
  . exact ⟨i,y,hx,hy⟩
  . exact hy.elim
 refine ⟨τ,M,RelI.mk h.hd (by unfold wlx;rw [y91];exact h.hs) ?_ h.m0 h.mb (fun i y hi hy=>h.hold i y (hh i y hi hy) hy) (fun i j y z hi hj hy hz=>h.inj i j y z (hh i y hi hy) (hh j z hj hz) hy hz) ?_
  (fun t ht=>h.toks t (hlive t ht)) (fun t t' g ht ht'=>h.tinj t t' g (hlive t ht) (hlive t' ht')) (fun t i y ht hi hy=>h.tbox t i y (hlive t ht) (hh i y hi hy) hy) h.size h.os h.tape h.output h.frame⟩
 . intro i y hi;obtain ⟨x,hx,rfl | ⟨rfl,_⟩⟩:=get i y hi
   . exact h.slot i y hx
   . exact trivial
 . intro i y s' b hi hr;obtain ⟨x,hx,rfl | ⟨rfl,_⟩⟩:=get i y hi
   . obtain ⟨hv,h1,h2⟩:=h.refs i y s' b hx hr;obtain ⟨f,h3,h4⟩:=xi8 keep 0 I s';refine ⟨hv,?_,h2⟩;unfold wlx;rw [h3,h1]
     rcases h4 hv with e | ⟨_,e⟩
     . simp [e]
     . rw [AV.x61 h2] at e;cases e
   . cases hr
structure vxy (b:Nat) (w w':World):Prop where
 os:w'.os=w.os
 tape:w'.tape=w.tape
 output:w'.output=w.output
 size:w.heap.size<=w'.heap.size
 block:∀ k,k<w.heap.size->k≠b->w'.heap[k]? = w.heap[k]?
theorem vxy.keeps {b:Nat} (h:vxy b w w') (hM:∀ o,M b o):wf2 M M w w':=fun b' o u hm hc=>⟨hm,by
 have hl:=World.block_lt_of_cell? w _ hc
 have:=h.block b' hl (fun e=>hm (by rw [e];exact hM o))
 simp only [World.cell?,this] at hc ⊢
 exact hc⟩
theorem RelI.turn (h:RelI E τ M I a w) {s:Nat} {old new:AV} (hs:I[s]? = some old) (ho:old.xeo=true) (hn:new.xeo=true)
 (hf:∀ b,old.fits b=true->new.fits b=true) (hfr:new.fresh=old.fresh) (hbx:vxy (blk (a.tmps.getD s Go.undef)) w w') (hok:xb1 M w' τ a.tmps (a.tmps.getD s Go.undef) new)
 (htok:∀ t,new.v7d t->live I t):RelI E τ M (I.set s new) a w':=by
 generalize hb:blk (a.tmps.getD s Go.undef)=b at *;have hM:∀ o,M b o:=hb▸(h.hold s old hs ho).1;have hk:wf2 M M w w':=hbx.keeps hM
 have hlive:∀ t,live (I.set s new) t->live I t:=fun t ⟨i,x,hi,hx⟩=>by
  rcases getElem?_set_cases hi with ⟨_,rfl⟩ | ⟨_,hi⟩
  . exact htok t hx
  . exact ⟨i,x,hi,hx⟩
 refine RelI.mk h.hd (by simpa using h.hs) ?_ h.m0 (fun b o hm=>Nat.lt_of_lt_of_le (h.mb b o hm) hbx.size) ?_ ?_ ?_ ?_ ?_ ?_ (Nat.le_trans h.size hbx.size) (hbx.os.trans h.os) (hbx.tape.trans h.tape) (hbx.output.trans h.output) ?_
 . intro i x hi
   rcases getElem?_set_cases hi with ⟨rfl,rfl⟩ | ⟨hne,hi⟩
   . exact hok
   . refine (h.slot i x hi).keep hk (fun _ _=>rfl) (fun _ _ _=>rfl) (fun hh=>hbx.block _ ((h.slot i x hi).whw hh) ?_)
     exact fun e=>hne (h.inj i s x old hi hs hh ho (e.trans hb.symm))
 . intro i x hi hh
   rcases getElem?_set_cases hi with ⟨rfl,rfl⟩ | ⟨hne,hi⟩
   . exact hfr▸h.hold i old hs ho
   . exact h.hold i x hi hh
 . intro i j x y hi hj hx hy
   have key:∀(i:Nat) (x:AV),(I.set s new)[i]? = some x->x.xeo=true->∃ x':AV,I[i]? = some x'/\x'.xeo=true:=fun i x hi hx=>by
    rcases getElem?_set_cases hi with ⟨rfl,rfl⟩ | ⟨hne,hi⟩
    . exact ⟨old,hs,ho⟩
    . exact ⟨x,hi,hx⟩
   obtain ⟨x',hi',hx'⟩:=key i x hi hx;obtain ⟨y',hj',hy'⟩:=key j y hj hy;exact h.inj i j x' y' hi' hj' hx' hy'
 . intro i x s' b' hi hr
   have:∃ hv:AV,I[s']? = some hv/\hv.fits b'=true:=by
    rcases getElem?_set_cases hi with ⟨rfl,rfl⟩ | ⟨hne,hi⟩
    . cases x<;>simp [AV.rf,AV.xeo] at hr hn
    . exact h.refs i x s' b' hi hr
   obtain ⟨hv,h1,h2⟩:=this;by_cases e:s'=s
   . subst e;rw [hs] at h1;cases h1;have hl:s'<I.length:=(List.getElem?_eq_some_iff.1 hs).1;exact ⟨new,by simp [hl],hf _ h2⟩
   . exact ⟨hv,by rw [List.getElem?_set_ne (Ne.symm e)];exact h1,h2⟩
 . intro t ht
   rcases h.toks t (hlive t ht) with h' | ⟨e,n,xs,hown,hm⟩
   . exact .inl h'
   . rcases hown.2 with ⟨h1,_⟩ | ⟨g,cap,cur,hv,hg,hh,hnc,r⟩
     . exact .inl ⟨none,h1⟩
     . cases cap with
       | zero=>exact .inl ⟨some ⟨g,0,none⟩,by rw [hv];simp at hnc;rw [hnc]⟩
       | succ cap=>
        refine .inr ⟨e,n,xs,⟨hown.1,.inr ⟨g,cap+1,cur,hv,hg,?_,hnc,r⟩⟩,hm⟩;rw [hbx.block g (Array.getElem?_eq_some_iff.1 hh).1]
        . exact hh
        . rintro rfl;exact h.tbox t s old (hlive t ht) hs ho (by rw [hv,hb];rfl)
 . exact fun t t' g ht ht'=>h.tinj t t' g (hlive t ht) (hlive t' ht')
 . intro t i x ht hi hx
   rcases getElem?_set_cases hi with ⟨rfl,rfl⟩ | ⟨hne,hi⟩
   . exact h.tbox t i old (hlive t ht) hs ho
   . exact h.tbox t i x (hlive t ht) hi hx
 . intro k hk' hx;rw [hbx.block k (Nat.lt_of_lt_of_le hk' h.size)]
   . exact h.frame k hk' hx
   . rintro rfl
     rcases (h.hold s old hs ho).2.1 with h1 | h1
     . rw [hb] at h1;omega
     . rw [hb] at h1;exact hx h1
def v9i:Nat->TV:=fun _=>⟨Go.undef,0⟩
def XOk (M:Nat->Nat->Prop) (w:World) (v:Value) (av:AV):Prop:=xb1 M w v9i #[] v av/\av.xeo=true/\av.fresh=false/\(∀ t,¬av.v7d t)/\∀ o,M (blk v) o
theorem XOk.slot {v:Value} {av:AV} (h:XOk M w v av) (τ:Nat->TV) (tm:Array Value):xb1 M w τ tm v av:=
 h.1.keep (fun _ _ _ h1 h2=>⟨h1,h2⟩) (fun d hd=>absurd hd (h.2.2.2.1 d)) (fun s b hr=>by have:=h.2.1;cases av<;>simp [AV.rf,AV.xeo] at hr this) (fun _=>rfl)
def RdXL (M:Nat->Nat->Prop) (w:World) (vs:List Value) (args:List AV) (j:Nat):Prop:=
 vs.length=args.length/\(∀ i v av,vs[i]? = some v->args[i]? = some av->i≠j->RdB M w v av)/\∃ v av,vs[j]? = some v/\args[j]? = some av/\XOk M w v av
def ResX (M:Nat->Nat->Prop) (w:World) (vj v:Value):AV->Prop
 | .awn _ m lo n=>∃ ad cap,v=.slice ad n cap/\(cap≠0\/lo=0->ad=some ⟨blk vj,offV vj+lo*m,none⟩)/\n<=cap/\lo+cap<=capV vj
 | .asl _=>v=vj
 | res=>res.xeo=false/\RdR M w v res
def x8f (P:Program) (f:FuncId) (args:List AV) (j:Nat) (out res:AV):Prop:=
 yss P f/\∀(M:Nat->Nat->Prop) (w:World) (vs:List Value),Bounded M w->RdXL M w vs args j->
  Calls P f vs.toArray w (fun e w'=>∃ v vj,e=.returned v/\vs[j]? = some vj/\vxy (blk vj) w w'/\XOk M w' vj out/\ResX M w' vj v res)
theorem vwu {vs:List Value} {args:List AV} {vj:Value} (hM:Bounded M w) (h:RdXL M w vs args j) (hvj:vs[j]? = some vj) (n:Nat) :
 Rel ⟨w,M,fun b=>b=blk vj,vs.toArray++Array.replicate n Go.undef,hM⟩ (args++List.replicate n .undef) { tmps:=vs.toArray++Array.replicate n Go.undef,defers:=[] } w:=by
 obtain ⟨hlen,hdat,v0,av0,hv0,ha0,hx⟩:=h;rw [hvj] at hv0;cases hv0
 have htm:∀ i v,vs[i]? = some v->(vs.toArray++Array.replicate n Go.undef).getD i Go.undef=v:=fun i v hv=>by
  have hvl:i<vs.length:=(List.getElem?_eq_some_iff.1 hv).1;rw [List.getElem?_eq_getElem hvl] at hv;simp at hv;simp [Array.getD_eq_getD_getElem?,Array.getElem?_append,hvl,hv]
 have hj:j<args.length:=(List.getElem?_eq_some_iff.1 ha0).1;have hnot:∀(i:Nat) (av:AV),(args++List.replicate n AV.undef)[i]? = some av->(i=j/\av=av0/\(vs.toArray++Array.replicate n Go.undef).getD i Go.undef=vj)\/
  (i≠j/\∃ v,(vs.toArray++Array.replicate n Go.undef).getD i Go.undef=v/\RdB M w v av):=by
  intro i av hi;by_cases hlt:i<args.length
  . rw [List.getElem?_append_left hlt] at hi;by_cases hij:i=j
    . subst hij;rw [ha0] at hi;cases hi;exact .inl ⟨rfl,rfl,htm i vj hvj⟩
    . have hvl:i<vs.length:=by omega
      exact .inr ⟨hij,vs[i],htm i _ (List.getElem?_eq_getElem hvl),hdat i _ av (List.getElem?_eq_getElem hvl) hi hij⟩
  . rw [List.getElem?_append_right (by omega)] at hi
    have hav:av=.undef:=by
     have:=List.mem_of_getElem? hi
     exact (List.mem_replicate.1 this).2
    subst hav;refine .inr ⟨by omega,Go.undef,?_,rfl⟩;simp only [Array.getD_eq_getD_getElem?,Array.getElem?_append];rw [if_neg (by simp;omega)];simp only [Array.getElem?_replicate]
    split<;>rfl
 have props:∀(v:Value) (av:AV),RdB M w v av->av.xeo=false/\av.rf=none/\(∀ t,¬av.v7d t):=fun v av hr=>by
  cases av with
  | one c=>exact ⟨rfl,rfl,(RdB.slot (τ:=v9i) (tm:=#[]) hr).2⟩
  | agg c=>exact ⟨rfl,rfl,(RdB.slot (τ:=v9i) (tm:=#[]) hr).2⟩
  | elt c=>exact ⟨rfl,rfl,fun t ht=>ht⟩
  | any=>exact ⟨rfl,rfl,fun t ht=>ht⟩
  | undef=>exact ⟨rfl,rfl,fun t ht=>ht⟩
  | _=>exact hr.elim
 have nolive:∀ t,¬live (args++List.replicate n AV.undef) t:=fun t ⟨i,x,hi,hxt⟩=>by
  rcases hnot i x hi with ⟨_,rfl,_⟩ | ⟨_,v,_,hr⟩
  . exact hx.2.2.2.1 t hxt
  . exact (props v x hr).2.2 t hxt
 refine ⟨v9i,M,RelI.mk rfl (by simp [hlen]) ?_ (fun _ _ h=>h) hM ?_ ?_ ?_ (fun t ht=>absurd ht (nolive t)) (fun t _ _ ht=>absurd ht (nolive t)) (fun t _ _ ht=>absurd ht (nolive t)) (Nat.le_refl _) rfl rfl rfl (fun _ _ _=>rfl)⟩
 . intro i av hi
   rcases hnot i av hi with ⟨_,rfl,e⟩ | ⟨_,v,hv,hr⟩
   . show xb1 M w _ _ ((vs.toArray++Array.replicate n Go.undef).getD i Go.undef) av;rw [e];exact hx.slot _ _
   . show xb1 M w _ _ ((vs.toArray++Array.replicate n Go.undef).getD i Go.undef) av;rw [hv];exact (RdB.slot hr).1
 . intro i av hi hh
   rcases hnot i av hi with ⟨_,rfl,e⟩ | ⟨_,v,hv,hr⟩
   . show (∀ o,M (blk ((vs.toArray++Array.replicate n Go.undef).getD i Go.undef)) o)/\(_<=blk ((vs.toArray++Array.replicate n Go.undef).getD i Go.undef)\/blk ((vs.toArray++Array.replicate n Go.undef).getD i Go.undef)=blk vj)/\(_->_)/\(_->(vs.toArray++Array.replicate n Go.undef).getD i Go.undef=(vs.toArray++Array.replicate n Go.undef).getD i Go.undef);rw [e];exact ⟨hx.2.2.2.2,.inr rfl,(fun hf=>by rw [hx.2.2.1] at hf;cases hf),fun _=>rfl⟩
   . rw [(props v av hr).1] at hh;cases hh
 . intro i j' x y hi hj' hxh hyh _
   rcases hnot i x hi with ⟨rfl,_,_⟩ | ⟨_,v,hv,hr⟩
   . rcases hnot j' y hj' with ⟨rfl,_,_⟩ | ⟨_,v,hv,hr⟩
     . rfl
     . rw [(props v y hr).1] at hyh;cases hyh
   . rw [(props v x hr).1] at hxh;cases hxh
 . intro i av s b hi hr'
   rcases hnot i av hi with ⟨_,rfl,e⟩ | ⟨_,v,hv,hr⟩
   . have:=hx.2.1
     cases av<;>simp [AV.rf,AV.xeo] at hr' this
   . rw [(props v av hr).2.1] at hr';cases hr'
def retX (P:Program) (rs:List ResultVar) (j:Nat) (out res:AV):Exit->List AV->Prop
 | .ret,I | .normal,I=>gt I j=out/\out.xeo=true/\out.fresh=false/\(match res with
  | .awn _ m lo n=>∃ t,rs=[.tmp t]/\gt I t=.awn j m lo n
  | .asl _=>∃ t,rs=[.tmp t]/\gt I t=.asl j
  | res=>res.xeo=false/\∃ av,yhv P I rs=some av/\RLe av res)
 | _,_=>False
theorem v6j {t:Nat} (h:fn.results.toList=[.tmp t]) (tm:Array Value) (w:World):(results fn tm).run P w=.ok (tm.getD t Go.undef) w:=by
 have hres:fn.results=#[.tmp t]:=by rw [<-Array.toArray_toList (xs:=fn.results),h]
 unfold results;rw [hres];simp
theorem x8f.of {f:FuncId} {c:Code} {args:List AV} {out res:AV} (hf:P.funcs[f]? = some fn) (hb:fn.body=some c) (hname:(fn.name == "runtime.NumGoroutine")=false)
 (hnt:∀ t,¬out.v7d t) (h:zus P c (retX P fn.results.toList j out res) (args++List.replicate (fn.ntmps-args.length) .undef)):x8f P f args j out res:=by
 refine ⟨⟨fn,hf,hname,by rw [hb];rfl⟩,fun M w vs hM hrd=>?_⟩;have hlen:=hrd.1;obtain ⟨vj,avj,hvj,haj,hx⟩:=hrd.2.2;refine calls_of_wp hf hb ?_;have hstart:=vwu hM hrd hvj (fn.ntmps-args.length)
 have hsz:vs.toArray.size=args.length:=by simp [hlen]
 rw [hsz];refine wp_mono (h _ _ w hstart) ?_;rintro e a w' ⟨I,hq,hR⟩
 have hargs:(vs.toArray++Array.replicate (fn.ntmps-args.length) Go.undef).getD j Go.undef=vj:=by
  have hvl:j<vs.length:=(List.getElem?_eq_some_iff.1 hvj).1;rw [List.getElem?_eq_getElem hvl] at hvj;simp at hvj;simp [Array.getD_eq_getD_getElem?,Array.getElem?_append,hvl,hvj]
 have fin:retX P fn.results.toList j out res .ret I->a.defers=[]/\∃ v,(results fn a.tmps).run P w'=.ok v w'/\
  ∃ v0 vj,Ending.returned v=.returned v0/\vs[j]? = some vj/\vxy (blk vj) w w'/\XOk M w' vj out/\ResX M w' vj v0 res:=fun hq=>by
  obtain ⟨hg,hho,hfr,hres⟩:=hq;have hR0:=hR;obtain ⟨τ,M',hI⟩:=hR
  have hne:out≠.any:=fun e=>by rw [e] at hho;cases hho
  have hgs:=y94 hg hne;have hold:=hI.hold j out hgs hho;have hval:a.tmps.getD j Go.undef=vj:=(hold.2.2.2 hfr).trans hargs;have hss:=hI.gt j;rw [hg,hval] at hss;have hX:XOk M w' vj out:=⟨hss.keep (wf2.shrink w' hI.m0) (fun d hd=>absurd hd (hnt d)) (fun s b hr=>by cases out<;>simp [AV.rf,AV.xeo] at hr hho) (fun _=>rfl),hho,hfr,hnt,hx.2.2.2.2⟩;have hB:vxy (blk vj) w w':=⟨hI.os,hI.tape,hI.output,hI.size,fun k hk hne=>hI.frame k hk hne⟩;refine ⟨hI.hd,?_⟩
  have plain:(res.xeo=false/\∃ av,yhv P I fn.results.toList=some av/\RLe av res)->∃ v,(results fn a.tmps).run P w'=.ok v w'/\res.xeo=false/\RdR M w' v res:=fun ⟨h1,av,h2,h3⟩=>by
   obtain ⟨v,hrun,hrd',_⟩:=x3p (fn:=fn) hR0 h2 h3;exact ⟨v,hrun,h1,hrd'⟩
  cases res with
  | awn s m lo n=>
   obtain ⟨t,hrs,hgt⟩:=hres;refine ⟨_,v6j hrs a.tmps w',_,vj,rfl,hvj,hB,hX,?_⟩;have hs:=hI.gt t;rw [hgt] at hs;obtain ⟨ad,cap,e1,h1,h2,h3⟩:=hs;rw [hval] at h1 h3;exact ⟨ad,cap,e1,h1,h2,h3⟩
  | asl s=>
   obtain ⟨t,hrs,hgt⟩:=hres;refine ⟨_,v6j hrs a.tmps w',_,vj,rfl,hvj,hB,hX,?_⟩;have hs:=hI.gt t;rw [hgt] at hs;exact Eq.trans hs hval
  | _=>
   obtain ⟨v,hrun,hh,hr⟩:=plain hres;exact ⟨v,hrun,v,vj,rfl,hvj,hB,hX,hh,hr⟩
 cases e with
 | normal=>exact fin hq
 | ret=>exact fin hq
 | _=>exact hq.elim
end Go.Slot
