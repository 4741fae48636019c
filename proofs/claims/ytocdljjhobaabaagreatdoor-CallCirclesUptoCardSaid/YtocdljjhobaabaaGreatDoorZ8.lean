/- The proof, part Z8: Mt, Mu. -/
import Derived.Test.YtocdljjhobaabaaGreatDoorZ7
namespace Go.Slot
open Go Go.RowKit
variable {P:Program}
def ch (a0 a1 a2 a3 a4 a5 a6 a7 a8 a9 a10 a11 a12 a13 a14 a15:AV) (r:List AV):List AV:=a0::a1::a2::a3::a4::a5::a6::a7::a8::a9::a10::a11::a12::a13::a14::a15::r
def wm3:List AV->List AV
 | a0::a1::a2::a3::a4::a5::a6::a7::a8::a9::a10::a11::a12::a13::a14::a15::r=>ch a0 a1 a2 a3 a4 a5 a6 a7 a8 a9 a10 a11 a12 a13 a14 a15 (wm3 r)
 | l=>l
theorem w9r:∀ l:List AV,wm3 l=l
 | []=>rfl
 | [a0]=>rfl
 | [a0,a1]=>rfl
 | [a0,a1,a2]=>rfl
 | [a0,a1,a2,a3]=>rfl
 | [a0,a1,a2,a3,a4]=>rfl
 | [a0,a1,a2,a3,a4,a5]=>rfl
 | [a0,a1,a2,a3,a4,a5,a6]=>rfl
 | [a0,a1,a2,a3,a4,a5,a6,a7]=>rfl
 | [a0,a1,a2,a3,a4,a5,a6,a7,a8]=>rfl
 | [a0,a1,a2,a3,a4,a5,a6,a7,a8,a9]=>rfl
 | [a0,a1,a2,a3,a4,a5,a6,a7,a8,a9,a10]=>rfl
 | [a0,a1,a2,a3,a4,a5,a6,a7,a8,a9,a10,a11]=>rfl
 | [a0,a1,a2,a3,a4,a5,a6,a7,a8,a9,a10,a11,a12]=>rfl
 | [a0,a1,a2,a3,a4,a5,a6,a7,a8,a9,a10,a11,a12,a13]=>rfl
 | [a0,a1,a2,a3,a4,a5,a6,a7,a8,a9,a10,a11,a12,a13,a14]=>rfl
 | a0::a1::a2::a3::a4::a5::a6::a7::a8::a9::a10::a11::a12::a13::a14::a15::r=>by
  have ih:=w9r r;show ch a0 a1 a2 a3 a4 a5 a6 a7 a8 a9 a10 a11 a12 a13 a14 a15 (wm3 r)=_;rw [ih];rfl
def AV.frzd:AV->AV
 | .box cs=>.elt (yf8 cs)
 | .arr _ c none=>.one c
 | av=>av
def vek (s:Nat) (hv:AV) (i:Nat) (av:AV):AV:=
 if i=s then hv.frzd else match av with
 | .ptr s' off=>if s'=s then (match hv with | .box cs=>.elt (yf8 (cs.drop off)) | _=>.any) else av
 | .asl s'=>if s'=s then (match hv with | .arr _ c none=>.one c | _=>.any) else av
 | .awn s' m lo n=>if s'=s then (match hv with | .arr _ c none=>if lo+n<=c.cnt/\m=c.esz then .one (c.sub lo n) else .any | _=>.any) else av
 | .pel s' m i f=>if s'=s then (match hv with | .arr _ c none=>if m=c.esz then (match c.at i f with | some cs=>.elt cs | none=>.any) else .any | _=>.any) else av
 | _=>av
def xlm (s:Nat) (hv:AV):Nat->List AV->List AV
 | _,[]=>[]
 | i,av::r=>vek s hv i av::xlm s hv (i+1) r
def frz (s:Nat) (σ:List AV):List AV:=match gt σ s with
 | .box cs=>xlm s (.box cs) 0 σ
 | .arr pre c none=>xlm s (.arr pre c none) 0 σ
 | _=>σ
theorem xlr (s:Nat) (hv:AV):∀(k:Nat) (σ:List AV) (i:Nat),(xlm s hv k σ)[i]? = (σ[i]?).map (vek s hv (k+i))
 | _,[],i=>by simp [xlm]
 | k,av::r,0=>by simp [xlm]
 | k,av::r,i+1=>by
  have:=xlr s hv (k+1) r i
  simpa [xlm,Nat.add_assoc,Nat.add_comm 1 i] using this
theorem y37 (s:Nat) (hv:AV):∀(k:Nat) (σ:List AV),(xlm s hv k σ).length=σ.length
 | _,[]=>rfl
 | k,av::r=>by simp [xlm,y37 s hv (k+1) r]
theorem RelI.freeze {E:Env} {τ:Nat->TV} {M:Nat->Nat->Prop} {σ:List AV} {a:Act} {w:World} (h:RelI E τ M σ a w) {s:Nat} {hv:AV} (hs:σ[s]? = some hv) (hf:hv.fresh=true) :
 ∃ M',RelI E τ M' (xlm s hv 0 σ) a w:=by
 have hh:hv.xeo=true:=by cases hv<;>first | rfl | cases hf
 obtain ⟨b,hb⟩:∃ b,blk (a.tmps.getD s Go.undef)=b:=⟨_,rfl⟩;have hold:=h.hold s hv hs hh;rw [hb] at hold;have hN:=hold.2.2.1 hf;refine ⟨fun b' o=>M b' o/\b'≠b,?_⟩;have hk:xhx M (fun b' o=>M b' o/\b'≠b) w w:=xhx.shrink w (fun _ _ h=>h.1)
 have hMb:∀ o,¬(M b o/\b≠b):=fun o h=>h.2 rfl
 have hget:∀(i:Nat) (y:AV),(xlm s hv 0 σ)[i]? = some y->∃ x,σ[i]? = some x/\y=vek s hv i x:=fun i y hi=>by
  rw [xlr] at hi;simp only [Nat.zero_add,Option.map_eq_some_iff] at hi;obtain ⟨x,hx,rfl⟩:=hi;exact ⟨x,hx,rfl⟩
 have hss:=h.slot s hv hs
 have boxrd:∀ cs,hv=.box cs->∃ vs:List Value,a.tmps.getD s Go.undef=.pointer (some ⟨b,0,none⟩)/\(∀ off j u,(vs.drop off)[j]? = some u->w.cell? ⟨b,off+j,none⟩=some u)/\RdD (fun b' o=>M b' o/\b'≠b) w vs (yf8 cs):=fun cs e=>by
  subst e;obtain ⟨b',vs,T,e1,hheap,hr⟩:=hss
  have:b'=b:=by rw [e1] at hb;exact hb
  subst this;exact ⟨vs,e1,fun off j u hj=>w8h hheap off j u hj,hr.bare.keep hk⟩
 have arrrd:∀ pre c,hv=.arr pre c none->∃ cap,a.tmps.getD s Go.undef=.slice (some ⟨b,pre.length,none⟩) c.cnt cap/\RdC (fun b' o=>M b' o/\b'≠b) w (.slice (some ⟨b,pre.length,none⟩) c.cnt cap) c/\c.uni/\
  ∃ vs,RdD (fun b' o=>M b' o/\b'≠b) w vs c.flat/\∀ i u,vs[i]? = some u->w.cell? ⟨b,pre.length+i,none⟩=some u:=fun pre c e=>by
  subst e;obtain ⟨b',T,vs,q,cap,e1,hheap,hr,_,hu,hcap,_⟩:=hss
  have:b'=b:=by rw [e1] at hb;exact hb
  subst this;refine ⟨cap,e1,vq1 hheap (hr.keep hk) hu hcap hMb,hu,vs,hr.keep hk,fun i u hi=>?_⟩;have hlt:i<vs.length:=(List.getElem?_eq_some_iff.1 hi).1;simp only [World.cell?,hheap];simp only [List.getElem?_toArray];rw [List.getElem?_append_right (by omega),List.getElem?_append_left (by omega)];rw [show pre.length+i-pre.length=i by omega];exact hi
 have hslot:∀(i:Nat) (x:AV),σ[i]? = some x->x5d (fun b' o=>M b' o/\b'≠b) w τ a.tmps (a.tmps.getD i Go.undef) (vek s hv i x)/\(∀ t,(vek s hv i x).y1a t->live σ t)/\
  ((vek s hv i x).xeo=true->i≠s/\vek s hv i x=x)/\(∀ s' b',(vek s hv i x).rf=some (s',b')->s'≠s/\i≠s/\vek s hv i x=x):=fun i x hi=>by
  have same:i≠s->(∀ s' b',x.rf=some (s',b')->s'≠s)->x5d (fun b' o=>M b' o/\b'≠b) w τ a.tmps (a.tmps.getD i Go.undef) x/\(∀ t,x.y1a t->live σ t)/\(x.xeo=true->i≠s/\x=x)/\(∀ s' b',x.rf=some (s',b')->s'≠s/\i≠s/\x=x):=fun his hrf=>
   ⟨(h.slot i x hi).keep hk (fun _ _=>rfl) (fun _ _ _=>rfl) (fun _=>rfl),fun t ht=>⟨i,x,hi,ht⟩,fun _=>⟨his,rfl⟩,fun s' b' hr=>⟨hrf s' b' hr,his,rfl⟩⟩
  have dat:∀ y:AV,x5d (fun b' o=>M b' o/\b'≠b) w τ a.tmps (a.tmps.getD i Go.undef) y->(∀ t,¬y.y1a t)->y.xeo=false->y.rf=none->
   x5d (fun b' o=>M b' o/\b'≠b) w τ a.tmps (a.tmps.getD i Go.undef) y/\(∀ t,y.y1a t->live σ t)/\(y.xeo=true->i≠s/\y=x)/\(∀ s' b',y.rf=some (s',b')->s'≠s/\i≠s/\y=x):=fun y h1 h2 h3 h4=>
   ⟨h1,fun t ht=>absurd ht (h2 t),fun e=>(by rw [h3] at e;cases e),fun s' b' e=>(by rw [h4] at e;cases e)⟩
  have anyc:=dat .any trivial (fun _ ht=>ht) rfl rfl;unfold vek;by_cases his:i=s
  . rw [if_pos his];subst his
    cases hv with
    | box cs=>
     obtain ⟨vs,e1,hc,hr⟩:=boxrd cs rfl;exact dat _ ⟨b,0,vs,e1,fun j u hj=>⟨fun hx=>hx.2 rfl,hc 0 j u (by simpa using hj)⟩,hr⟩ (fun _ ht=>ht) rfl rfl
    | arr pre c post=>
     cases post with
     | some _=>cases hf
     | none=>
      obtain ⟨cap,e1,hr,_⟩:=arrrd pre c rfl;exact dat (.one c) (by rw [e1];exact RdT.of hr) (fun t ht=>hr.x6p t ht) rfl rfl
    | _=>cases hf
  . rw [if_neg his];have hx:=h.slot i x hi
    cases x with
    | ptr s' off =>
     simp only
     split
     . rename_i e;subst e
       cases hv with
       | box cs=>
        obtain ⟨vs,e1,hc,hr⟩:=boxrd cs rfl;have hx:a.tmps.getD i Go.undef=.pointer (some ⟨blk (a.tmps.getD s' Go.undef),off,none⟩):=hx;rw [hb] at hx;refine dat _ ⟨b,off,vs.drop off,hx,fun j u hj=>⟨fun hx=>hx.2 rfl,hc off j u hj⟩,?_⟩ (fun _ ht=>ht) rfl rfl;rw [ybl];exact hr.drop off
       | _=>exact anyc
     . rename_i e;exact same his (fun s' b' hr=>by simp only [AV.rf,Option.some.injEq,Prod.mk.injEq] at hr;rw [<-hr.1];exact e)
    | asl s' =>
     simp only
     split
     . rename_i e;subst e
       cases hv with
       | arr pre c post=>
        cases post with
        | some _=>cases hf
        | none=>
         obtain ⟨cap,e1,hr,_⟩:=arrrd pre c rfl;have hx:a.tmps.getD i Go.undef=a.tmps.getD s' Go.undef:=hx;exact dat (.one c) (by rw [hx,e1];exact RdT.of hr) (fun t ht=>hr.x6p t ht) rfl rfl
       | _=>exact anyc
     . rename_i e;exact same his (fun s' b' hr=>by simp only [AV.rf,Option.some.injEq,Prod.mk.injEq] at hr;rw [<-hr.1];exact e)
    | awn s' m lo n =>
     simp only
     split
     . rename_i e;subst e
       cases hv with
       | arr pre c post =>
        cases post with
        | some _=>cases hf
        | none=>
         simp only
         split
         . rename_i hc;obtain ⟨hfit,rfl⟩:=hc;obtain ⟨cap,e1,hr,hu,_⟩:=arrrd pre c rfl;obtain ⟨ad,cap',e2,had,hn,_⟩:=hx;rw [e1] at had
           have:=hr.sub hu hfit (ad:=ad) (fun hne=>had (.inl hne)) hn
           exact dat (.one (c.sub lo n)) (by rw [e2];exact RdT.of this) (fun t ht=>this.x6p t ht) rfl rfl
         . exact anyc
       | _=>exact anyc
     . rename_i e;exact same his (fun s' b' hr=>by simp only [AV.rf,Option.some.injEq,Prod.mk.injEq] at hr;rw [<-hr.1];exact e)
    | pel s' m i' f =>
     simp only
     split
     . rename_i e;subst e
       cases hv with
       | arr pre c post =>
        cases post with
        | some _=>cases hf
        | none=>
         simp only
         split
         . rename_i hm;subst hm
           split
           . rename_i cs hat;obtain ⟨cap,e1,_,hu,vs,hr,hcl⟩:=arrrd pre c rfl;obtain ⟨hi',r,hdrop⟩:=Cell.zc9 hu hat;have hx:a.tmps.getD i Go.undef=.pointer (some ⟨blk (a.tmps.getD s' Go.undef),offV (a.tmps.getD s' Go.undef)+i'*c.esz+f,none⟩):=hx;rw [e1] at hx;have hfull:=hr.drop (i'*c.esz+f);rw [hdrop] at hfull;have hrd':=hfull.take cs.length;rw [List.take_left] at hrd';refine dat (.elt cs) ⟨b,pre.length+i'*c.esz+f,_,hx,fun j u hj=>⟨fun hx=>hx.2 rfl,?_⟩,hrd'⟩ (fun _ ht=>ht) rfl rfl;rw [List.getElem?_take] at hj;split at hj
             . rw [List.getElem?_drop] at hj
               have:=hcl _ u hj
               rw [show pre.length+i'*c.esz+f+j=pre.length+(i'*c.esz+f+j) by omega];exact this
             . cases hj
           . exact anyc
         . exact anyc
       | _=>exact anyc
     . rename_i e;exact same his (fun s' b' hr=>by simp only [AV.rf,Option.some.injEq,Prod.mk.injEq] at hr;rw [<-hr.1];exact e)
    | _=>exact same his (fun s' b' hr=>by cases hr)
 have hlive:∀ t,live (xlm s hv 0 σ) t->live σ t:=fun t ⟨i,y,hi,hy⟩=>by
  obtain ⟨x,hx,rfl⟩:=hget i y hi;exact (hslot i x hx).2.1 t hy
 refine RelI.mk h.hd (by rw [y37];exact h.hs) ?_ ?_ (fun b' o hm=>h.mb b' o hm.1) ?_ ?_ ?_ ?_ ?_ ?_ h.size h.os h.tape h.output h.frame
 . intro i y hi;obtain ⟨x,hx,rfl⟩:=hget i y hi;exact (hslot i x hx).1
 . intro b' o hm;refine ⟨h.m0 b' o hm,fun e=>?_⟩
   have:=E.hM b' o hm
   rw [e] at this;exact absurd this (by have:=hN;unfold Env.N at this;omega)
 . intro i y hi hy;obtain ⟨x,hx,rfl⟩:=hget i y hi;obtain ⟨hne,he⟩:=(hslot i x hx).2.2.1 hy;rw [he] at hy ⊢;have h1:=h.hold i x hx hy;refine ⟨fun o=>⟨h1.1 o,fun e=>hne ?_⟩,h1.2⟩;exact h.inj i s x hv hx hs hy hh (e.trans hb.symm)
 . intro i j y z hi hj hy hz;obtain ⟨x,hx,rfl⟩:=hget i y hi;obtain ⟨x',hx',rfl⟩:=hget j z hj;obtain ⟨_,he⟩:=(hslot i x hx).2.2.1 hy;obtain ⟨_,he'⟩:=(hslot j x' hx').2.2.1 hz;rw [he] at hy;rw [he'] at hz;exact h.inj i j x x' hx hx' hy hz
 . intro i y s' b' hi hr;obtain ⟨x,hx,rfl⟩:=hget i y hi;obtain ⟨hne,_,he⟩:=(hslot i x hx).2.2.2 s' b' hr;rw [he] at hr;obtain ⟨hv',h1,h2⟩:=h.refs i x s' b' hx hr;refine ⟨hv',?_,h2⟩;rw [xlr,h1];simp only [Option.map_some,Nat.zero_add,Option.some.injEq];unfold vek;rw [if_neg hne]
   cases hv'<;>first | rfl | (cases b'<;>cases h2)
 . intro t ht
   rcases h.toks t (hlive t ht) with h' | ⟨e,n,xs,ho,hm⟩
   . exact .inl h'
   . rcases ho.2 with ⟨h1,_⟩ | ⟨g,cap,cur,hv',hg,hh',hnc,r⟩
     . exact .inl ⟨none,h1⟩
     . cases cap with
       | zero=>exact .inl ⟨some ⟨g,0,none⟩,by rw [hv'];simp at hnc;rw [hnc]⟩
       | succ cap=>
        refine .inr ⟨e,n,xs,⟨ho.1,.inr ⟨g,cap+1,cur,hv',hg,hh',hnc,r⟩⟩,fun g' hg' o ho'=>⟨hm g' hg' o ho',fun e=>?_⟩⟩;subst e
        have hgg:g'=g:=by rw [hv'] at hg';simpa [Value.ownBlock] using hg'.symm
        exact h.tbox t s hv (hlive t ht) hs hh (by rw [hv',hb,hgg];rfl)
 . exact fun t t' g ht ht'=>h.tinj t t' g (hlive t ht) (hlive t' ht')
 . intro t i y ht hi hy;obtain ⟨x,hx,rfl⟩:=hget i y hi;obtain ⟨_,he⟩:=(hslot i x hx).2.2.1 hy;rw [he] at hy;exact h.tbox t i x (hlive t ht) hx hy
theorem StLe.frz (s:Nat) (σ:List AV):StLe σ (Go.Slot.frz s σ):=by
 unfold Go.Slot.frz
 split
 . rename_i cs hg;intro E a w ⟨τ,M,hI⟩;obtain ⟨M',h'⟩:=hI.freeze (w3d hg (by simp)) rfl;exact ⟨τ,M',h'⟩
 . rename_i pre c hg;intro E a w ⟨τ,M,hI⟩;obtain ⟨M',h'⟩:=hI.freeze (w3d hg (by simp)) rfl;exact ⟨τ,M',h'⟩
 . exact StLe.refl σ
inductive Gh where
 | frz (s:Nat)
 | any (s:Nat)
 | mv (s t:Nat)
 | join
 | lit
def w7y (s:Nat) (σ:List AV):List AV:=if nh σ s then σ.set s .any else σ
theorem LeS.w7y (s:Nat) (σ:List AV):LeS σ (σ.set s .any):=by
 induction σ generalizing s with
 | nil=>exact .nil
 | cons a σ ih=>
  cases s with
  | zero=>exact .cons (.any a) (LeS.refl σ)
  | succ s=>exact .cons (.refl a) (ih s)
theorem StLe.w7y (s:Nat) (σ:List AV):StLe σ (Go.Slot.w7y s σ):=by
 unfold Go.Slot.w7y
 split
 . rename_i hn;intro E a w ⟨τ,M,hI⟩;obtain ⟨old,hs,ho⟩:=z5w hn;have hlt:s<σ.length:=(List.getElem?_eq_some_iff.1 hs).1
   have hnot:∀ i x,σ[i]? = some x->x.xeo=true->i≠s:=fun i x hi hx e=>by
    subst e;rw [hs] at hi;cases hi;rw [ho] at hx;cases hx
   have hlive:∀ t,live (σ.set s .any) t->live σ t:=fun t ⟨i,x,hi,hx⟩=>by
    rcases getElem?_set_cases hi with ⟨_,rfl⟩ | ⟨_,hi⟩
    . exact hx.elim
    . exact ⟨i,x,hi,hx⟩
   refine ⟨τ,M,RelI.mk hI.hd (by simpa using hI.hs) ?_ hI.m0 hI.mb ?_ ?_ ?_ (fun t ht=>hI.toks t (hlive t ht)) (fun t t' g h1 h2=>hI.tinj t t' g (hlive t h1) (hlive t' h2)) ?_ hI.size hI.os hI.tape hI.output hI.frame⟩
   . intro i x hi
     rcases getElem?_set_cases hi with ⟨_,rfl⟩ | ⟨_,hi⟩
     . exact trivial
     . exact hI.slot i x hi
   . intro i x hi hx
     rcases getElem?_set_cases hi with ⟨_,rfl⟩ | ⟨_,hi⟩
     . cases hx
     . exact hI.hold i x hi hx
   . intro i j x y hi hj hx hy
     rcases getElem?_set_cases hi with ⟨_,rfl⟩ | ⟨_,hi⟩
     . cases hx
     . rcases getElem?_set_cases hj with ⟨_,rfl⟩ | ⟨_,hj⟩
       . cases hy
       . exact hI.inj i j x y hi hj hx hy
   . intro i x s' b hi hr
     rcases getElem?_set_cases hi with ⟨_,rfl⟩ | ⟨_,hi⟩
     . cases hr
     . obtain ⟨hv,h1,h2⟩:=hI.refs i x s' b hi hr;exact ⟨hv,by rw [List.getElem?_set_ne (Ne.symm (hnot s' hv h1 (AV.vgj h2)))];exact h1,h2⟩
   . intro t i x ht hi hx
     rcases getElem?_set_cases hi with ⟨_,rfl⟩ | ⟨_,hi⟩
     . cases hx
     . exact hI.tbox t i x (hlive t ht) hi hx
 . exact StLe.refl σ
def hitB (s i:Nat) (av:AV):Bool:=if i=s then true else match av.rf with
 | some (s',_)=>s'==s
 | none=>false
def ve8 (s i:Nat) (av:AV):AV:=if hitB s i av=true then .any else av
def zku (s:Nat):Nat->List AV->List AV
 | _,[]=>[]
 | i,av::r=>ve8 s i av::zku s (i+1) r
def yov (s:Nat) (σ:List AV):List AV:=zku s 0 σ
theorem v2r (s:Nat):∀(k:Nat) (σ:List AV) (i:Nat),(zku s k σ)[i]? = (σ[i]?).map (ve8 s (k+i))
 | _,[],i=>by simp [zku]
 | k,av::r,0=>by simp [zku]
 | k,av::r,i+1=>by
  simp only [zku,List.getElem?_cons_succ];rw [v2r s (k+1) r i,show k+1+i=k+(i+1) by omega]
theorem vfj (s:Nat):∀(k:Nat) (σ:List AV),(zku s k σ).length=σ.length
 | _,[]=>rfl
 | k,av::r=>by simp [zku,vfj s (k+1) r]
theorem wx9 (s:Nat) (σ:List AV):(yov s σ).length=σ.length:=vfj s 0 σ
theorem xx2 {s:Nat} {σ:List AV} {i:Nat} {y:AV} (h:(yov s σ)[i]? = some y):∃ x,σ[i]? = some x/\y=ve8 s i x:=by
 unfold yov at h;rw [v2r] at h;simp only [Nat.zero_add,Option.map_eq_some_iff] at h;obtain ⟨x,hx,rfl⟩:=h;exact ⟨x,hx,rfl⟩
theorem wln (s i:Nat) (x:AV):(ve8 s i x=.any)\/(ve8 s i x=x/\i≠s/\∀ s' b,x.rf=some (s',b)->s'≠s):=by
 unfold ve8
 split
 . exact .inl rfl
 . rename_i h;unfold hitB at h;split at h
   . exact absurd rfl h
   . rename_i hne;refine .inr ⟨rfl,hne,fun s' b e=>?_⟩;rw [e] at h;simpa using h
theorem RelI.yov {E:Env} {τ:Nat->TV} {M:Nat->Nat->Prop} {σ:List AV} {a:Act} {w:World} (h:RelI E τ M σ a w) (s:Nat):RelI E τ M (Go.Slot.yov s σ) a w:=by
 have hlive:∀ t,live (Go.Slot.yov s σ) t->live σ t:=fun t ⟨i,y,hi,hy⟩=>by
  obtain ⟨x,hx,rfl⟩:=xx2 hi
  rcases wln s i x with e | ⟨e,_⟩
  . rw [e] at hy;exact hy.elim
  . rw [e] at hy;exact ⟨i,x,hx,hy⟩
 have hh:∀(i:Nat) (y:AV),(Go.Slot.yov s σ)[i]? = some y->y.xeo=true->σ[i]? = some y:=fun (i:Nat) (y:AV) hi hy=>by
  obtain ⟨x,hx,rfl⟩:=xx2 hi
  rcases wln s i x with e | ⟨e,_⟩
  . rw [e] at hy;cases hy
  . rw [e];exact hx
 refine RelI.mk h.hd (by rw [wx9];exact h.hs) ?_ h.m0 h.mb (fun i y hi hy=>h.hold i y (hh i y hi hy) hy) (fun i j y z hi hj hy hz=>h.inj i j y z (hh i y hi hy) (hh j z hj hz) hy hz) ?_
  (fun t ht=>h.toks t (hlive t ht)) (fun t t' g ht ht'=>h.tinj t t' g (hlive t ht) (hlive t' ht')) (fun t i y ht hi hy=>h.tbox t i y (hlive t ht) (hh i y hi hy) hy) h.size h.os h.tape h.output h.frame
 . intro i y hi;obtain ⟨x,hx,rfl⟩:=xx2 hi
   rcases wln s i x with e | ⟨e,_⟩
   . rw [e];exact trivial
   . rw [e];exact h.slot i x hx
 . intro i y s' b hi hr;obtain ⟨x,hx,rfl⟩:=xx2 hi
   rcases wln s i x with e | ⟨e,hne,hrf⟩
   . rw [e] at hr;cases hr
   . rw [e] at hr;obtain ⟨hv,h1,h2⟩:=h.refs i x s' b hx hr;have hs':=hrf s' b hr;refine ⟨hv,?_,h2⟩;unfold Go.Slot.yov;rw [v2r,h1];simp only [Nat.zero_add,Option.map_some,Option.some.injEq]
     have:hv.rf=none:=by cases hv<;>first | rfl | (cases b<;>cases h2)
     unfold ve8 hitB;rw [if_neg hs',this];simp
theorem RelI.take {E:Env} {τ:Nat->TV} {M:Nat->Nat->Prop} {σ:List AV} {a:Act} {w:World} (h:RelI E τ M σ a w) {d:Nat} {old:AV} (hd:σ[d]? = some old) (hnh:old.xeo=false) (v:Value) (av:AV) (hav:av.xeo=true) (hfrs:av.fresh=true)
 (hN:E.N<=blk v) (hM:∀ o,M (blk v) o) (hfree:∀(i:Nat) (x:AV),σ[i]? = some x->x.xeo=true->blk (a.tmps.getD i Go.undef)≠blk v) (hfreet:∀ t,live σ t->tokB (τ t).v≠some (blk v))
 (hok:x5d M w τ a.tmps v av) (htok:∀ t,av.y1a t->live σ t):RelI E τ M (σ.set d av) (a.put (some d) v) w:=by
 have hlt:d<a.tmps.size:=h.lt hd
 have hns:∀(s:Nat) (b:Bool) (hv:AV),σ[s]? = some hv->hv.fits b=true->d≠s:=fun s b hv hs hf e=>by
  subst e;rw [hd] at hs;cases hs;have:=AV.vgj hf;rw [hnh] at this;cases this
 have hself:(a.tmps.setIfInBounds d v).getD d Go.undef=v:=by simp [hlt]
 have hlive:∀ t,live (σ.set d av) t->live σ t:=fun t ⟨i,x,hi,hx⟩=>by
  rcases getElem?_set_cases hi with ⟨_,rfl⟩ | ⟨_,hi⟩
  . exact htok t hx
  . exact ⟨i,x,hi,hx⟩
 refine RelI.mk h.hd (by simpa [Act.put] using h.hs) ?_ h.m0 h.mb ?_ ?_ ?_ (fun t ht=>h.toks t (hlive t ht)) (fun t t' g ht ht'=>h.tinj t t' g (hlive t ht) (hlive t' ht')) ?_ h.size h.os h.tape h.output h.frame
 . intro i x hi;show x5d _ w τ (a.tmps.setIfInBounds d v) ((a.tmps.setIfInBounds d v).getD i Go.undef) x
   rcases getElem?_set_cases hi with ⟨rfl,rfl⟩ | ⟨hne,hi⟩
   . rw [hself];exact hok.keep (fun _ _ _ h1 h2=>⟨h1,h2⟩) (fun _ _=>rfl) (fun s b hr=>by cases x<;>simp [AV.rf,AV.xeo] at hr hav) (fun _=>rfl)
   . rw [getD_set_ne (Ne.symm hne)];exact (h.slot i x hi).keep (fun _ _ _ h1 h2=>⟨h1,h2⟩) (fun _ _=>rfl) (fun s b hr=>by obtain ⟨hv,h1,h2⟩:=h.refs i x s b hi hr;exact getD_set_ne (hns s b hv h1 h2) v) (fun _=>rfl)
 . intro i x hi hh;show (∀ o',M (blk ((a.tmps.setIfInBounds d v).getD i Go.undef)) o')/\(_<=blk ((a.tmps.setIfInBounds d v).getD i Go.undef)\/E.X (blk ((a.tmps.setIfInBounds d v).getD i Go.undef)))/\(_->_<=blk ((a.tmps.setIfInBounds d v).getD i Go.undef))/\(_->(a.tmps.setIfInBounds d v).getD i Go.undef=_)
   rcases getElem?_set_cases hi with ⟨rfl,rfl⟩ | ⟨hne,hi⟩
   . rw [hself];exact ⟨hM,.inl hN,fun _=>hN,fun e=>by rw [hfrs] at e;cases e⟩
   . rw [getD_set_ne (Ne.symm hne)];exact h.hold i x hi hh
 . intro i j x y hi hj hx hy;show blk ((a.tmps.setIfInBounds d v).getD i Go.undef)=blk ((a.tmps.setIfInBounds d v).getD j Go.undef)->_
   rcases getElem?_set_cases hi with ⟨rfl,rfl⟩ | ⟨hne,hi'⟩
   . rcases getElem?_set_cases hj with ⟨rfl,rfl⟩ | ⟨hne',hj⟩
     . exact fun _=>rfl
     . rw [hself,getD_set_ne (Ne.symm hne')]
       exact fun e=>absurd e.symm (hfree j y hj hy)
   . rcases getElem?_set_cases hj with ⟨rfl,rfl⟩ | ⟨hne',hj⟩
     . rw [hself,getD_set_ne (Ne.symm hne)]
       exact fun e=>absurd e (hfree i x hi' hx)
     . rw [getD_set_ne (Ne.symm hne),getD_set_ne (Ne.symm hne')];exact h.inj i j x y hi' hj hx hy
 . intro i x s b hi hr
   have:∃ hv:AV,σ[s]? = some hv/\hv.fits b=true:=by
    rcases getElem?_set_cases hi with ⟨rfl,rfl⟩ | ⟨hne,hi⟩
    . cases x<;>simp [AV.rf,AV.xeo] at hr hav
    . exact h.refs i x s b hi hr
   obtain ⟨hv,h1,h2⟩:=this;exact ⟨hv,by rw [List.getElem?_set_ne (hns s b hv h1 h2)];exact h1,h2⟩
 . intro t i x ht hi hx;show _≠some (blk ((a.tmps.setIfInBounds d v).getD i Go.undef))
   rcases getElem?_set_cases hi with ⟨rfl,rfl⟩ | ⟨hne,hi⟩
   . rw [hself];exact hfreet t (hlive t ht)
   . rw [getD_set_ne (Ne.symm hne)];exact h.tbox t i x (hlive t ht) hi hx
def mvS (s t:Nat) (σ:List AV):List AV:=match gt σ t with
 | .asl s'=>if s'=s then match gt σ s with
  | .arr pre c none=>(yov s σ).set t (.arr pre c none)
  | _=>σ
  else σ
 | _=>σ
theorem wtp {a:Act} {d:Nat}:a.put (some d) (a.tmps.getD d Go.undef)=a:=by
 unfold Act.put
 cases a with
 | mk tmps defers=>
  simp only
  congr 1
  apply Array.ext
  . simp
  . intro i h1 h2;rw [Array.getElem_setIfInBounds]
    split
    . rename_i e;subst e;simp [h2]
    . rfl
theorem StLe.mvS (s t : Nat) (σ : List AV) : StLe σ (Go.Slot.mvS s t σ) := by
 unfold Go.Slot.mvS
 split
 . rename_i s' hgt
   split
   . rename_i e;subst e
     split
     . rename_i pre c hgs;intro E a w ⟨τ,M,hI⟩;have hs:=w3d hgs (by simp);have ht:=w3d hgt (by simp)
       have hne:t≠s':=fun e=>by subst e;rw [hs] at ht;cases ht
       have hv:a.tmps.getD t Go.undef=a.tmps.getD s' Go.undef:=by have:=hI.gt t;rw [hgt] at this;exact this
       have hold:=hI.hold s' _ hs rfl;have h1:=hI.yov s'
       have ht1:(yov s' σ)[t]? = some .any:=by
        unfold yov;rw [v2r,ht];simp only [Nat.zero_add,Option.map_some,Option.some.injEq];unfold ve8 hitB;rw [if_neg hne];simp [AV.rf]
       have h2:=h1.take ht1 rfl (a.tmps.getD t Go.undef) (.arr pre c none) rfl rfl (by rw [hv];exact hold.2.2.1 rfl) (by rw [hv];exact hold.1) (fun i x hi hx e=>by
        obtain ⟨y,hy,rfl⟩:=xx2 hi
        rcases wln s' i y with e' | ⟨e',hne',_⟩
        . rw [e'] at hx;cases hx
        . rw [e'] at hx;rw [hv] at e
          exact hne' (hI.inj i s' y _ hy hs hx rfl e)) (fun d hd=>by
        rw [hv];obtain ⟨i,y,hi,hy⟩:=hd;obtain ⟨x,hx,rfl⟩:=xx2 hi
        rcases wln s' i x with e' | ⟨e',_⟩
        . rw [e'] at hy;exact hy.elim
        . rw [e'] at hy
          exact hI.tbox d s' _ ⟨i,x,hx,hy⟩ hs rfl) (by rw [hv];have:=hI.slot s' _ hs;exact this) (fun d hd=>hd.elim)
       rw [wtp] at h2;exact ⟨τ,M,h2⟩
     . exact StLe.refl σ
   . exact StLe.refl σ
 . exact StLe.refl σ
def ghA:Gh->List AV->List AV
 | .frz s,σ=>frz s σ
 | .any s,σ=>w7y s σ
 | .mv s t,σ=>mvS s t σ
 | .join,σ=>σ
 | .lit,σ=>σ
def ghL:List Gh->List AV->List AV
 | [],σ=>σ
 | g::r,σ=>ghL r (wm3 (ghA g σ))
theorem StLe.ghA (g:Gh) (σ:List AV):StLe σ (Go.Slot.ghA g σ):=by
 cases g with
 | frz s=>exact StLe.frz s σ
 | any s=>exact StLe.w7y s σ
 | mv s t=>exact StLe.mvS s t σ
 | join=>exact StLe.refl σ
 | lit=>exact StLe.refl σ
theorem StLe.ghL:∀(l:List Gh) (σ:List AV),StLe σ (Go.Slot.ghL l σ)
 | [],σ=>StLe.refl σ
 | g::r,σ=>(StLe.ghA g σ).trans (by unfold Go.Slot.ghL;rw [w9r];exact StLe.ghL r _)
def anyH (av:AV):AV:=match av.xeo with
 | true=>av
 | false=>.any
def xcj:Bool->List Nat->List Nat
 | true,[]=>[]
 | true,_::ks=>ks
 | false,ks=>ks
def vmt:Bool->AV->AV
 | true,av=>av
 | false,av=>anyH av
def isK:List Nat->Nat->Bool
 | [],_=>false
 | k::_,i=>i==k
def zdc:List Nat->Nat->List AV->List AV
 | _,_,[]=>[]
 | ks,i,av::r=>vmt (isK ks i) av::zdc (xcj (isK ks i) ks) (i+1) r
def www (keep:List Nat) (σ:List AV):List AV:=zdc keep 0 σ
theorem x73 (av:AV):anyH av=av\/(anyH av=.any/\av.xeo=false):=by
 unfold anyH
 cases h:av.xeo with
 | true=>exact .inl rfl
 | false=>exact .inr ⟨rfl,rfl⟩
theorem zm5:∀(keep:List Nat) (k:Nat) (σ:List AV) (i:Nat),∃ f:AV->AV,(zdc keep k σ)[i]? = (σ[i]?).map f/\∀ x,f x=x\/(f x=.any/\x.xeo=false)
 | _,_,[],i=>⟨id,by simp [zdc],fun x=>.inl rfl⟩
 | ks,k,av::r,0=>by
  refine ⟨vmt (isK ks k),by simp [zdc],fun x=>?_⟩
  cases isK ks k with
  | true=>exact .inl rfl
  | false=>exact x73 x
 | ks,k,av::r,i+1=>by
  obtain ⟨f,h1,h2⟩:=zm5 (xcj (isK ks k) ks) (k+1) r i;exact ⟨f,by simpa [zdc] using h1,h2⟩
theorem vkf:∀(keep:List Nat) (k:Nat) (σ:List AV),(zdc keep k σ).length=σ.length
 | _,_,[]=>by simp [zdc]
 | ks,k,av::r=>by simp [zdc,vkf (xcj (isK ks k) ks) (k+1) r]
theorem StLe.only (keep:List Nat) (σ:List AV):StLe σ (www keep σ):=by
 intro E a w ⟨τ,M,h⟩
 have get:∀(i:Nat) (y:AV),(www keep σ)[i]? = some y->∃ x,σ[i]? = some x/\(y=x\/(y=.any/\x.xeo=false)):=fun i y hi=>by
  obtain ⟨f,h1,h2⟩:=zm5 keep 0 σ i;unfold www at hi;rw [h1] at hi;simp only [Option.map_eq_some_iff] at hi;obtain ⟨x,hx,rfl⟩:=hi;exact ⟨x,hx,h2 x⟩
 have hh:∀(i:Nat) (y:AV),(www keep σ)[i]? = some y->y.xeo=true->σ[i]? = some y:=fun i y hi hy=>by
  obtain ⟨x,hx,rfl | ⟨rfl,_⟩⟩:=get i y hi
  . exact hx
  . cases hy
 have hlive:∀ t,live (www keep σ) t->live σ t:=fun t ⟨i,y,hi,hy⟩=>by
  obtain ⟨x,hx,rfl | ⟨rfl,_⟩⟩:=get i y hi
  . exact ⟨i,y,hx,hy⟩
  . exact hy.elim
 refine ⟨τ,M,RelI.mk h.hd (by unfold www;rw [vkf];exact h.hs) ?_ h.m0 h.mb (fun i y hi hy=>h.hold i y (hh i y hi hy) hy) (fun i j y z hi hj hy hz=>h.inj i j y z (hh i y hi hy) (hh j z hj hz) hy hz) ?_
  (fun t ht=>h.toks t (hlive t ht)) (fun t t' g ht ht'=>h.tinj t t' g (hlive t ht) (hlive t' ht')) (fun t i y ht hi hy=>h.tbox t i y (hlive t ht) (hh i y hi hy) hy) h.size h.os h.tape h.output h.frame⟩
 . intro i y hi;obtain ⟨x,hx,rfl | ⟨rfl,_⟩⟩:=get i y hi
   . exact h.slot i y hx
   . exact trivial
 . intro i y s' b hi hr;obtain ⟨x,hx,rfl | ⟨rfl,_⟩⟩:=get i y hi
   . obtain ⟨hv,h1,h2⟩:=h.refs i y s' b hx hr;obtain ⟨f,h3,h4⟩:=zm5 keep 0 σ s';refine ⟨hv,?_,h2⟩;unfold www;rw [h3,h1]
     rcases h4 hv with e | ⟨_,e⟩
     . simp [e]
     . rw [AV.vgj h2] at e;cases e
   . cases hr
structure wuw (b:Nat) (w w':World):Prop where
 os:w'.os=w.os
 tape:w'.tape=w.tape
 output:w'.output=w.output
 size:w.heap.size<=w'.heap.size
 block:∀ k,k<w.heap.size->k≠b->w'.heap[k]? = w.heap[k]?
theorem wuw.keeps {b:Nat} {w w':World} (h:wuw b w w') {M:Nat->Nat->Prop} (hM:∀ o,M b o):xhx M M w w':=fun b' o u hm hc=>⟨hm,by
 have hl:=World.block_lt_of_cell? w _ hc
 have:=h.block b' hl (fun e=>hm (by rw [e];exact hM o))
 simp only [World.cell?,this] at hc ⊢
 exact hc⟩
theorem RelI.turn {E:Env} {τ:Nat->TV} {M:Nat->Nat->Prop} {σ:List AV} {a:Act} {w w':World} (h:RelI E τ M σ a w) {s:Nat} {old new:AV} (hs:σ[s]? = some old) (ho:old.xeo=true) (hn:new.xeo=true)
 (hf:∀ b,old.fits b=true->new.fits b=true) (hfr:new.fresh=old.fresh) (hbx:wuw (blk (a.tmps.getD s Go.undef)) w w') (hok:x5d M w' τ a.tmps (a.tmps.getD s Go.undef) new)
 (htok:∀ t,new.y1a t->live σ t):RelI E τ M (σ.set s new) a w':=by
 generalize hb:blk (a.tmps.getD s Go.undef)=b at *;have hM:∀ o,M b o:=hb▸(h.hold s old hs ho).1;have hk:xhx M M w w':=hbx.keeps hM
 have hlive:∀ t,live (σ.set s new) t->live σ t:=fun t ⟨i,x,hi,hx⟩=>by
  rcases getElem?_set_cases hi with ⟨_,rfl⟩ | ⟨_,hi⟩
  . exact htok t hx
  . exact ⟨i,x,hi,hx⟩
 refine RelI.mk h.hd (by simpa using h.hs) ?_ h.m0 (fun b o hm=>Nat.lt_of_lt_of_le (h.mb b o hm) hbx.size) ?_ ?_ ?_ ?_ ?_ ?_ (Nat.le_trans h.size hbx.size) (hbx.os.trans h.os) (hbx.tape.trans h.tape) (hbx.output.trans h.output) ?_
 . intro i x hi
   rcases getElem?_set_cases hi with ⟨rfl,rfl⟩ | ⟨hne,hi⟩
   . exact hok
   . refine (h.slot i x hi).keep hk (fun _ _=>rfl) (fun _ _ _=>rfl) (fun hh=>hbx.block _ ((h.slot i x hi).y87 hh) ?_)
     exact fun e=>hne (h.inj i s x old hi hs hh ho (e.trans hb.symm))
 . intro i x hi hh
   rcases getElem?_set_cases hi with ⟨rfl,rfl⟩ | ⟨hne,hi⟩
   . exact hfr▸h.hold i old hs ho
   . exact h.hold i x hi hh
 . intro i j x y hi hj hx hy
   have key:∀(i:Nat) (x:AV),(σ.set s new)[i]? = some x->x.xeo=true->∃ x':AV,σ[i]? = some x'/\x'.xeo=true:=fun i x hi hx=>by
    rcases getElem?_set_cases hi with ⟨rfl,rfl⟩ | ⟨hne,hi⟩
    . exact ⟨old,hs,ho⟩
    . exact ⟨x,hi,hx⟩
   obtain ⟨x',hi',hx'⟩:=key i x hi hx;obtain ⟨y',hj',hy'⟩:=key j y hj hy;exact h.inj i j x' y' hi' hj' hx' hy'
 . intro i x s' b' hi hr
   have:∃ hv:AV,σ[s']? = some hv/\hv.fits b'=true:=by
    rcases getElem?_set_cases hi with ⟨rfl,rfl⟩ | ⟨hne,hi⟩
    . cases x<;>simp [AV.rf,AV.xeo] at hr hn
    . exact h.refs i x s' b' hi hr
   obtain ⟨hv,h1,h2⟩:=this;by_cases e:s'=s
   . subst e;rw [hs] at h1;cases h1;have hl:s'<σ.length:=(List.getElem?_eq_some_iff.1 hs).1;exact ⟨new,by simp [hl],hf _ h2⟩
   . exact ⟨hv,by rw [List.getElem?_set_ne (Ne.symm e)];exact h1,h2⟩
 . intro t ht
   rcases h.toks t (hlive t ht) with h' | ⟨e,n,xs,hown,hm⟩
   . exact .inl h'
   . rcases hown.2 with ⟨h1,_⟩ | ⟨g,cap,cur,hv,hg,hh,hnc,r⟩
     . exact .inl ⟨none,h1⟩
     . cases cap with
       | zero=>exact .inl ⟨some ⟨g,0,none⟩,by rw [hv];simp at hnc;rw [hnc]⟩
       | succ cap=>
        refine .inr ⟨e,n,xs,⟨hown.1,.inr ⟨g,cap+1,cur,hv,hg,?_,hnc,r⟩⟩,hm⟩;rw [hbx.block g (Array.getElem?_eq_some_iff.1 hh).1]
        . exact hh
        . rintro rfl;exact h.tbox t s old (hlive t ht) hs ho (by rw [hv,hb];rfl)
 . exact fun t t' g ht ht'=>h.tinj t t' g (hlive t ht) (hlive t' ht')
 . intro t i x ht hi hx
   rcases getElem?_set_cases hi with ⟨rfl,rfl⟩ | ⟨hne,hi⟩
   . exact h.tbox t i old (hlive t ht) hs ho
   . exact h.tbox t i x (hlive t ht) hi hx
 . intro k hk' hx;rw [hbx.block k (Nat.lt_of_lt_of_le hk' h.size)]
   . exact h.frame k hk' hx
   . rintro rfl
     rcases (h.hold s old hs ho).2.1 with h1 | h1
     . rw [hb] at h1;omega
     . rw [hb] at h1;exact hx h1
def yho:Nat->TV:=fun _=>⟨Go.undef,0⟩
def XOk (M:Nat->Nat->Prop) (w:World) (v:Value) (av:AV):Prop:=x5d M w yho #[] v av/\av.xeo=true/\av.fresh=false/\(∀ t,¬av.y1a t)/\∀ o,M (blk v) o
theorem XOk.slot {M:Nat->Nat->Prop} {w:World} {v:Value} {av:AV} (h:XOk M w v av) (τ:Nat->TV) (tm:Array Value):x5d M w τ tm v av:=
 h.1.keep (fun _ _ _ h1 h2=>⟨h1,h2⟩) (fun d hd=>absurd hd (h.2.2.2.1 d)) (fun s b hr=>by have:=h.2.1;cases av<;>simp [AV.rf,AV.xeo] at hr this) (fun _=>rfl)
def RdXL (M:Nat->Nat->Prop) (w:World) (vs:List Value) (args:List AV) (j:Nat):Prop:=
 vs.length=args.length/\(∀ i v av,vs[i]? = some v->args[i]? = some av->i≠j->RdB M w v av)/\∃ v av,vs[j]? = some v/\args[j]? = some av/\XOk M w v av
def ResX (M:Nat->Nat->Prop) (w:World) (vj v:Value):AV->Prop
 | .awn _ m lo n=>∃ ad cap,v=.slice ad n cap/\(cap≠0\/lo=0->ad=some ⟨blk vj,offV vj+lo*m,none⟩)/\n<=cap/\lo+cap<=capV vj
 | .asl _=>v=vj
 | res=>res.xeo=false/\RdR M w v res
def xwl (P:Program) (f:FuncId) (args:List AV) (j:Nat) (out res:AV):Prop:=
 za1 P f/\∀(M:Nat->Nat->Prop) (w:World) (vs:List Value),Bounded M w->RdXL M w vs args j->
  Calls P f vs.toArray w (fun e w'=>∃ v vj,e=.returned v/\vs[j]? = some vj/\wuw (blk vj) w w'/\XOk M w' vj out/\ResX M w' vj v res)
theorem vn8 {M:Nat->Nat->Prop} {w:World} {vs:List Value} {args:List AV} {j:Nat} {vj:Value} (hM:Bounded M w) (h:RdXL M w vs args j) (hvj:vs[j]? = some vj) (n:Nat) :
 Rel ⟨w,M,fun b=>b=blk vj,vs.toArray++Array.replicate n Go.undef,[],hM⟩ (args++List.replicate n .undef) { tmps:=vs.toArray++Array.replicate n Go.undef,defers:=[] } w:=by
 obtain ⟨hlen,hdat,v0,av0,hv0,ha0,hx⟩:=h;rw [hvj] at hv0;cases hv0
 have htm:∀ i v,vs[i]? = some v->(vs.toArray++Array.replicate n Go.undef).getD i Go.undef=v:=fun i v hv=>by
  have hvl:i<vs.length:=(List.getElem?_eq_some_iff.1 hv).1;rw [List.getElem?_eq_getElem hvl] at hv;simp at hv;simp [Array.getD_eq_getD_getElem?,Array.getElem?_append,hvl,hv]
 have hj:j<args.length:=(List.getElem?_eq_some_iff.1 ha0).1;have hnot:∀(i:Nat) (av:AV),(args++List.replicate n AV.undef)[i]? = some av->(i=j/\av=av0/\(vs.toArray++Array.replicate n Go.undef).getD i Go.undef=vj)\/
  (i≠j/\∃ v,(vs.toArray++Array.replicate n Go.undef).getD i Go.undef=v/\RdB M w v av):=by
  intro i av hi;by_cases hlt:i<args.length
  . rw [List.getElem?_append_left hlt] at hi;by_cases hij:i=j
    . subst hij;rw [ha0] at hi;cases hi;exact .inl ⟨rfl,rfl,htm i vj hvj⟩
    . have hvl:i<vs.length:=by omega
      exact .inr ⟨hij,vs[i],htm i _ (List.getElem?_eq_getElem hvl),hdat i _ av (List.getElem?_eq_getElem hvl) hi hij⟩
  . rw [List.getElem?_append_right (by omega)] at hi
    have hav:av=.undef:=by
     have:=List.mem_of_getElem? hi
     exact (List.mem_replicate.1 this).2
    subst hav;refine .inr ⟨by omega,Go.undef,?_,rfl⟩;simp only [Array.getD_eq_getD_getElem?,Array.getElem?_append];rw [if_neg (by simp;omega)];simp only [Array.getElem?_replicate]
    split<;>rfl
 have props:∀(v:Value) (av:AV),RdB M w v av->av.xeo=false/\av.rf=none/\(∀ t,¬av.y1a t):=fun v av hr=>by
  cases av with
  | one c=>exact ⟨rfl,rfl,(RdB.slot (τ:=yho) (tm:=#[]) hr).2⟩
  | agg c=>exact ⟨rfl,rfl,(RdB.slot (τ:=yho) (tm:=#[]) hr).2⟩
  | elt c=>exact ⟨rfl,rfl,fun t ht=>ht⟩
  | any=>exact ⟨rfl,rfl,fun t ht=>ht⟩
  | undef=>exact ⟨rfl,rfl,fun t ht=>ht⟩
  | _=>exact hr.elim
 have nolive:∀ t,¬live (args++List.replicate n AV.undef) t:=fun t ⟨i,x,hi,hxt⟩=>by
  rcases hnot i x hi with ⟨_,rfl,_⟩ | ⟨_,v,_,hr⟩
  . exact hx.2.2.2.1 t hxt
  . exact (props v x hr).2.2 t hxt
 refine ⟨yho,M,RelI.mk rfl (by simp [hlen]) ?_ (fun _ _ h=>h) hM ?_ ?_ ?_ (fun t ht=>absurd ht (nolive t)) (fun t _ _ ht=>absurd ht (nolive t)) (fun t _ _ ht=>absurd ht (nolive t)) (Nat.le_refl _) rfl rfl rfl (fun _ _ _=>rfl)⟩
 . intro i av hi
   rcases hnot i av hi with ⟨_,rfl,e⟩ | ⟨_,v,hv,hr⟩
   . show x5d M w _ _ ((vs.toArray++Array.replicate n Go.undef).getD i Go.undef) av;rw [e];exact hx.slot _ _
   . show x5d M w _ _ ((vs.toArray++Array.replicate n Go.undef).getD i Go.undef) av;rw [hv];exact (RdB.slot hr).1
 . intro i av hi hh
   rcases hnot i av hi with ⟨_,rfl,e⟩ | ⟨_,v,hv,hr⟩
   . show (∀ o,M (blk ((vs.toArray++Array.replicate n Go.undef).getD i Go.undef)) o)/\(_<=blk ((vs.toArray++Array.replicate n Go.undef).getD i Go.undef)\/blk ((vs.toArray++Array.replicate n Go.undef).getD i Go.undef)=blk vj)/\(_->_)/\(_->(vs.toArray++Array.replicate n Go.undef).getD i Go.undef=(vs.toArray++Array.replicate n Go.undef).getD i Go.undef);rw [e];exact ⟨hx.2.2.2.2,.inr rfl,(fun hf=>by rw [hx.2.2.1] at hf;cases hf),fun _=>rfl⟩
   . rw [(props v av hr).1] at hh;cases hh
 . intro i j' x y hi hj' hxh hyh _
   rcases hnot i x hi with ⟨rfl,_,_⟩ | ⟨_,v,hv,hr⟩
   . rcases hnot j' y hj' with ⟨rfl,_,_⟩ | ⟨_,v,hv,hr⟩
     . rfl
     . rw [(props v y hr).1] at hyh;cases hyh
   . rw [(props v x hr).1] at hxh;cases hxh
 . intro i av s b hi hr'
   rcases hnot i av hi with ⟨_,rfl,e⟩ | ⟨_,v,hv,hr⟩
   . have:=hx.2.1
     cases av<;>simp [AV.rf,AV.xeo] at hr' this
   . rw [(props v av hr).2.1] at hr';cases hr'
def retX (P:Program) (rs:List ResultVar) (j:Nat) (out res:AV):Exit->List AV->Prop
 | .ret,σ | .normal,σ=>gt σ j=out/\out.xeo=true/\out.fresh=false/\(match res with
  | .awn _ m lo n=>∃ t,rs=[.tmp t]/\gt σ t=.awn j m lo n
  | .asl _=>∃ t,rs=[.tmp t]/\gt σ t=.asl j
  | res=>res.xeo=false/\∃ av,wv1 P σ rs=some av/\RLe av res)
 | _,_=>False
theorem ytj {fn:Func} {t:Nat} (h:fn.results.toList=[.tmp t]) (tm:Array Value) (w:World):(results fn tm).run P w=.ok (tm.getD t Go.undef) w:=by
 have hres:fn.results=#[.tmp t]:=by rw [<-Array.toArray_toList (xs:=fn.results),h]
 unfold results;rw [hres];simp
theorem xwl.of {f:FuncId} {fn:Func} {c:Code} {args:List AV} {j:Nat} {out res:AV} (hf:P.funcs[f]? = some fn) (hb:fn.body=some c) (hname:(fn.name == "runtime.NumGoroutine")=false)
 (hnt:∀ t,¬out.y1a t) (h:vfq P c (retX P fn.results.toList j out res) (args++List.replicate (fn.ntmps-args.length) .undef)):xwl P f args j out res:=by
 refine ⟨⟨fn,hf,hname,by rw [hb];rfl⟩,fun M w vs hM hrd=>?_⟩;have hlen:=hrd.1;obtain ⟨vj,avj,hvj,haj,hx⟩:=hrd.2.2;refine calls_of_wp hf hb ?_;have hstart:=vn8 hM hrd hvj (fn.ntmps-args.length)
 have hsz:vs.toArray.size=args.length:=by simp [hlen]
 rw [hsz];refine wp_mono (h _ _ w hstart) ?_;rintro e a w' ⟨σ,hq,hR⟩
 have hargs:(vs.toArray++Array.replicate (fn.ntmps-args.length) Go.undef).getD j Go.undef=vj:=by
  have hvl:j<vs.length:=(List.getElem?_eq_some_iff.1 hvj).1;rw [List.getElem?_eq_getElem hvl] at hvj;simp at hvj;simp [Array.getD_eq_getD_getElem?,Array.getElem?_append,hvl,hvj]
 have fin:retX P fn.results.toList j out res .ret σ->a.defers=[]/\∃ v,(results fn a.tmps).run P w'=.ok v w'/\
  ∃ v0 vj,Ending.returned v=.returned v0/\vs[j]? = some vj/\wuw (blk vj) w w'/\XOk M w' vj out/\ResX M w' vj v0 res:=fun hq=>by
  obtain ⟨hg,hho,hfr,hres⟩:=hq;have hR0:=hR;obtain ⟨τ,M',hI⟩:=hR
  have hne:out≠.any:=fun e=>by rw [e] at hho;cases hho
  have hgs:=w3d hg hne;have hold:=hI.hold j out hgs hho;have hval:a.tmps.getD j Go.undef=vj:=(hold.2.2.2 hfr).trans hargs;have hss:=hI.gt j;rw [hg,hval] at hss;have hX:XOk M w' vj out:=⟨hss.keep (xhx.shrink w' hI.m0) (fun d hd=>absurd hd (hnt d)) (fun s b hr=>by cases out<;>simp [AV.rf,AV.xeo] at hr hho) (fun _=>rfl),hho,hfr,hnt,hx.2.2.2.2⟩;have hB:wuw (blk vj) w w':=⟨hI.os,hI.tape,hI.output,hI.size,fun k hk hne=>hI.frame k hk hne⟩;refine ⟨hI.hd,?_⟩
  have plain:(res.xeo=false/\∃ av,wv1 P σ fn.results.toList=some av/\RLe av res)->∃ v,(results fn a.tmps).run P w'=.ok v w'/\res.xeo=false/\RdR M w' v res:=fun ⟨h1,av,h2,h3⟩=>by
   obtain ⟨v,hrun,hrd',_⟩:=wjc (fn:=fn) hR0 h2 h3;exact ⟨v,hrun,h1,hrd'⟩
  cases res with
  | awn s m lo n=>
   obtain ⟨t,hrs,hgt⟩:=hres;refine ⟨_,ytj hrs a.tmps w',_,vj,rfl,hvj,hB,hX,?_⟩;have hs:=hI.gt t;rw [hgt] at hs;obtain ⟨ad,cap,e1,h1,h2,h3⟩:=hs;rw [hval] at h1 h3;exact ⟨ad,cap,e1,h1,h2,h3⟩
  | asl s=>
   obtain ⟨t,hrs,hgt⟩:=hres;refine ⟨_,ytj hrs a.tmps w',_,vj,rfl,hvj,hB,hX,?_⟩;have hs:=hI.gt t;rw [hgt] at hs;exact Eq.trans hs hval
  | _=>
   obtain ⟨v,hrun,hh,hr⟩:=plain hres;exact ⟨v,hrun,v,vj,rfl,hvj,hB,hX,hh,hr⟩
 cases e with
 | normal=>exact fin hq
 | ret=>exact fin hq
 | _=>exact hq.elim
end Go.Slot
