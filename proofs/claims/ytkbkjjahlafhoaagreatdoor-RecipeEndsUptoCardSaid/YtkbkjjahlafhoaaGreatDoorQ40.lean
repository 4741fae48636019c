/- The proof, part Q40: 7p, 4c. -/
import Derived.Test.YtkbkjjahlafhoaaGreatDoorQ38
import Derived.Test.YtkbkjjahlafhoaaGreatDoorQ39
namespace Go.Hp.T
open Go Go.RowKit Go.Slot Go.Hp Go.Slot.T
set_option maxRecDepth 10000
variable {k:Int} {w:ByteArray} {y:Int×Int} {α:Type} {i j:Nat} {P:List (Int×Int)}
section
variable {s:Sht} {x:Rcp}
theorem zrv (h:zv2 s x=true):(∀ y∈x.steps,xim s y=true/\∀ w∈y.cells,vw7 s w=true)/\(∀ y∈s.inputs,whI x y=true)/\(∀ y∈s.imports,x0w x.steps 1 y.name=1)/\∀ y∈s.ports,x0w x.steps 5 y.name=1:=by
 unfold zv2 whS whM whP at h;simp only [Bool.and_eq_true,List.all_eq_true,decide_eq_true_eq] at h;exact ⟨h.1,h.2.2.1,h.2.2.2.1,h.2.2.2.2⟩
end
def srcO (s:Sht) (y:Stp):Option Src:=bif decide (y.kind=0) then some ⟨0,idxI s y.name,0⟩ else bif decide (y.kind=1) then some ⟨1,idxM s y.name,0⟩ else bif decide (y.kind=2) then some ⟨2,idxS s y.name,y.amount⟩ else none
def outO (s:Sht) (y:Stp):Option Ot:=bif decide (y.kind=5) then some ⟨0,idxP s y.name,0,⟨#[]⟩⟩ else bif decide (y.kind=6) then some ⟨1,idxS s y.name,y.amount,⟨#[]⟩⟩ else bif decide (y.kind=7) then some ⟨2,0,0,y.name⟩ else bif decide (y.kind=8) then some ⟨3,0,0,⟨#[]⟩⟩ else none
def othS (y:Stp):Bool:=decide (y.kind=3)||decide (y.kind=4)
def othN (l:List Stp):Nat:=(l.filter othS).length
abbrev kiS (y:Src):Int×Int:=(y.kind,y.index)
abbrev kiO (y:Ot):Int×Int:=(y.kind,y.index)
def cntP (k:Int) (j:Nat) (P:List (Int×Int)):Nat:=(P.filter fun y=>decide (y.1=k)&&decide (y.2=(j:Int))).length
section
variable {s:Sht} {r:Int} {x:Rcp} {cs:List Sc}
theorem xkp (h:0<=k/\k<=8):k=0\/k=1\/k=2\/k=3\/k=4\/k=5\/k=6\/k=7\/k=8:=by omega
theorem y53 {w:Wk} {y:Stp} (h:0<=y.kind/\y.kind<=8):(vlo s cs w y).srcs=w.srcs++(srcO s y).toList/\(vlo s cs w y).outs=w.outs++(outO s y).toList/\(srcO s y).toList.length+(outO s y).toList.length+(if othS y=true then 1 else 0)=1:=by
 unfold vlo srcO outO othS
 rcases xkp h with hk | hk | hk | hk | hk | hk | hk | hk | hk<;>rw [hk]<;>exact ⟨by first | rfl | exact (List.append_nil _).symm,by first | rfl | exact (List.append_nil _).symm,rfl⟩
theorem y7c {l:List Stp} (hst:∀ y∈l,xn0 y=true):∀ n,n<=l.length->(ytm s cs l nilW n).srcs=(l.take n).filterMap (srcO s)/\(ytm s cs l nilW n).outs=(l.take n).filterMap (outO s)/\((l.take n).filterMap (srcO s)).length+((l.take n).filterMap (outO s)).length+othN (l.take n)=n
 | 0,_=>⟨rfl,rfl,rfl⟩
 | n+1,hn=>by
  obtain ⟨h1,h2,h3⟩:=y7c hst n (by omega);obtain ⟨g1,g2,g3⟩:=y53 (s:=s) (cs:=cs) (w:=ytm s cs l nilW n) (xiq (hst _ (z1y (show n<l.length by omega))))
  have e:∀{β:Type} (o:Stp->Option β),(l.take (n+1)).filterMap o=(l.take n).filterMap o++(o (l.getD n default)).toList:=fun o=>by
   rw [vys (by omega),List.filterMap_append]
   cases ho:o (l.getD n default) with
   | none=>rw [List.filterMap_cons_none ho];rfl
   | some z=>rw [List.filterMap_cons_some ho];rfl
  have e2:othN (l.take (n+1))=othN (l.take n)+(if othS (l.getD n default)=true then 1 else 0):=by
   unfold othN;rw [vys (by omega),List.filter_append,List.length_append,List.filter_cons,List.filter_nil]
   cases othS (l.getD n default)<;>rfl
  rw [ytm,g1,g2,h1,h2,e,e,e2,List.length_append,List.length_append];exact ⟨rfl,rfl,by omega⟩
theorem xn1 (y:Stp) (l:List Stp) (K:Int) (w:ByteArray):x0w (y::l) K w=(if y.kind=K/\y.name=w then 1 else 0)+x0w l K w:=by
 unfold x0w;rw [List.filter_cons,z8u];by_cases c:y.kind=K/\y.name=w
 . rw [if_pos c,if_pos (by rw [c.1,c.2];simp),List.length_cons];omega
 . rw [if_neg c,if_neg (by simpa using c)];omega
theorem z8v (p:Int×Int) (P:List (Int×Int)) (k:Int) (j:Nat):cntP k j (p::P)=(if p.1=k/\p.2=j then 1 else 0)+cntP k j P:=by
 unfold cntP;rw [List.filter_cons];by_cases c:p.1=k/\p.2=j
 . rw [if_pos c,if_pos (by rw [c.1,c.2];simp),List.length_cons];omega
 . rw [if_neg c,if_neg (by simpa using c)];omega
theorem zan {o:Stp->Option (Int×Int)} {k K:Int} {j:Nat} {w:ByteArray}:∀ l:List Stp,(∀ y∈l,(∃ p,o y=some p/\p.1=k/\p.2=j)↔(y.kind=K/\y.name=w))->cntP k j (l.filterMap o)=x0w l K w
 | [],_=>rfl
 | y::l,h=>by
  have ih:=zan l (fun z hz=>h z (List.mem_cons_of_mem _ hz));have hy:=h y List.mem_cons_self;rw [xn1,<-ih]
  cases ho:o y with
  | none=>
   rw [List.filterMap_cons_none ho,if_neg (fun c=>by obtain ⟨p,hp,_⟩:=hy.2 c;rw [ho] at hp;cases hp),Nat.zero_add]
  | some p=>
   rw [List.filterMap_cons_some ho,z8v];by_cases c:y.kind=K/\y.name=w
   . obtain ⟨q,hq,h1⟩:=hy.2 c;rw [ho] at hq;cases hq;rw [if_pos c,if_pos h1]
   . rw [if_neg c,if_neg (fun hp=>c (hy.1 ⟨p,ho,hp⟩))]
theorem wsj [Inhabited α] {nm:α->ByteArray} {L:List α} (hd:L.Pairwise fun a b=>¬nm a=nm b) (hi:i<L.length) (hj:j<L.length) (e:nm (L.getD i default)=nm (L.getD j default)):i=j:=by
 rw [ldE hi,ldE hj] at e;rw [List.pairwise_iff_getElem] at hd
 rcases Nat.lt_trichotomy i j with h | h | h
 . exact absurd e (hd i j hi hj h)
 . exact h
 . exact absurd e.symm (hd j i hj hi h)
theorem yli [Inhabited α] {nm:α->ByteArray} {L:List α} (hd:L.Pairwise fun a b=>¬nm a=nm b) (hx:∃ z∈L,nm z=w) (hj:j<L.length):idxF (fun c=>seq (nm c) w) L=(j:Int)↔w=nm (L.getD j default):=by
 obtain ⟨z,hz,hn⟩:=hx;have h0:0<=idxF (fun c=>seq (nm c) w) L:=ylv ⟨z,hz,seqt.2 hn⟩;obtain ⟨h1,h2⟩:=vu8 h0;have h2:=seqt.1 h2;constructor
 . intro e;rw [e,Int.toNat_natCast] at h2;exact h2.symm
 . intro e
   have:=wsj hd h1 hj (h2.trans e)
   omega
theorem v28 (h:vtb s=true):(s.inputs.Pairwise fun a b=>¬a.name=b.name)/\(s.imports.Pairwise fun a b=>¬a.name=b.name)/\(s.ports.Pairwise fun a b=>¬a.name=b.name):=by
 unfold vtb xlo xye at h;simp only [Bool.and_eq_true] at h;have h1:=h.1.1;have h2:=(v67 (v67 (v67 h1).1).1).1;have h3:=(v67 h2).1;have h4:=(v67 h3).1;have h5:=(v67 h4).1;exact ⟨z3k (U:=inpU) h4,z3k (U:=impU) h5,z3k (U:=porU) h3⟩
structure zht (s:Sht) (x:Rcp) (f:Fl):Prop where
 sl:f.srcs.length<=1000
 ol:f.outs.length<=1000
 si:∀ i,i<f.srcs.length->0<=(f.srcs.getD i default).index/\((f.srcs.getD i default).kind=0->(f.srcs.getD i default).index<s.inputs.length)/\((f.srcs.getD i default).kind=1->(f.srcs.getD i default).index<s.imports.length)/\((f.srcs.getD i default).kind=2->(f.srcs.getD i default).index<s.stores.length)
 oi:∀ i,i<f.outs.length->0<=(f.outs.getD i default).index/\((f.outs.getD i default).kind=0->(f.outs.getD i default).index<s.ports.length)/\((f.outs.getD i default).kind=1->(f.outs.getD i default).index<s.stores.length)
 mt:∀ j,j<s.inputs.length->cntP 0 j (f.srcs.map kiS)=if seq (s.inputs.getD j default).kind x.kind=true then 1 else 0
 tk:∀ j,j<s.imports.length->cntP 1 j (f.srcs.map kiS)=1
 gv:∀ j,j<s.ports.length->cntP 0 j (f.outs.map kiO)=1
 ln:x.steps.length=f.srcs.length+f.outs.length+othN x.steps
theorem vry [Inhabited α] {nm:α->ByteArray} {L:List α} (hx:L.any (fun z=>seq (nm z) w)=true):0<=idxF (fun c=>seq (nm c) w) L/\idxF (fun c=>seq (nm c) w) L<L.length:=by
 obtain ⟨z,hz,hn⟩:=List.any_eq_true.1 hx;have h0:0<=idxF (fun c=>seq (nm c) w) L:=ylv ⟨z,hz,hn⟩
 have:=(vu8 h0).1
 omega
theorem vgv {nm:α->ByteArray} {L:List α} (hx:L.any (fun z=>seq (nm z) w)=true):∃ z∈L,nm z=w:=by
 obtain ⟨z,hz,hn⟩:=List.any_eq_true.1 hx;exact ⟨z,hz,seqt.1 hn⟩
theorem xsk {y:Stp} (h:xim s y=true):(y.kind=0->s.inputs.any (fun z=>seq z.name y.name)=true)/\(y.kind=1->s.imports.any (fun z=>seq z.name y.name)=true)/\(y.kind=2\/y.kind=6->s.stores.any (fun z=>seq z.name y.name)=true)/\(y.kind=5->s.ports.any (fun z=>seq z.name y.name)=true):=by
 unfold xim at h;refine ⟨fun hk=>?_,fun hk=>?_,fun hk=>?_,fun hk=>?_⟩
 . rw [hk] at h;exact h
 . rw [hk] at h;exact h
 . rcases hk with hk | hk<;>(rw [hk] at h;exact h)
 . rw [hk] at h;exact h
theorem z8i (h:Acc s r x) (hst:∀ y∈x.steps,xn0 y=true) (hl:x.steps.length<=100):zht s x (xjd (ytm s cs x.steps nilW x.steps.length)):=by
 obtain ⟨p1,p2,p3,p4⟩:=zrv (h.whole hst);obtain ⟨d1,d2,d3⟩:=v28 h.hR;obtain ⟨w1,w2,w3⟩:=y7c (s:=s) (cs:=cs) hst x.steps.length (Nat.le_refl _);rw [List.take_length] at w1 w2 w3;have e1:(xjd (ytm s cs x.steps nilW x.steps.length)).srcs=x.steps.filterMap (srcO s):=w1;have e2:(xjd (ytm s cs x.steps nilW x.steps.length)).outs=x.steps.filterMap (outO s):=w2;generalize xjd (ytm s cs x.steps nilW x.steps.length)=f at *
 have ht:=fun y hy=>xsk (p1 y hy).1
 refine ⟨by rw [e1];omega,by rw [e2];omega,fun i hi=>?_,fun i hi=>?_,fun j hj=>?_,fun j hj=>?_,fun j hj=>?_,by rw [e1,e2];exact w3.symm⟩
 . have hm:=z1y hi;rw [e1] at hm;rw [e1];generalize (x.steps.filterMap (srcO s)).getD i default=z at *;obtain ⟨y,hy,hz⟩:=List.mem_filterMap.1 hm;obtain ⟨t0,t1,t2,_⟩:=ht y hy;unfold srcO at hz
   rcases xkp (xiq (hst y hy)) with hk | hk | hk | hk | hk | hk | hk | hk | hk<;>rw [hk] at hz<;>first | (cases hz;done) | skip
   . injection (show some (⟨0,idxI s y.name,0⟩:Src)=some z from hz) with hz
     subst hz
     have:=vry (t0 hk)
     exact ⟨this.1,fun _=>this.2,fun hh=>absurd hh (by dsimp only;decide),fun hh=>absurd hh (by dsimp only;decide)⟩
   . injection (show some (⟨1,idxM s y.name,0⟩:Src)=some z from hz) with hz
     subst hz
     have:=vry (t1 hk)
     exact ⟨this.1,fun hh=>absurd hh (by dsimp only;decide),fun _=>this.2,fun hh=>absurd hh (by dsimp only;decide)⟩
   . injection (show some (⟨2,idxS s y.name,y.amount⟩:Src)=some z from hz) with hz
     subst hz
     have:=vry (t2 (.inl hk))
     exact ⟨this.1,fun hh=>absurd hh (by dsimp only;decide),fun hh=>absurd hh (by dsimp only;decide),fun _=>this.2⟩
 . have hm:=z1y hi;rw [e2] at hm;rw [e2];generalize (x.steps.filterMap (outO s)).getD i default=z at *;obtain ⟨y,hy,hz⟩:=List.mem_filterMap.1 hm;obtain ⟨_,_,t2,t3⟩:=ht y hy;unfold outO at hz
   rcases xkp (xiq (hst y hy)) with hk | hk | hk | hk | hk | hk | hk | hk | hk<;>rw [hk] at hz<;>first | (cases hz;done) | skip
   . injection (show some (⟨0,idxP s y.name,0,⟨#[]⟩⟩:Ot)=some z from hz) with hz
     subst hz
     have:=vry (t3 hk)
     exact ⟨this.1,fun _=>this.2,fun hh=>absurd hh (by dsimp only;decide)⟩
   . injection (show some (⟨1,idxS s y.name,y.amount,⟨#[]⟩⟩:Ot)=some z from hz) with hz
     subst hz
     have:=vry (t2 (.inr hk))
     exact ⟨this.1,fun hh=>absurd hh (by dsimp only;decide),fun _=>this.2⟩
   . injection (show some (⟨2,0,0,y.name⟩:Ot)=some z from hz) with hz
     subst hz;exact ⟨Int.le_refl _,fun hh=>absurd hh (by dsimp only;decide),fun hh=>absurd hh (by dsimp only;decide)⟩
   . injection (show some (⟨3,0,0,⟨#[]⟩⟩:Ot)=some z from hz) with hz
     subst hz;exact ⟨Int.le_refl _,fun hh=>absurd hh (by dsimp only;decide),fun hh=>absurd hh (by dsimp only;decide)⟩
 . rw [e1, List.map_filterMap, zan (K := 0) (w := (s.inputs.getD j default).name)]
   . have:=p2 _ (z1y hj)
     unfold whI at this
     cases hq:seq (s.inputs.getD j default).kind x.kind with
     | true=>
      rw [hq,cond_true] at this;rw [if_pos rfl];exact of_decide_eq_true this
     | false=>
      rw [hq,cond_false] at this;rw [if_neg (by decide)];exact of_decide_eq_true this
   . intro y hy;unfold srcO
     rcases xkp (xiq (hst y hy)) with hk | hk | hk | hk | hk | hk | hk | hk | hk<;>rw [hk]
     . have:=yli (nm:=Inp.name) d1 (vgv ((ht y hy).1 hk)) hj
       exact ⟨fun ⟨p,hp,_,h2⟩=>⟨rfl,this.1 (by injection hp with hp;rw [<-hp] at h2;exact h2)⟩,fun ⟨_,h2⟩=>⟨_,rfl,rfl,this.2 h2⟩⟩
     all_goals exact ⟨fun ⟨p,hp,h1,_⟩=>by first | (cases hp;done) | (injection hp with hp;rw [<-hp] at h1;exact absurd h1 (by dsimp only [kiS,kiO];decide)),fun ⟨h1,_⟩=>absurd h1 (by decide)⟩
 . rw [e1,List.map_filterMap,zan (K:=1) (w:=(s.imports.getD j default).name)]
   . exact p3 _ (z1y hj)
   . intro y hy;unfold srcO
     rcases xkp (xiq (hst y hy)) with hk | hk | hk | hk | hk | hk | hk | hk | hk<;>rw [hk]
     rotate_left
     . have:=yli (nm:=Imp.name) d2 (vgv ((ht y hy).2.1 hk)) hj
       exact ⟨fun ⟨p,hp,_,h2⟩=>⟨rfl,this.1 (by injection hp with hp;rw [<-hp] at h2;exact h2)⟩,fun ⟨_,h2⟩=>⟨_,rfl,rfl,this.2 h2⟩⟩
     all_goals exact ⟨fun ⟨p,hp,h1,_⟩=>by first | (cases hp;done) | (injection hp with hp;rw [<-hp] at h1;exact absurd h1 (by dsimp only [kiS,kiO];decide)),fun ⟨h1,_⟩=>absurd h1 (by decide)⟩
 . rw [e2,List.map_filterMap,zan (K:=5) (w:=(s.ports.getD j default).name)]
   . exact p4 _ (z1y hj)
   . intro y hy;unfold outO
     rcases xkp (xiq (hst y hy)) with hk | hk | hk | hk | hk | hk | hk | hk | hk<;>rw [hk]
     rotate_left 5
     . have:=yli (nm:=Por.name) d3 (vgv ((ht y hy).2.2.2 hk)) hj
       exact ⟨fun ⟨p,hp,_,h2⟩=>⟨rfl,this.1 (by injection hp with hp;rw [<-hp] at h2;exact h2)⟩,fun ⟨_,h2⟩=>⟨_,rfl,rfl,this.2 h2⟩⟩
     all_goals exact ⟨fun ⟨p,hp,h1,_⟩=>by first | (cases hp;done) | (injection hp with hp;rw [<-hp] at h1;exact absurd h1 (by dsimp only [kiS,kiO];decide)),fun ⟨h1,_⟩=>absurd h1 (by decide)⟩
end
def cntA (k:Int) (n:Nat) (P:List (Int×Int)):List Int:=(List.range n).map fun j=>(cntP k j P:Int)
theorem v83 (k:Int) (n:Nat):cntA k n []=List.replicate n 0:=by
 apply List.ext_getElem
 . unfold cntA;simp
 . intro i h1 h2;rw [List.getElem_replicate];simp [cntA,cntP]
theorem zkx (k:Int) (n:Nat) (P:List (Int×Int)):(cntA k n P).length=n:=by unfold cntA;simp
theorem wa1 {n:Nat} (h:j<n):(cntA k n P).getD j 0=cntP k j P:=by
 rw [ldE (by rw [zkx];exact h)];unfold cntA;rw [List.getElem_map,List.getElem_range]
theorem v3e (k:Int) (j:Nat) (P:List (Int×Int)):cntP k j P<=P.length:=List.length_filter_le _ _
theorem xre {n:Nat} (h:¬y.1=k):cntA k n (P++[y])=cntA k n P:=by
 unfold cntA
 congr 1
 funext j
 unfold cntP;rw [List.filter_append,List.filter_cons,if_neg (by simpa using fun h1=>absurd h1 h),List.filter_nil,List.append_nil]
theorem zdg {n:Nat} (h:y.1=k) (hi:y.2=i) {v:Int} (hv:v=(cntA k n P).getD i 0+1):(cntA k n P).set i v=cntA k n (P++[y]):=by
 apply List.ext_getElem
 . rw [List.length_set,zkx,zkx]
 intro j h1 h2;rw [List.length_set,zkx] at h1;rw [List.getElem_set]
 have e:∀ j (h:j<n) (Q:List (Int×Int)) (hq:j<(cntA k n Q).length),(cntA k n Q)[j]=cntP k j Q:=fun j h Q hq=>by
  rw [<-wa1 (k:=k) (P:=Q) h,ldE hq]
 have ep:cntP k j (P++[y])=cntP k j P+if i=j then 1 else 0:=by
  unfold cntP;rw [List.filter_append,List.length_append,List.filter_cons,List.filter_nil];by_cases hij:i=j
  . rw [if_pos hij,if_pos (by rw [h,hi,hij];simp)];rfl
  . rw [if_neg hij,if_neg (by rw [h,hi];simp;omega)];rfl
 rw [e j h1 P (by rw [zkx];exact h1),e j h1 _ h2,ep];by_cases hij:i=j
 . subst hij;rw [if_pos rfl,if_pos rfl,hv,wa1 h1];rfl
 . rw [if_neg hij,if_neg hij];rfl
end Go.Hp.T
