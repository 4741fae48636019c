/- The proof, part Q40: 7p, 4c, 4f, 4d, 3r. -/
import Derived.Test.YtkbkjjahlafhoaaGreatDoorQ38
import Derived.Test.YtkbkjjahlafhoaaGreatDoorQ39
import Derived.Test.YtkbkjjahlafhoaaGreatDoorQ33
import Derived.Test.YtkbkjjahlafhoaaGreatDoorQ17
import Derived.Test.YtkbkjjahlafhoaaGreatDoorQ36
namespace Go.Hp.T
open Go Go.RowKit Go.Slot Go.Hp Go.Slot.T
set_option maxRecDepth 10000
variable {α:Type} {l a:List Fc} {y:Stp} {i:Nat} {f:Fl}
theorem at_mem [Inhabited α] {l:List α} {y:α} (hy:y∈l):∃ i,i<l.length/\l.getD i default=y:=by
 obtain ⟨i,hi,e⟩:=List.getElem_of_mem hy;exact ⟨i,hi,by rw [List.getD_eq_getElem?_getD,List.getElem?_eq_getElem hi];exact e⟩
section
variable {s:Sht} {x:Rcp}
end
def srcO (s:Sht) (y:Stp):Option Src:=bif decide (y.kind=0) then some ⟨0,idxI s y.name,0⟩ else bif decide (y.kind=1) then some ⟨1,idxM s y.name,0⟩ else bif decide (y.kind=2) then some ⟨2,idxS s y.name,y.amount⟩ else none
def outO (s:Sht) (y:Stp):Option Ot:=bif decide (y.kind=5) then some ⟨0,idxP s y.name,0,⟨#[]⟩⟩ else bif decide (y.kind=6) then some ⟨1,idxS s y.name,y.amount,⟨#[]⟩⟩ else bif decide (y.kind=7) then some ⟨2,0,0,y.name⟩ else bif decide (y.kind=8) then some ⟨3,0,0,⟨#[]⟩⟩ else none
def othS (y:Stp):Bool:=decide (y.kind=3)||decide (y.kind=4)
def othN (l:List Stp):Nat:=(l.filter othS).length
section
variable {s:Sht} {r:Int} {x:Rcp} {cs:List Sc}
theorem xkp {k:Int} (h:0<=k/\k<=8):k=0\/k=1\/k=2\/k=3\/k=4\/k=5\/k=6\/k=7\/k=8:=by omega
theorem y53 {w:Wk} (h:0<=y.kind/\y.kind<=8):(vlo s cs w y).srcs=w.srcs++(srcO s y).toList/\(vlo s cs w y).outs=w.outs++(outO s y).toList/\(srcO s y).toList.length+(outO s y).toList.length+(if othS y=true then 1 else 0)=1:=by
 unfold vlo srcO outO othS
 rcases xkp h with hk | hk | hk | hk | hk | hk | hk | hk | hk<;>rw [hk]<;>exact ⟨by first | rfl | exact (List.append_nil _).symm,by first | rfl | exact (List.append_nil _).symm,rfl⟩
theorem y7c {l:List Stp} (hst:∀ y∈l,xn0 y=true):∀ n,n<=l.length->(ytm s cs l nilW n).srcs=(l.take n).filterMap (srcO s)/\(ytm s cs l nilW n).outs=(l.take n).filterMap (outO s)/\((l.take n).filterMap (srcO s)).length+((l.take n).filterMap (outO s)).length+othN (l.take n)=n
 | 0,_=>⟨rfl,rfl,rfl⟩
 | n+1,hn=>by
  obtain ⟨h1,h2,h3⟩:=y7c hst n (by omega);obtain ⟨g1,g2,g3⟩:=y53 (s:=s) (cs:=cs) (w:=ytm s cs l nilW n) (xiq (hst _ (z1y (show n<l.length by omega))))
  have e:∀{β:Type} (o:Stp->Option β),(l.take (n+1)).filterMap o=(l.take n).filterMap o++(o (l.getD n default)).toList:=fun o=>by
   rw [vys (by omega),List.filterMap_append]
   cases ho:o (l.getD n default) with
   | none=>rw [List.filterMap_cons_none ho];rfl
   | some z=>rw [List.filterMap_cons_some ho];rfl
  have e2:othN (l.take (n+1))=othN (l.take n)+(if othS (l.getD n default)=true then 1 else 0):=by
   unfold othN;rw [vys (by omega),List.filter_append,List.length_append,List.filter_cons,List.filter_nil]
   cases othS (l.getD n default)<;>rfl
  rw [ytm,g1,g2,h1,h2,e,e,e2,List.length_append,List.length_append];exact ⟨rfl,rfl,by omega⟩
theorem vry [Inhabited α] {nm:α->ByteArray} {L:List α} {w:ByteArray} (hx:L.any (fun z=>seq (nm z) w)=true):0<=idxF (fun c=>seq (nm c) w) L/\idxF (fun c=>seq (nm c) w) L<L.length:=by
 obtain ⟨z,hz,hn⟩:=List.any_eq_true.1 hx;have h0:0<=idxF (fun c=>seq (nm c) w) L:=ylv ⟨z,hz,hn⟩
 have:=(vu8 h0).1
 omega
theorem xsk (h:xim s y=true):(y.kind=0->s.inputs.any (fun z=>seq z.name y.name)=true)/\(y.kind=1->s.imports.any (fun z=>seq z.name y.name)=true)/\(y.kind=2\/y.kind=6->s.stores.any (fun z=>seq z.name y.name)=true)/\(y.kind=5->s.ports.any (fun z=>seq z.name y.name)=true):=by
 unfold xim at h;refine ⟨fun hk=>?_,fun hk=>?_,fun hk=>?_,fun hk=>?_⟩
 . rw [hk] at h;exact h
 . rw [hk] at h;exact h
 . rcases hk with hk | hk<;>(rw [hk] at h;exact h)
 . rw [hk] at h;exact h
end
def totF (l:List Fc):Fc:=l.foldl Fc.add (Fc.of 0)
theorem xas {a b:Fc} (ha:a.ok) (hb:b.ok) (h:a.val=b.val):a=b:=by
 obtain ⟨x,rfl⟩:=Fc.xzx ha;obtain ⟨y,rfl⟩:=Fc.xzx hb;rw [Fc.y22,Fc.y22] at h;rw [h]
theorem ve9 (h:∀ x∈l,x.ok):(totF l).ok/\(totF l).val=qsum (l.map Fc.val):=by
 obtain ⟨h1,h2⟩:=zrn l (Fc.of 0) (Fc.wvr 0) h;exact ⟨h1,by unfold totF;rw [h2,zoy,Rat.zero_add]⟩
theorem zdm (h:i<l.length):totF (l.take (i+1))=Fc.add (totF (l.take i)) (l.getD i Fc.zero):=by
 unfold totF;rw [List.take_succ_eq_append_getElem h,List.foldl_append,ldE h];rfl
theorem wte {l:List Fc} {k:Nat} (h:∀ x∈l,x.sz<=k):∀ i,i<=l.length->(totF (l.take i)).sz<=i*(k+1)+1
 | 0,_=>by rw [List.take_zero];have:=zyp;unfold totF;rw [List.foldl_nil];omega
 | i+1,hi=>by
  have ih:=wte h i (by omega);have e1:=h _ (ldM (d:=Fc.zero) (show i<l.length by omega));have e2:=Fc.zgp (totF (l.take i)) (l.getD i Fc.zero);rw [zdm (by omega),Nat.succ_mul];omega
theorem yip {α:Type} {f g:α->Rat}:∀ l:List α,qsum (l.map fun a=>f a+g a)=qsum (l.map f)+qsum (l.map g)
 | []=>by show (0:Rat)=0+0;rw [Rat.add_zero]
 | a::l=>by
  show (f a+g a)+qsum (l.map fun a=>f a+g a)=(f a+qsum (l.map f))+(g a+qsum (l.map g));rw [yip l]
  grind
theorem yak {α β:Type} {f:α->β->Rat} {M:List β}:∀ L:List α,qsum (L.map fun x=>qsum (M.map fun y=>f x y))=qsum (M.map fun y=>qsum (L.map fun x=>f x y))
 | []=>(ws1 (fun _ _=>rfl)).symm
 | x::L=>by
  show qsum (M.map fun y=>f x y)+qsum (L.map fun x=>qsum (M.map fun y=>f x y))=qsum (M.map fun y=>f x y+qsum (L.map fun x=>f x y));rw [yak L,yip]
theorem z8i {a l:List Fc}:∀ n,(∀ i,i<n->(l.getD i Fc.zero).ok)->(∀ i,i<n->(a.getD i Fc.zero).ok)->(dotN a l n).ok/\(dotN a l n).val=qsum ((List.range n).map fun i=>(a.getD i Fc.zero).val*(l.getD i Fc.zero).val)
 | 0,_,_=>⟨Fc.wvr 0,zoy⟩
 | n+1,h1,h2=>by
  obtain ⟨i1,i2⟩:=z8i n (fun i hi=>h1 i (by omega)) (fun i hi=>h2 i (by omega));have m:=Fc.v2r.2 ⟨h1 n (by omega),h2 n (by omega)⟩;rw [xae];refine ⟨Fc.vgy.2 ⟨i1,m⟩,?_⟩;rw [xyf i1 m,i2,w7m (h1 n (by omega)) (h2 n (by omega)),List.range_succ,List.map_append,ztz];show _=_+(_+0);rw [Rat.add_zero,Rat.mul_comm (l.getD n Fc.zero).val]
structure yi5 (f:Fl):Prop where
 sl:f.srcs.length<=25
 ol:f.outs.length<=25
 hl:f.shares.length=f.outs.length
 row:∀ r∈f.shares,r.length=f.srcs.length
 ok:∀ r∈f.shares,∀ y∈r,y.ok/\0<=y.val/\y.sz<=10000
 col:∀ i,i<f.srcs.length->qsum (f.shares.map fun r=>(r.getD i Fc.zero).val)=1
 si:∀ y∈f.srcs,(0<=y.kind/\y.kind<3)/\0<=y.index
 oi:∀ y∈f.outs,(0<=y.kind/\y.kind<4)/\0<=y.index
theorem yno {i:Nat}:∀{sh:List (List Fc)} {s:Fc},s.ok->(∀ r∈sh,(r.getD i Fc.zero).ok/\0<=(r.getD i Fc.zero).val)->s.val+qsum (sh.map fun r=>(r.getD i Fc.zero).val)=1->colF i sh s=true
 | [],s,hs,_,h=>by
  rw [colF];refine decide_eq_true (xas hs (Fc.wvr 1) ?_);rw [Fc.y22,<-h];show s.val=s.val+0;rw [Rat.add_zero]
 | r::sh,s,hs,hr,h=>by
  obtain ⟨h1,h2⟩:=hr r List.mem_cons_self;rw [colF,decide_eq_true h1,Bool.true_and,decide_eq_false,Bool.not_false,Bool.true_and]
  . refine yno (Fc.vgy.2 ⟨hs,h1⟩) (fun q hq=>hr q (List.mem_cons_of_mem _ hq)) ?_;rw [xyf hs h1,<-h];show _=s.val+(_+_);rw [Rat.add_assoc]
  . obtain ⟨q,hq⟩:=Fc.xzx h1;rw [hq] at h2 ⊢;rw [Fc.y22] at h2;exact y91 h2
theorem yi5.right (h:yi5 f):vkz f=true:=by
 have e1:=h.sl;have e2:=h.ol;unfold vkz v2n yp2;rw [decide_eq_true (show f.srcs.length<=100 by omega),decide_eq_true (show f.outs.length<=100 by omega),decide_eq_true h.hl,ye3,ye3]
 . rfl
 . intro i hi;obtain ⟨⟨k0,k1⟩,k2⟩:=h.si _ (z1y hi);unfold srcR;rw [decide_eq_false (show ¬(f.srcs.getD i default).kind<0 by omega),decide_eq_false (show ¬3<=(f.srcs.getD i default).kind by omega),decide_eq_false (show ¬(f.srcs.getD i default).index<0 by omega),yno (Fc.wvr 0)]
   . rfl
   . intro r hr
     have:=h.ok r hr _ (ldM (d:=Fc.zero) (show i<r.length by rw [h.row r hr];exact hi))
     exact ⟨this.1,this.2.1⟩
   . rw [zoy,Rat.zero_add];exact h.col i hi
 . intro i hi;obtain ⟨⟨k0,k1⟩,k2⟩:=h.oi _ (z1y hi);unfold outR;rw [decide_eq_false (show ¬(f.outs.getD i default).kind<0 by omega),decide_eq_false (show ¬4<=(f.outs.getD i default).kind by omega),decide_eq_false (show ¬(f.outs.getD i default).index<0 by omega),decide_eq_true (h.row _ (z1y (by rw [h.hl];exact hi)))];rfl
def colL (f:Fl) (i m:Nat):List Fc:=(f.shares.take m).map fun r=>r.getD i Fc.zero
theorem yg7 {m:Nat} (h:m<=f.shares.length):(colL f i m).length=m:=by unfold colL;rw [List.length_map,List.length_take];omega
theorem yfj {m:Nat} (h:m<f.shares.length):colL f i (m+1)=colL f i m++[(f.shares.getD m default).getD i Fc.zero]:=by
 unfold colL;rw [vys h,List.map_append];rfl
theorem yi5.xgk (h:yi5 f) {m:Nat} (hi:i<f.srcs.length):∀ y∈colL f i m,y.ok/\0<=y.val/\y.sz<=10000:=fun y hy=>by
 unfold colL at hy;obtain ⟨r,hr,rfl⟩:=List.mem_map.1 hy;have hr:=List.mem_of_mem_take hr;exact h.ok r hr _ (ldM (by rw [h.row r hr];exact hi))
theorem yi5.zwg (h:yi5 f) (hi:i<f.srcs.length):totF (colL f i f.shares.length)=Fc.of 1:=by
 obtain ⟨h1,h2⟩:=ve9 (fun y hy=>(h.xgk (m:=f.shares.length) hi y hy).1);refine xas h1 (Fc.wvr 1) ?_;rw [h2,Fc.y22,<-h.col i hi];unfold colL;rw [List.take_length,List.map_map];rfl
theorem yi5.run (h:yi5 f) (ha:yed f a=true):totF (runF f a)=totF a:=by
 obtain ⟨_,la,oa⟩:=w01 ha
 have hd:∀ r∈f.shares,(dotN a r r.length).ok/\(dotN a r r.length).val=qsum ((List.range f.srcs.length).map fun i=>(a.getD i Fc.zero).val*(r.getD i Fc.zero).val):=fun r hr=>by
  rw [h.row r hr];exact z8i _ (fun i hi=>(h.ok r hr _ (ldM (by rw [h.row r hr];exact hi))).1) (fun i hi=>oa _ (ldM (by omega)))
 have e:runF f a=f.shares.map fun l=>dotN a l l.length:=by unfold runF;rw [ha];rfl
 obtain ⟨t1,t2⟩:=ve9 (l:=runF f a) (fun y hy=>by
  rw [e] at hy;obtain ⟨r,hr,rfl⟩:=List.mem_map.1 hy
  exact (hd r hr).1)
 obtain ⟨t3,t4⟩:=ve9 oa;refine xas t1 t3 ?_;rw [t2,t4,e,List.map_map];have e1:qsum (f.shares.map (Fc.val∘fun l=>dotN a l l.length))=qsum (f.shares.map fun r=>qsum ((List.range f.srcs.length).map fun i=>(a.getD i Fc.zero).val*(r.getD i Fc.zero).val)):=zaj (fun r hr=>(hd r hr).2);rw [e1,yak]
 have e2:qsum ((List.range f.srcs.length).map fun i=>qsum (f.shares.map fun r=>(a.getD i Fc.zero).val*(r.getD i Fc.zero).val))=qsum ((List.range f.srcs.length).map fun i=>(a.getD i Fc.zero).val):=zaj (fun i hi=>by
  rw [xr2,h.col i (List.mem_range.1 hi),Rat.mul_one])
 rw [e2]
 congr 1
 apply List.ext_getElem
 . simp [la]
 . intro i h1 h2;rw [List.length_map] at h2;rw [List.getElem_map,List.getElem_map,List.getElem_range,ldE h2]
theorem yi5.v83 (h:yi5 f) (ha:yed f a=true) (hz:∀ y∈a,y.sz<=10000):(runF f a).length=f.outs.length/\∀ y∈runF f a,y.sz<=1000000:=by
 obtain ⟨_,la,_⟩:=w01 ha
 have e:runF f a=f.shares.map fun l=>dotN a l l.length:=by unfold runF;rw [ha];rfl
 rw [e];refine ⟨by rw [List.length_map,h.hl],fun y hy=>?_⟩;obtain ⟨r,hr,rfl⟩:=List.mem_map.1 hy;have hl:=h.sl
 have:=wkg (k:=10000) hz (fun x hx=>(h.ok r hr x hx).2.2) r.length (Nat.le_refl _) (by rw [h.row r hr,la];exact Nat.le_refl _)
 rw [h.row r hr] at this ⊢;omega
theorem yi5.sm (h:yi5 f):f.Sm:=by
 have e1:=h.sl;have e2:=h.ol;have e3:=h.hl;exact ⟨by omega,by omega,by omega,fun r hr=>by rw [h.row r hr];omega,fun r hr y hy=>Nat.le_trans (h.ok r hr y hy).2.2 (by decide)⟩
section
variable {s:Sht} {r:Int} {x:Rcp} {cs:List Sc}
theorem Acc.there (h:Acc s r x) (hst:∀ y∈x.steps,xn0 y=true) (hy:y∈x.steps) (hk:y.kind=0\/y.kind=1\/y.kind=2\/y.kind=6\/y.kind=5):xim s y=true:=by
 obtain ⟨n,hn,rfl⟩:=at_mem hy
 have:=(xa4.1 (h.hw n hn)).2.2.1
 rw [yb8 hk];have hx:=vn6 (hst _ hy) hk;rw [hx,decide_eq_false (show ¬(x.steps.getD n default).kind=7 by omega)] at this
 cases hq:ypi tgE (ve8 s) ((x.steps.getD n default).kind,(x.steps.getD n default).name) with
 | some _=>rfl
 | none=>rw [hq] at this;cases this
theorem yqm {w:Wk} (h:0<=y.kind/\y.kind<=8) (hw:w.shares.length=w.outs.length):(vlo s cs w y).shares.length=(vlo s cs w y).outs.length:=by
 unfold vlo
 rcases xkp h with hk | hk | hk | hk | hk | hk | hk | hk | hk<;>rw [hk]<;>first | exact hw | (show (w.shares++[_]).length=(w.outs++[_]).length;rw [List.length_append,List.length_append,hw];rfl)
theorem wzj {l:List Stp} (hst:∀ y∈l,xn0 y=true):∀ n,n<=l.length->(ytm s cs l nilW n).shares.length=(ytm s cs l nilW n).outs.length
 | 0,_=>rfl
 | n+1,hn=>by
  rw [ytm];exact yqm (xiq (hst _ (z1y (by omega)))) (wzj hst n (by omega))
theorem yqj {n:Nat} (hl:l.length<=n) (ho:∀ y∈l,y.ok):(wsy n l).length=n/\(∀ y∈wsy n l,y.ok)/\∀ i,i<n->((wsy n l).getD i Fc.zero).val=(l.getD i (Fc.of 0)).val:=by
 have h1:(l++List.replicate (n-l.length) (Fc.of 0)).length=n:=by simp;omega
 have h2:∀ y∈l++List.replicate (n-l.length) (Fc.of 0),y.ok:=fun y hy=>by
  rcases List.mem_append.1 hy with hy | hy
  . exact ho y hy
  . rw [List.eq_of_mem_replicate hy];exact Fc.wvr 0
 unfold wsy;refine ⟨by rw [List.length_map];exact h1,fun y hy=>?_,fun i hi=>?_⟩
 . obtain ⟨z,hz,rfl⟩:=List.mem_map.1 hy;exact Fc.vgy.2 ⟨h2 z hz,Fc.wvr 0⟩
 . rw [ldE (by rw [List.length_map,h1];exact hi),List.getElem_map,xyf (h2 _ (List.getElem_mem _)) (Fc.wvr 0),zoy,Rat.add_zero];by_cases hil:i<l.length
   . rw [List.getElem_append_left hil,ldE hil]
   . rw [List.getElem_append_right (by omega),List.getElem_replicate,ldN (by omega)]
theorem wb8 (h:Acc s r x) (hst:∀ y∈x.steps,xn0 y=true) (hf:FewV s x cs) (he:∀ j,j<x.steps.length->errW s cs (x.steps.getD j default)=0):yi5 (xjd (ytm s cs x.steps nilW x.steps.length)):=by
 obtain ⟨D,hI,hd⟩:=xuh h hst hf x.steps.length (Nat.le_refl _) he;have hlen:=hf.st
 have hdb:(dig D).length<=10000:=by
  have:x.steps.length*385<=25*385:=Nat.mul_le_mul_right _ hlen
  omega
 obtain ⟨w1,w2,w3⟩:=y7c (s:=s) (cs:=cs) hst x.steps.length (Nat.le_refl _);have w4:=wzj (s:=s) (cs:=cs) hst x.steps.length (Nat.le_refl _);rw [List.take_length] at w1 w2 w3;have hcon:=hI.con;rw [vcm h] at hcon
 have hrow:=fun r hr=>yqj (hI.sh r hr).2.1 (hI.sh r hr).2.2
 have hval:=hI.shv;have hp:=hI.pos;generalize ytm s cs x.steps nilW x.steps.length=w at *;clear hI
 have ht:=fun y hy hk=>xsk (h.there hst (y:=y) hy hk)
 refine ⟨?_,?_,?_,fun q hq=>?_,fun q hq y hy=>?_,fun i hi=>?_,fun z hz=>?_,fun z hz=>?_⟩
 . show w.srcs.length<=25;rw [w1];omega
 . show w.outs.length<=25;rw [w2];omega
 . show (w.shares.map (wsy w.srcs.length)).length=w.outs.length;rw [List.length_map,w4]
 . obtain ⟨r,hr,rfl⟩:=List.mem_map.1 (show q∈w.shares.map (wsy w.srcs.length) from hq);exact (hrow r hr).1
 . obtain ⟨r,hr,rfl⟩:=List.mem_map.1 (show q∈w.shares.map (wsy w.srcs.length) from hq);obtain ⟨g1,g2,g3⟩:=hrow r hr;have go:=g2 y hy;obtain ⟨i,hi,rfl⟩:=List.getElem_of_mem hy;have g3:=g3 i (by omega);rw [ldE hi] at g3;obtain ⟨v0,v1,v2⟩:=hval r hr i;rw [<-g3] at v0 v1 v2;exact ⟨go,v0,Nat.le_trans (wcy hp go v2 v0 v1) hdb⟩
 . have hi:i<w.srcs.length:=hi
   have:=hcon i hi
   rw [show hasF w.m [] i=0 from rfl,Rat.zero_add] at this;rw [<-this];show qsum ((w.shares.map (wsy w.srcs.length)).map _)=_;rw [List.map_map];exact zaj (fun r hr=>(hrow r hr).2.2 i hi)
 . rw [show (xjd w).srcs=w.srcs from rfl,w1] at hz;obtain ⟨y,hy,hz⟩:=List.mem_filterMap.1 hz;unfold srcO at hz
   rcases xkp (xiq (hst y hy)) with hk | hk | hk | hk | hk | hk | hk | hk | hk<;>rw [hk] at hz<;>first | (cases hz;done) | skip
   . injection (show some (⟨0,idxI s y.name,0⟩:Src)=some z from hz) with hz
     subst hz;exact ⟨⟨Int.le_refl _,by dsimp only;decide⟩,(vry ((ht y hy (by omega)).1 hk)).1⟩
   . injection (show some (⟨1,idxM s y.name,0⟩:Src)=some z from hz) with hz
     subst hz;exact ⟨⟨by dsimp only;decide,by dsimp only;decide⟩,(vry ((ht y hy (by omega)).2.1 hk)).1⟩
   . injection (show some (⟨2,idxS s y.name,y.amount⟩:Src)=some z from hz) with hz
     subst hz;exact ⟨⟨by dsimp only;decide,by dsimp only;decide⟩,(vry ((ht y hy (by omega)).2.2.1 (.inl hk))).1⟩
 . rw [show (xjd w).outs=w.outs from rfl,w2] at hz;obtain ⟨y,hy,hz⟩:=List.mem_filterMap.1 hz;unfold outO at hz
   rcases xkp (xiq (hst y hy)) with hk | hk | hk | hk | hk | hk | hk | hk | hk<;>rw [hk] at hz<;>first | (cases hz;done) | skip
   . injection (show some (⟨0,idxP s y.name,0,⟨#[]⟩⟩:Ot)=some z from hz) with hz
     subst hz;exact ⟨⟨Int.le_refl _,by dsimp only;decide⟩,(vry ((ht y hy (by omega)).2.2.2 hk)).1⟩
   . injection (show some (⟨1,idxS s y.name,y.amount,⟨#[]⟩⟩:Ot)=some z from hz) with hz
     subst hz;exact ⟨⟨by dsimp only;decide,by dsimp only;decide⟩,(vry ((ht y hy (by omega)).2.2.1 (.inr hk))).1⟩
   . injection (show some (⟨2,0,0,y.name⟩:Ot)=some z from hz) with hz
     subst hz;exact ⟨⟨by dsimp only;decide,by dsimp only;decide⟩,Int.le_refl _⟩
   . injection (show some (⟨3,0,0,⟨#[]⟩⟩:Ot)=some z from hz) with hz
     subst hz;exact ⟨⟨by dsimp only;decide,by dsimp only;decide⟩,Int.le_refl _⟩
end
end Go.Hp.T
namespace Go.Hp.T
open Go Go.RowKit Go.Slot Go.Hp Go.Slot.T
open Go.Proofs.Tryz
attribute [local irreducible] hide RH
set_option maxRecDepth 10000
set_option maxHeartbeats 8000000
variable {Γ:List (Nat×List Cell)}
abbrev bxSh (s:Sht):SB:=.box ((shtC s).map .dat) (some 31)
theorem z0z {l:List Fc} (h:voe l=true):l.length<=8/\∀ x∈l,x.sz<=4:=by
 unfold voe at h;simp only [Bool.and_eq_true,decide_eq_true_eq,List.all_eq_true] at h;exact ⟨by omega,h.2⟩
end Go.Hp.T
