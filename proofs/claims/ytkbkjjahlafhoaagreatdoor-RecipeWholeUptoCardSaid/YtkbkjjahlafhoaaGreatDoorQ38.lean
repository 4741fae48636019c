/- The proof, part Q38: 7o, 3t, 3u, 3v. -/
import Derived.Test.YtkbkjjahlafhoaaGreatDoorQ37
import Derived.Test.YtkbkjjahlafhoaaGreatDoorQ32
import Derived.Test.YtkbkjjahlafhoaaGreatDoorQ33
namespace Go.Hp.T
open Go Go.RowKit Go.Slot Go.Hp Go.Slot.T
set_option maxRecDepth 10000
variable {l:List ByteArray} {k:Int} {w:ByteArray} {y:Stp} {α:Type} {j i D D':Nat} {q:Rat} {b:Fc}
theorem yih {α:Type} (s:ByteArray) (v:α) (t:ByteArray):∀ l:List (ByteArray×α),v7b (updF l s v) t=bif seq t s then some v else v7b l t
 | []=>rfl
 | p::l=>by
  have ih:=yih s v t l;rw [updF]
  cases h:seq s p.1 with
  | true=>
   have e:s=p.1:=seqt.1 h;rw [cond_true]
   show (bif seq t s then some v else v7b l t)=bif seq t s then some v else (bif seq t p.1 then some p.2 else v7b l t)
   rw [<-e];cases seq t s<;>rfl
  | false=>
   rw [cond_false]
   show (bif seq t p.1 then some p.2 else v7b (updF l s v) t)=bif seq t s then some v else (bif seq t p.1 then some p.2 else v7b l t)
   rw [ih]
   cases h1:seq t p.1 with
   | false=>rfl
   | true=>cases h2:seq t s with
    | false=>rfl
    | true=>
     have e1:t=p.1:=seqt.1 h1;have e2:t=s:=seqt.1 h2;rw [<-e1,e2,(seqt.2 rfl)] at h
     cases h
def sumN (f:Nat->Nat):Nat->Nat
 | 0=>0
 | n+1=>sumN f n+f n
theorem yti {f:Nat->Nat}:∀{n:Nat},(∀ j,j<n->f j=0)->sumN f n=0
 | 0,_=>rfl
 | n+1,h=>by rw [sumN,yti (fun j hj=>h j (by omega)),h n (by omega)]
theorem vkb {f:Nat->Nat}:∀{n i:Nat},i<n->f i=1->(∀ j,j<n->j≠i->f j=0)->sumN f n=1
 | 0,_,h,_,_=>by omega
 | n+1,i,h,h1,h2=>by
  rw [sumN];by_cases e:i=n
  . subst e;rw [yti (fun j hj=>h2 j (by omega) (by omega)),h1]
  . rw [vkb (by omega) h1 (fun j hj=>h2 j (by omega)),h2 n (by omega) (by omega)]
theorem zvb {f:Nat->Nat} {n:Nat} (h:0<sumN f n):∃ j,j<n/\0<f j:=by
 match n,h with
 | 0,h=>exact absurd h (by simp [sumN])
 | n+1,h=>
  rw [sumN] at h;by_cases e:0<f n
  . exact ⟨n,by omega,e⟩
  . obtain ⟨j,hj,hp⟩:=zvb (f:=f) (n:=n) (by omega);exact ⟨j,by omega,hp⟩
def outN (l:List Stp) (p:ByteArray) (j:Nat):Nat:=cntS (l.getD j default).out p
def inN (l:List Stp) (p:ByteArray) (j:Nat):Nat:=cntS (l.getD j default).inn p
def isN (k:Int) (w:ByteArray) (y:Stp):Bool:=decide (y.kind=k)&&seq y.name w
theorem w1u {l:List Stp}:x0w l k w=sumN (fun j=>bif isN k w (l.getD j default) then 1 else 0) l.length:=by
 have h:∀ n,n<=l.length->((l.take n).filter fun y=>decide (y.kind=k)&&seq y.name w).length=sumN (fun j=>bif isN k w (l.getD j default) then 1 else 0) n:=by
  intro n
  induction n with
  | zero=>intro _;rfl
  | succ n ih=>
   intro hn;rw [xll (by omega),ih (by omega),sumN];rfl
 have:=h l.length (Nat.le_refl _)
 rw [List.take_length] at this;exact this
theorem zzo:isN k w y=true↔y.kind=k/\y.name=w:=by
 unfold isN;rw [Bool.and_eq_true,decide_eq_true_iff,seqt]
theorem vd4 (hk:k=0\/k=1\/k=5):(2+k,w)∈yr8 y↔isN k w y=true:=by
 rw [zx8,zzo];constructor
 . rintro (⟨s,_,e⟩ | ⟨s,_,e⟩ | ⟨_,e⟩)
   . have:=(Prod.mk.inj e).1;omega
   . have:=(Prod.mk.inj e).1;omega
   . exact ⟨by have:=(Prod.mk.inj e).1;omega,(Prod.mk.inj e).2.symm⟩
 . rintro ⟨h1,h2⟩;exact .inr (.inr ⟨by omega,by rw [h1,h2]⟩)
theorem yjz {l:List Stp} (i:Nat) (hi:i<l.length) (h:isN k w (l.getD i default)=true) (hu:∀ j,j<l.length->isN k w (l.getD j default)=true->j=i):x0w l k w=1:=by
 rw [w1u];refine vkb hi (by rw [h];rfl) (fun j hj hne=>?_)
 cases hn:isN k w (l.getD j default) with
 | true=>exact absurd (hu j hj hn) hne
 | false=>rfl
theorem w4a {l:List Stp} (h:0<x0w l k w):∃ i,i<l.length/\isN k w (l.getD i default)=true:=by
 rw [w1u] at h;obtain ⟨j,hj,h1⟩:=zvb h;refine ⟨j,hj,?_⟩
 cases hn:isN k w (l.getD j default) with
 | true=>rfl
 | false=>rw [hn] at h1;exact absurd h1 (by decide)
theorem y09 [Inhabited α] {p:α->Bool} {l:List α} (h:l.any p=true):∃ i,i<l.length/\(∀ j,j<i->p (l.getD j default)=false)/\p (l.getD i default)=true:=by
 cases hf:(List.range l.length).find? (fun i=>p (l.getD i default)) with
 | none=>
  rw [List.find?_range_eq_none] at hf;obtain ⟨y,hy,hp⟩:=List.any_eq_true.1 h;obtain ⟨i,hi,e⟩:=List.getElem_of_mem hy
  have:=hf i hi
  rw [List.getD_eq_getElem?_getD,List.getElem?_eq_getElem hi] at this;simp only [Option.getD_some,e,hp] at this
  cases this
 | some i=>
  rw [List.find?_range_eq_some] at hf;exact ⟨i,by simpa using hf.2.1,fun j hj=>by have:=hf.2.2 j hj;simpa using this,hf.1⟩
theorem vu8 [Inhabited α] {p:α->Bool} {l:List α} (h:0<=idxF p l):(idxF p l).toNat<l.length/\p (l.getD (idxF p l).toNat default)=true:=by
 have ha:=vrj p l;rw [decide_eq_true h] at ha;obtain ⟨i,hi,hj,hp⟩:=y09 ha.symm;rw [(wu8 (Nat.le_of_lt hi) hj).2 hi hp];exact ⟨hi,hp⟩
theorem w7c {α:Type} {U:α->Us}:∀{l:List α} {c:Scu},(yvi U l c).1=true->∀ x∈l,(v7b c.2 (U x).1).isSome=false
 | [],_,_,x,hx=>by cases hx
 | y::l,c,h,x,hx=>by
  have h':(yvi U l (useM c (U y))).1=true:=h;have h1:=(v67 h').1;unfold useM at h1;simp only [Bool.and_eq_true,Bool.not_eq_true'] at h1
  rcases List.mem_cons.1 hx with rfl | hx
  . exact h1.2.2.2.2
  . have h2:=w7c h' x hx;have h3:(v7b (updF c.2 (U y).1 ()) (U x).1).isSome=false:=h2;rw [yih] at h3
    cases hq:seq (U x).1 (U y).1 with
    | true=>rw [hq] at h3;cases h3
    | false=>rw [hq] at h3;exact h3
theorem z3k {α:Type} {U:α->Us}:∀{l:List α} {c:Scu},(yvi U l c).1=true->l.Pairwise fun a b=>¬(U a).1=(U b).1
 | [],_,_=>.nil
 | y::l,c,h=>by
  have h':(yvi U l (useM c (U y))).1=true:=h;refine .cons (fun x hx=>?_) (z3k h');have h3:(v7b (updF c.2 (U y).1 ()) (U x).1).isSome=false:=w7c h' x hx;intro e;rw [yih,seqt.2 e.symm] at h3
  cases h3
theorem wd6 {α:Type} {nm:α->ByteArray}:∀{l:List α},(l.Pairwise fun a b=>¬nm a=nm b)->∀ a∈l,∀ b∈l,nm a=nm b->a=b
 | [],_,a,ha,_,_,_=>by cases ha
 | y::l,h,a,ha,b,hb,e=>by
  obtain ⟨h1,h2⟩:=List.pairwise_cons.1 h
  rcases List.mem_cons.1 ha with ea | ha'
  . rcases List.mem_cons.1 hb with eb | hb'
    . rw [ea,eb]
    . exact absurd (ea▸e) (h1 b hb')
  . rcases List.mem_cons.1 hb with eb | hb'
    . exact absurd (eb▸e).symm (h1 a ha')
    . exact wd6 h2 a ha' b hb' e
theorem zkj {s:Sht} (h:vtb s=true):(∀ a∈s.cells,∀ b∈s.cells,a.name=b.name->a=b)/\(∀ a∈s.inputs,∀ b∈s.inputs,a.name=b.name->a=b)/\∀ c∈s.cells,vn0 c.unit=true:=by
 unfold vtb xlo xye at h;simp only [Bool.and_eq_true] at h;have h1:=h.1.1;have h2:=(v67 (v67 (v67 h1).1).1).1;have h3:=(v67 (v67 h2).1).1;exact ⟨wd6 (nm:=Cel.name) (z3k h1),wd6 (nm:=Inp.name) (z3k h3),fun c hc=>((v67 h1).2 c hc).1⟩
theorem vuw {α : Type} {nm uu : α → ByteArray} {w u : ByteArray} : ∀ {l : List α} {m : Ms}, v7b (l.foldl (fun m x => updF m (nm x) (uu x)) m) w = some u → (∃ y ∈ l, nm y = w ∧ uu y = u) ∨ v7b m w = some u
 | [],_,h=>.inr h
 | y::l,m,h=>by
  rcases vuw (l:=l) h with ⟨z,hz,h1⟩ | h1
  . exact .inl ⟨z,List.mem_cons_of_mem _ hz,h1⟩
  . rw [yih] at h1
    cases hq:seq w (nm y) with
    | true=>
     rw [hq,cond_true] at h1;exact .inl ⟨y,List.mem_cons_self,(seqt.1 hq).symm,Option.some.inj h1⟩
    | false=>rw [hq] at h1;exact .inr h1
theorem vnv {α:Type} {nm uu:α->ByteArray} {w:ByteArray}:∀{l:List α} {m:Ms},(∃ y∈l,nm y=w)\/(v7b m w).isSome=true->(v7b (l.foldl (fun m x=>updF m (nm x) (uu x)) m) w).isSome=true
 | [],_,h=>by
  rcases h with ⟨y,hy,_⟩ | h
  . cases hy
  . exact h
 | y::l,m,h=>by
  refine vnv (l:=l) ?_;rw [yih]
  cases hq:seq w (nm y) with
  | true=>exact .inr rfl
  | false=>
   rcases h with ⟨z,hz,h1⟩ | h
   . rcases List.mem_cons.1 hz with rfl | hz
     . rw [<-h1,seqt.2 rfl] at hq;cases hq
     . exact .inl ⟨z,hz,h1⟩
   . exact .inr h
theorem zcy {α:Type} {k:Int} {nm:α->ByteArray} {t:Tg}:∀{l:List α} {m:Mn},(ypi tgE (l.foldl (fun m x=>updG tgE m (k,nm x) ()) m) t).isSome=(l.any (fun x=>tgE t (k,nm x))||(ypi tgE m t).isSome)
 | [],_=>rfl
 | y::l,m=>by
  show (ypi tgE (l.foldl _ (updG tgE m (k,nm y) ())) t).isSome=_;rw [zcy,vo7 yxy yxh z2h,List.any_cons]
  cases l.any (fun x=>tgE t (k,nm x))<;>cases tgE t (k,nm y)<;>simp
theorem y2b {α:Type} {k k':Int} {nm:α->ByteArray} {t:Tg}:∀{l:List α} {m:Mn},(ypi tgE (l.foldl (fun m x=>updG tgE (updG tgE m (k,nm x) ()) (k',nm x) ()) m) t).isSome=(l.any (fun x=>tgE t (k,nm x)||tgE t (k',nm x))||(ypi tgE m t).isSome)
 | [],_=>rfl
 | y::l,m=>by
  show (ypi tgE (l.foldl _ (updG tgE (updG tgE m (k,nm y) ()) (k',nm y) ())) t).isSome=_;rw [y2b,vo7 yxy yxh z2h,vo7 yxy yxh z2h,List.any_cons]
  cases l.any (fun x=>tgE t (k,nm x)||tgE t (k',nm x))<;>cases tgE t (k,nm y)<;>cases tgE t (k',nm y)<;>simp
theorem yyz {j:Int} {v:ByteArray}:tgE (k,w) (j,v)=(decide (k=j)&&seq v w):=by rw [seqc v w];rfl
theorem zp9 {s:Sht}:(ypi tgE (ve8 s) (k,w)).isSome=(s.ports.any (fun x=>decide (k=5)&&seq x.name w)||(s.stores.any (fun x=>(decide (k=2)&&seq x.name w)||(decide (k=6)&&seq x.name w))||(s.imports.any (fun x=>decide (k=1)&&seq x.name w)||s.inputs.any (fun x=>decide (k=0)&&seq x.name w)))):=by
 unfold ve8 nm3 nm2 nm1;rw [zcy,y2b,zcy,zcy];simp only [yyz];simp [ypi]
theorem w4k {l:List α}:l.any (fun _=>false)=false:=by induction l<;>simp_all
theorem yb8 {s:Sht} (hk:y.kind=0\/y.kind=1\/y.kind=2\/y.kind=6\/y.kind=5):xim s y=(ypi tgE (ve8 s) (y.kind,y.name)).isSome:=by
 rw [zp9];unfold xim
 rcases hk with e | e | e | e | e<;>rw [e]<;>simp [w4k]
theorem xz4 {s:Sht} {x:Rcp} {H:Mb}:(gapR s x H).2=false↔(∀ i,i<x.steps.length->xdl H (x.steps.getD i default)=false)/\s.inputs.any (gapI H x.kind)=false/\s.imports.any (gapM H)=false/\s.ports.any (gapP H)=false:=by
 unfold gapR
 cases hu:wsq H x.steps with
 | some i=>
  constructor
  . exact fun h=>by cases h
  . rintro ⟨h,_⟩;rw [wqm h] at hu
    cases hu
 | none=>
  dsimp only;rw [Bool.or_eq_false_iff,Bool.or_eq_false_iff];unfold wsq at hu;rw [List.find?_range_eq_none] at hu;constructor
  . rintro ⟨⟨h1,h2⟩,h3⟩;exact ⟨fun i hi=>by have:=hu i hi;simpa using this,h1,h2,h3⟩
  . rintro ⟨_,h1,h2,h3⟩;exact ⟨⟨h1,h2⟩,h3⟩
theorem vn6 (h:xn0 y=true) (hk:y.kind=0\/y.kind=1\/y.kind=2\/y.kind=6\/y.kind=5):seq y.name ⟨#[]⟩=false:=by
 unfold xn0 y96 at h;simp only [Bool.and_eq_true] at h;have h1:=h.2.1.2
 have hn:(x2z y.kind).n=true:=by rcases hk with e | e | e | e | e<;>rw [e]<;>rfl
 rw [hn,cond_true] at h1;exact wvi h1
theorem zgv {H:Mb}:∀{T:List Tg} {m:Mn},dupT H T m=false->∀ t,(T.filter (tgE t)).length<=1/\((ypi tgE m t).isSome=true->(T.filter (tgE t)).length=0)
 | [],_,_,t=>⟨Nat.zero_le _,fun _=>rfl⟩
 | y::T,m,h,t=>by
  rw [dupT] at h
  cases h1:(ypi tgE H y).isSome||(ypi tgE m y).isSome with
  | true=>rw [h1] at h;cases h
  | false=>
   rw [h1,cond_false] at h;rw [Bool.or_eq_false_iff] at h1;have ih:=zgv h t;rw [vo7 yxy yxh z2h] at ih;rw [List.filter_cons]
   cases hq:tgE t y with
   | true=>
    rw [hq] at ih;have h0:=ih.2 rfl;rw [if_pos rfl,List.length_cons,h0];refine ⟨Nat.le_refl _,fun hm=>?_⟩;rw [yxx.1 hq,h1.2] at hm
    cases hm
   | false=>
    rw [hq,cond_false] at ih;rw [if_neg (by decide)];exact ih
theorem yid {x:Stp} {p:ByteArray}:cntS x.inn p<=((yr8 x).filter (tgE (0,p))).length/\cntS x.out p<=((yr8 x).filter (tgE (1,p))).length:=by
 unfold yr8;simp only [List.filter_append,List.length_append,wa0];have e2:decide ((0:Int)=1)=false:=rfl;have e3:decide ((1:Int)=0)=false:=rfl;simp only [decide_true,e2,e3,cond_true,cond_false];omega
section
variable {s:Sht} {r:Int} {x:Rcp}
theorem Acc.cnt (h:Acc s r x) (hi:i<x.steps.length) (p:ByteArray):inN x.steps p i<=1/\outN x.steps p i<=1:=by
 have hd:=(xa4.1 (h.hw i hi)).2.2.2.2;have h0:=(zgv hd (0,p)).1;have h1:=(zgv hd (1,p)).1;have hc:=yid (x:=x.steps.getD i default) (p:=p);unfold inN outN;omega
theorem Acc.times (h:Acc s r x) (hk:k=0\/k=1\/k=5) (hm:zfl (z3o x.steps x.steps.length) k w=false):x0w x.steps k w=1:=by
 unfold zfl at hm;obtain ⟨v,hv⟩:=vgz (show ¬(ypi tgE (z3o x.steps x.steps.length) (2+k,w)).isNone=true by rw [hm];decide);obtain ⟨j,hj,_,ht⟩:=(w0m x.steps x.steps.length).old _ _ hv;exact yjz j hj ((vd4 hk).1 ht) (fun i hi hn=>h.one hi hj ((vd4 hk).2 hn) ht)
theorem Acc.whole (h:Acc s r x) (hst:∀ y∈x.steps,xn0 y=true):zv2 s x=true:=by
 obtain ⟨hcd,hid,hru⟩:=zkj h.hR;obtain ⟨_,g1,g2,g3⟩:=xz4.1 h.hg;rw [List.any_eq_false] at g1 g2 g3;unfold zv2;simp only [Bool.and_eq_true,List.all_eq_true];refine ⟨fun y hy=>?_,fun _ _=>trivial,fun y hy=>?_,fun y hy=>?_,fun y hy=>?_⟩
 . obtain ⟨i,hi,e⟩:=List.getElem_of_mem hy
   have ey:x.steps.getD i default=y:=by rw [List.getD_eq_getElem?_getD,List.getElem?_eq_getElem hi];exact e
   obtain ⟨_,w2,w3,w4,_⟩:=xa4.1 (h.hw i hi);rw [ey] at w2 w3 w4;unfold whS;rw [Bool.and_eq_true,List.all_eq_true];refine ⟨?_,fun w hw=>?_⟩
   . by_cases hk:y.kind=0\/y.kind=1\/y.kind=2\/y.kind=6\/y.kind=5
     . rw [yb8 hk];rw [vn6 (hst y hy) hk,decide_eq_false (show ¬y.kind=7 by omega)] at w3
       cases hl:ypi tgE (ve8 s) (y.kind,y.name) with
       | none=>rw [hl] at w3;cases w3
       | some _=>rfl
     . unfold xim;rw [decide_eq_false (by omega),decide_eq_false (show ¬y.kind=1 by omega),decide_eq_false (show ¬y.kind=2 by omega),decide_eq_false (show ¬y.kind=6 by omega),decide_eq_false (show ¬y.kind=5 by omega)];rfl
   . rw [List.any_eq_false] at w2;have hb:=(Bool.or_eq_false_iff.1 w4).2;rw [List.any_eq_false] at hb;obtain ⟨u,hu⟩:=vgz (w2 w hw);have hb:=hb w hw;unfold badW zj4 at hb;rw [hu] at hb
     have hbu:zcx u=true:=by simpa using hb
     rcases vuw (nm:=Cel.name) (uu:=Cel.unit) hu with ⟨c,hc,hn,hcu⟩ | hn
     . unfold vw7;have hany:s.cells.any (fun z=>seq z.name w)=true:=List.any_eq_true.2 ⟨c,hc,seqt.2 hn⟩;rw [vrj,hany,cond_true]
       have hge:0<=idxF (fun z:Cel=>seq z.name w) s.cells:=by
        have:=vrj (fun z:Cel=>seq z.name w) s.cells
        rw [hany] at this;exact of_decide_eq_true this
       obtain ⟨hlt,hq⟩:=vu8 hge;have hmem:=z1y hlt;have ec:s.cells.getD (idxF (fun z:Cel=>seq z.name w) s.cells).toNat default=c:=hcd _ hmem c hc (by rw [hn];exact seqt.1 hq);rw [ec,hru c hc,hcu,hbu];rfl
     . cases hn
 . unfold whI
   cases hq:seq y.kind x.kind with
   | true=>
    rw [cond_true];have hg:=g1 y hy;unfold gapI at hg;rw [hq,Bool.true_and] at hg;exact decide_eq_true (h.times (.inl rfl) (by simpa using hg))
   | false=>
    rw [cond_false];refine decide_eq_true ?_;by_cases ht:x0w x.steps 0 y.name=0
    . exact ht
    . obtain ⟨i,hi,hn⟩:=w4a (Nat.pos_of_ne_zero ht);obtain ⟨hk,hnm⟩:=zzo.1 hn;have w4:=(xa4.1 (h.hw i hi)).2.2.2.1;rw [hk,hnm] at w4;have hz:=(Bool.or_eq_false_iff.1 w4).1;have hs:=vnv (nm:=Inp.name) (uu:=Inp.kind) (w:=y.name) (l:=s.inputs) (m:=[]) (.inl ⟨y,hy,rfl⟩);obtain ⟨u,hu⟩:=Option.isSome_iff_exists.1 hs;unfold zj4 wnc at hz;rw [hu] at hz
      rcases vuw (nm:=Inp.name) (uu:=Inp.kind) hu with ⟨c,hc,hn,hcu⟩ | hn
      . have ec:=hid c hc y hy hn;rw [<-hcu,ec] at hz;rw [Option.getD_some,hq] at hz
        cases hz
      . cases hn
 . unfold whM;have hg:=g2 y hy;unfold gapM at hg;exact decide_eq_true (h.times (.inr (.inl rfl)) (by simpa using hg))
 . unfold whP;have hg:=g3 y hy;unfold gapP at hg;exact decide_eq_true (h.times (.inr (.inr rfl)) (by simpa using hg))
end
theorem zkc {p:ByteArray}:l.any (seq p)=true↔p∈l:=by
 rw [List.any_eq_true];constructor
 . rintro ⟨q,hq,h⟩;rw [z8u,decide_eq_true_eq] at h;rw [h];exact hq
 . exact fun h=>⟨p,h,by rw [z8u];exact decide_eq_true rfl⟩
theorem zyo {a p:ByteArray}:cntS (a::l) p=(bif seq a p then 1 else 0)+cntS l p:=by
 unfold cntS;rw [List.filter_cons]
 cases seq a p
 . simp
 . simp;omega
theorem y12 {p:ByteArray} (h:p∈l):1<=cntS l p:=by
 unfold cntS;exact List.length_pos_of_mem (List.mem_filter.2 ⟨h,by rw [z8u];exact decide_eq_true rfl⟩)
theorem yvx:∀{l:List ByteArray},(∀ p,cntS l p<=1)->l.Nodup
 | [],_=>List.nodup_nil
 | a::l,h=>List.nodup_cons.2 ⟨fun ha=>by
  have h1:=h a;have h2:=y12 ha;rw [zyo,z8u,decide_eq_true rfl,cond_true] at h1
  omega,yvx (fun p=>by have:=h p;rw [zyo] at this;omega)⟩
def w07 (y:Stp) (p:ByteArray):Bool:=!y.inn.any (seq p)
theorem ynw {p:ByteArray}:w07 y p=true↔¬p∈y.inn:=by
 unfold w07;rw [Bool.not_eq_true',<-zkc,Bool.not_eq_true]
def yxs (l:List Stp):Nat->List ByteArray
 | 0=>[]
 | n+1=>(yxs l n).filter (w07 (l.getD n default))++(l.getD n default).out
section
variable {s:Sht} {r:Int} {x:Rcp}
theorem Acc.v8o (h:Acc s r x) (hi:i<x.steps.length):(x.steps.getD i default).inn.Nodup:=yvx (fun p=>(h.cnt hi p).1)
theorem Acc.y0g (h:Acc s r x) (hi:i<x.steps.length):(x.steps.getD i default).out.Nodup:=yvx (fun p=>(h.cnt hi p).2)
theorem Acc.yv5 (h:Acc s r x) (hi:i<x.steps.length) (hj:j<x.steps.length) {p:ByteArray} (h1:p∈(x.steps.getD i default).out) (h2:p∈(x.steps.getD j default).out):i=j:=h.one hi hj (x4w.2 h1) (x4w.2 h2)
theorem Acc.ya7 (h:Acc s r x) (hi:i<x.steps.length) (hj:j<x.steps.length) {p:ByteArray} (h1:p∈(x.steps.getD i default).inn) (h2:p∈(x.steps.getD j default).inn):i=j:=h.one hi hj (vfk.2 h1) (vfk.2 h2)
theorem Acc.before (h:Acc s r x) (hi:i<x.steps.length) (hj:j<x.steps.length) {p:ByteArray} (h1:p∈(x.steps.getD i default).out) (h2:p∈(x.steps.getD j default).inn):i<j:=by
 obtain ⟨k,hk,hp⟩:=h.made hj h2;rw [h.yv5 hi (by omega) h1 hp];exact hk
theorem wnx (h:Acc s r x):∀ n,n<=x.steps.length->∀ p,p∈yxs x.steps n↔(∃ j,j<n/\p∈(x.steps.getD j default).out)/\∀ k,k<n->¬p∈(x.steps.getD k default).inn
 | 0,_,p=>by
  constructor
  . intro h;cases h
  . rintro ⟨⟨j,hj,_⟩,_⟩;omega
 | n+1,hn,p=>by
  rw [yxs,List.mem_append,List.mem_filter,wnx h n (by omega),ynw];constructor
  . rintro (⟨⟨⟨j,hj,hp⟩,hk⟩,hg⟩ | ho)
    . exact ⟨⟨j,by omega,hp⟩,yas hk hg⟩
    . exact ⟨⟨n,by omega,ho⟩,fun k hk hi=>by have:=h.before (by omega) (by omega) ho hi;omega⟩
  . rintro ⟨⟨j,hj,hp⟩,hk⟩;by_cases e:j=n
    . exact .inr (e▸hp)
    . exact .inl ⟨⟨⟨j,by omega,hp⟩,fun k hk'=>hk k (by omega)⟩,hk n (by omega)⟩
theorem wjk (h:Acc s r x) {n:Nat} (hn:n<x.steps.length) {p:ByteArray} (hp:p∈(x.steps.getD n default).inn):p∈yxs x.steps n:=
 (wnx h n (by omega) p).2 ⟨h.made hn hp,fun k hk hi=>by have:=h.ya7 (by omega) hn hi hp;omega⟩
theorem vo8 (h:Acc s r x) {n:Nat} (hn:n<x.steps.length) {p:ByteArray} (hp:p∈(x.steps.getD n default).out):¬p∈yxs x.steps n:=fun hl=>by
 obtain ⟨⟨j,hj,hp'⟩,_⟩:=(wnx h n (by omega) p).1 hl
 have:=h.yv5 (by omega) hn hp' hp
 omega
theorem wu5 (h:Acc s r x) {n:Nat} (hn:n<x.steps.length) {p:ByteArray} (hp:p∈(x.steps.getD n default).out):¬p∈(x.steps.getD n default).inn:=fun hi=>vo8 h hn hp (wjk h hn hi)
theorem vcm (h:Acc s r x):yxs x.steps x.steps.length=[]:=List.eq_nil_iff_forall_not_mem.2 fun p hp=>by
 obtain ⟨⟨j,hj,hp'⟩,hk⟩:=(wnx h _ (Nat.le_refl _) p).1 hp;obtain ⟨k,hkl,hi⟩:=h.used hj hp';exact hk k hkl hi
theorem wef (h:Acc s r x):∀ n,n<=x.steps.length->(yxs x.steps n).Nodup
 | 0,_=>List.nodup_nil
 | n+1,hn=>by
  rw [yxs];refine List.nodup_append.2 ⟨(wef h n (by omega)).filter _,h.y0g (by omega),fun a ha b hb e=>?_⟩;subst e;exact vo8 h (by omega) hb (List.mem_filter.1 ha).1
theorem w2b (h:Acc s r x) {n:Nat} (hn:n<x.steps.length):((x.steps.getD n default).inn++(yxs x.steps n).filter (w07 (x.steps.getD n default))).Perm (yxs x.steps n):=by
 have hd:=wef h n (by omega)
 refine (List.perm_ext_iff_of_nodup (List.nodup_append.2 ⟨h.v8o hn,hd.filter _,fun a ha b hb e=>?_⟩) hd).2 fun p=>?_
 . subst e;exact ynw.1 (List.mem_filter.1 hb).2 ha
 . rw [List.mem_append,List.mem_filter,ynw];exact ⟨fun h'=>h'.elim (wjk h hn) (fun h'=>h'.1),fun hp=>(Classical.em (p∈(x.steps.getD n default).inn)).imp id (fun hi=>⟨hp,hi⟩)⟩
end
theorem len0 {l:List α} (h:(l.length:Int)<=0):l=[]:=List.eq_nil_of_length_eq_zero (by omega)
theorem yzt (h:xn0 y=true) (hk:y.kind=0\/y.kind=1\/y.kind=2):y.inn=[]/\y.out.length=1:=by
 unfold xn0 y96 at h;simp only [Bool.and_eq_true] at h;obtain ⟨_,⟨⟨h1,h2,_⟩,_⟩,_⟩:=h
 rcases hk with hk | hk | hk<;>rw [hk] at h1 h2<;>(
  simp only [wg4,Bool.and_eq_true,decide_eq_true_eq] at h1 h2;have e1:=h1.1.2;have e2:=h2.1
  exact ⟨len0 e1,by have a1:(1:Int)<=y.out.length:=e2.1;have a2:(y.out.length:Int)<=1:=e2.2;omega⟩)
theorem yod (h:xn0 y=true) (hk:y.kind=3):y.inn.length=1/\y.cells.length=y.out.length:=by
 unfold xn0 y96 at h;simp only [Bool.and_eq_true] at h;obtain ⟨_,⟨⟨h1,h2,h3⟩,_⟩,_⟩:=h;rw [hk] at h1 h3;simp only [wg4,Bool.and_eq_true,decide_eq_true_eq] at h1;have e1:=h1.1;have h3:wg4 y.cells y.out.length y.out.length=true:=h3;simp only [wg4,Bool.and_eq_true,decide_eq_true_eq] at h3;exact ⟨by have a1:(1:Int)<=y.inn.length:=e1.1;have a2:(y.inn.length:Int)<=1:=e1.2;omega,by omega⟩
theorem xd9 (h:xn0 y=true) (hk:y.kind=4):y.out.length=1:=by
 unfold xn0 y96 at h;simp only [Bool.and_eq_true] at h;obtain ⟨_,⟨⟨_,h2,_⟩,_⟩,_⟩:=h;rw [hk] at h2;simp only [wg4,Bool.and_eq_true,decide_eq_true_eq] at h2;have e2:=h2.1;have a1:(1:Int)<=y.out.length:=e2.1;have a2:(y.out.length:Int)<=1:=e2.2;omega
theorem y5x (h:xn0 y=true) (hk:y.kind=4):0<y.inn.length:=by
 unfold xn0 y96 at h;simp only [Bool.and_eq_true] at h;obtain ⟨_,⟨⟨h1,_⟩,_⟩,_⟩:=h;rw [hk] at h1;simp only [wg4,Bool.and_eq_true,decide_eq_true_eq] at h1;have a1:(1:Int)<=y.inn.length:=h1.1.1;omega
theorem xhv (h:xn0 y=true) (hk:5<=y.kind):y.inn.length=1/\y.out=[]:=by
 unfold xn0 y96 at h;simp only [Bool.and_eq_true,decide_eq_true_eq] at h;obtain ⟨⟨_,hk9⟩,⟨⟨h1,h2,_⟩,_⟩,_⟩:=h
 rcases show y.kind=5\/y.kind=6\/y.kind=7\/y.kind=8 by omega with hk | hk | hk | hk<;>rw [hk] at h1 h2<;>(
  simp only [wg4,Bool.and_eq_true,decide_eq_true_eq] at h1 h2;have e1:=h1.1;have e2:=h2.1.2
  exact ⟨by have a1:(1:Int)<=y.inn.length:=e1.1;have a2:(y.inn.length:Int)<=1:=e1.2;omega,len0 e2⟩)
theorem xiq (h:xn0 y=true):0<=y.kind/\y.kind<=8:=by
 unfold xn0 at h;simp only [Bool.and_eq_true,decide_eq_true_eq] at h;omega
def qsum:List Rat->Rat
 | []=>0
 | a::l=>a+qsum l
theorem ztz:∀ l m:List Rat,qsum (l++m)=qsum l+qsum m
 | [],m=>by show qsum m=0+qsum m;rw [Rat.zero_add]
 | a::l,m=>by show a+qsum (l++m)=a+qsum l+qsum m;rw [ztz l m,Rat.add_assoc]
theorem wt1 {l m:List Rat} (h:l.Perm m):qsum l=qsum m:=by
 induction h with
 | nil=>rfl
 | cons x _ ih=>show x+_=x+_;rw [ih]
 | swap x y l=>show y+(x+qsum l)=x+(y+qsum l);rw [Rat.add_left_comm]
 | trans _ _ h1 h2=>rw [h1,h2]
theorem wff:∀{l:List Rat},(∀ x∈l,0<=x)->0<=qsum l
 | [],_=>Rat.le_refl
 | a::_,h=>Rat.add_nonneg (h a List.mem_cons_self) (wff fun x hx=>h x (List.mem_cons_of_mem _ hx))
theorem w8f:∀{l:List Rat},(∀ x∈l,0<=x)->∀ x∈l,x<=qsum l
 | a::l,h,x,hx=>by
  have h1:=h a List.mem_cons_self
  have h2:=wff fun x hx=>h x (List.mem_cons_of_mem a hx)
  show x<=a+qsum l
  rcases List.mem_cons.1 hx with rfl | hx
  . grind
  . have:=w8f (fun x hx=>h x (List.mem_cons_of_mem a hx)) x hx
    grind
theorem xr2 {α:Type} {f:α->Rat} {c:Rat}:∀ l:List α,qsum (l.map fun a=>c*f a)=c*qsum (l.map f)
 | []=>by show (0:Rat)=c*0;rw [Rat.mul_zero]
 | a::l=>by show c*f a+_=c*(f a+_);rw [xr2 l,Rat.mul_add]
theorem zaj {α:Type} {f g:α->Rat}:∀{l:List α},(∀ a∈l,f a=g a)->qsum (l.map f)=qsum (l.map g)
 | [],_=>rfl
 | a::l,h=>by
  show f a+_=g a+_;rw [h a List.mem_cons_self,zaj fun a ha=>h a (List.mem_cons_of_mem _ ha)]
theorem ws1 {α:Type} {f:α->Rat}:∀{l:List α},(∀ a∈l,f a=0)->qsum (l.map f)=0
 | [],_=>rfl
 | a::l,h=>by
  show f a+_=0;rw [h a List.mem_cons_self,ws1 fun a ha=>h a (List.mem_cons_of_mem _ ha),Rat.add_zero]
def isI (D:Nat) (q:Rat):Prop:=∃ z:Int,(D:Rat)*q=z
theorem isI.zero (D:Nat):isI D 0:=⟨0,by rw [Rat.mul_zero];rfl⟩
theorem isI.add {p:Rat} (h1:isI D p) (h2:isI D q):isI D (p+q):=by
 obtain ⟨a,h1⟩:=h1;obtain ⟨b,h2⟩:=h2;exact ⟨a+b,by rw [Rat.mul_add,h1,h2,Rat.intCast_add]⟩
theorem isI.mul {E:Nat} {p:Rat} (h1:isI D p) (h2:isI E q):isI (D*E) (p*q):=by
 obtain ⟨a,h1⟩:=h1;obtain ⟨b,h2⟩:=h2;refine ⟨a*b,?_⟩;rw [Rat.intCast_mul,<-h1,<-h2,Rat.natCast_mul]
 grind
theorem isI.one (D:Nat):isI D 1:=⟨D,by rw [Rat.mul_one];rfl⟩
theorem isI.up (E:Nat) {p:Rat} (h:isI D p):isI (D*E) p:=by
 have:=h.mul (isI.one E)
 rwa [Rat.mul_one] at this
theorem isI.sum {α:Type} {D:Nat} {f:α->Rat}:∀{l:List α},(∀ a∈l,isI D (f a))->isI D (qsum (l.map f))
 | [],_=>isI.zero D
 | a::_,h=>(h a List.mem_cons_self).add (isI.sum fun a ha=>h a (List.mem_cons_of_mem _ ha))
theorem xle (q:Rat):q*(q.den:Rat)=q.num:=by
 have h:((q.den:Int):Rat)≠0:=fun h=>q.den_nz (by
  have:=Rat.intCast_inj.1 (show ((q.den:Int):Rat)=((0:Int):Rat) from h)
  omega)
 have e:=Rat.num_divInt_den q;rw [Rat.divInt_eq_div] at e;have h2:=Rat.div_mul_cancel (a:=(q.num:Rat)) h;rw [e] at h2;exact h2
theorem vrf (q:Rat):isI q.den q:=⟨q.num,by
 rw [Rat.mul_comm]
 exact xle q⟩
theorem zi7 (h:isI D q):q.den ∣ D:=by
 obtain ⟨z,h⟩:=h
 have h1:(D:Int)*q.num=z*q.den:=by
  have e:(D:Rat)*q*(q.den:Rat)=z*(q.den:Rat):=by rw [h]
  rw [Rat.mul_assoc,xle] at e
  have e:(((D:Int)*q.num:Int):Rat)=((z*(q.den:Int):Int):Rat):=by
   rw [Rat.intCast_mul,Rat.intCast_mul];exact e
  exact Rat.intCast_inj.1 e
 have h2:q.den ∣ D*q.num.natAbs:=by
  have:=congrArg Int.natAbs h1
  rw [Int.natAbs_mul,Int.natAbs_mul,Int.natAbs_natCast,Int.natAbs_natCast] at this;exact ⟨z.natAbs,by rw [this,Nat.mul_comm]⟩
 exact (Nat.Coprime.dvd_of_dvd_mul_right (Nat.Coprime.symm q.reduced) h2)
theorem wvw (hD:0<D) (h:isI D q) (h0:0<=q) (h1:q<=1):(Fc.of q).sz<=(dig D).length:=by
 have hd:q.den<=D:=Nat.le_of_dvd hD (zi7 h)
 have hn:q.num.natAbs<=q.den:=by
  have e0:=Rat.num_nonneg.2 h0
  have e1:q.num<=q.den:=by
   have:=Rat.le_iff q 1 |>.1 h1
   simpa using this
  omega
 rw [Fc.w9x];have a1:=z6g hd;have a2:=z6g (Nat.le_trans hn hd);omega
theorem xyf {a:Fc} (ha:a.ok) (hb:b.ok):(Fc.add a b).val=a.val+b.val:=by
 obtain ⟨x,rfl⟩:=Fc.xzx ha;obtain ⟨y,rfl⟩:=Fc.xzx hb;rw [Fc.vmb,Fc.y22,Fc.y22,Fc.y22]
theorem w7m {a:Fc} (ha:a.ok) (hb:b.ok):(Fc.mul a b).val=a.val*b.val:=by
 obtain ⟨x,rfl⟩:=Fc.xzx ha;obtain ⟨y,rfl⟩:=Fc.xzx hb;rw [Fc.vk5,Fc.y22,Fc.y22,Fc.y22]
theorem zrn:∀(L:List Fc) (a:Fc),a.ok->(∀ x∈L,x.ok)->(L.foldl Fc.add a).ok/\(L.foldl Fc.add a).val=a.val+qsum (L.map Fc.val)
 | [],a,ha,_=>⟨ha,by show a.val=a.val+0;rw [Rat.add_zero]⟩
 | x::L,a,ha,h=>by
  have hx:=h x List.mem_cons_self;obtain ⟨h1,h2⟩:=zrn L (Fc.add a x) (Fc.vgy.2 ⟨ha,hx⟩) (fun y hy=>h y (List.mem_cons_of_mem _ hy));refine ⟨h1,?_⟩;rw [List.foldl_cons,h2,xyf ha hx];show _=a.val+(x.val+qsum (L.map Fc.val));rw [Rat.add_assoc]
structure InvM (m:Mf) (N D:Nat):Prop where
 len:∀ p l,v7b m p=some l->0<l.length/\l.length<=N
 ok:∀ p l,v7b m p=some l->∀ y∈l,y.ok
 nn:∀ p i,0<=(wrt m p i).val
 int:∀ p i,isI D (wrt m p i).val
theorem zoy:(Fc.of 0).val=0:=Fc.y22 0
theorem InvM.zc7 {m:Mf} {N:Nat} (h:InvM m N D) (p:ByteArray) (i:Nat):(wrt m p i).ok:=by
 unfold wrt
 cases hl:v7b m p with
 | none=>exact Fc.wvr 0
 | some l=>
  rw [Option.getD_some];by_cases hi:i<l.length
  . exact h.ok p l hl _ (ldM hi)
  . rw [ldN (by omega)];exact Fc.wvr 0
theorem InvM.xvs {m:Mf} {N:Nat} (h:InvM m N D) (p:ByteArray) (hi:N<=i):wrt m p i=Fc.of 0:=by
 unfold wrt
 cases hl:v7b m p with
 | none=>rfl
 | some l=>
  rw [Option.getD_some];exact ldN (by have:=(h.len p l hl).2;omega)
theorem InvM.parts {m:Mf} {N:Nat} (h:InvM m N D) (l:List ByteArray) (i:Nat):(zkw m l i).ok/\(zkw m l i).val=qsum (l.map fun p=>(wrt m p i).val):=by
 have e:zkw m l i=(l.map fun p=>wrt m p i).foldl Fc.add (Fc.of 0):=by unfold zkw;rw [List.foldl_map]
 obtain ⟨h1,h2⟩:=zrn (l.map fun p=>wrt m p i) (Fc.of 0) (Fc.wvr 0) (fun x hx=>by
  obtain ⟨p,_,rfl⟩:=List.mem_map.1 hx
  exact h.zc7 p i)
 rw [e];exact ⟨h1,by rw [h2,zoy,Rat.zero_add,List.map_map];rfl⟩
theorem v81 (m:Mf) (q:ByteArray) (r:List Fc) (p:ByteArray) (i:Nat):wrt (updF m q r) p i=if p=q then r.getD i (Fc.of 0) else wrt m p i:=by
 unfold wrt;rw [yih,z8u];by_cases h:p=q
 . rw [decide_eq_true h,cond_true,if_pos h];rfl
 . rw [decide_eq_false h,cond_false,if_neg h]
theorem InvM.upd {m:Mf} {N N':Nat} (h:InvM m N D) (hN:N<=N') (hD:∀ q,isI D q->isI D' q) {q:ByteArray} {r:List Fc} (h1:0<r.length) (h2:r.length<=N') (h3:∀ y∈r,y.ok) (h4:∀ i,0<=(r.getD i (Fc.of 0)).val) (h5:∀ i,isI D' (r.getD i (Fc.of 0)).val):InvM (updF m q r) N' D' where
 len:=fun p l hp=>by
  rcases wt8 hp with rfl | hp
  . exact ⟨h1,h2⟩
  . have:=h.len p l hp;omega
 ok:=fun p l hp=>by
  rcases wt8 hp with rfl | hp
  . exact h3
  . exact h.ok p l hp
 nn:=fun p i=>by
  rw [v81]
  split
  . exact h4 i
  . exact h.nn p i
 int:=fun p i=>by
  rw [v81]
  split
  . exact h5 i
  . exact hD _ (h.int p i)
abbrev hasF (m:Mf) (l:List ByteArray) (i:Nat):Rat:=qsum (l.map fun p=>(wrt m p i).val)
theorem vtr {m:Mf} {N:Nat} (h:InvM m N D) (hb:b.ok) (i:Nat):((mixF m N l b).getD i (Fc.of 0)).val=hasF m l i*b.val:=by
 unfold mixF;by_cases hi:i<N
 . rw [ldE (by simpa using hi),List.getElem_map,List.getElem_range,w7m (h.parts l i).1 hb,(h.parts l i).2]
 . rw [ldN (by simp;omega),zoy,hasF,ws1 (fun p _=>by rw [h.xvs p (by omega),zoy]),Rat.zero_mul]
theorem wcu {m:Mf} {N:Nat} (h:InvM m N D) (hb:b.ok):∀ y∈mixF m N l b,y.ok:=fun y hy=>by
 unfold mixF at hy;obtain ⟨i,_,rfl⟩:=List.mem_map.1 hy;exact Fc.v2r.2 ⟨(h.parts l i).1,hb⟩
theorem xwh {m:Mf} {N:Nat}:(mixF m N l b).length=N:=by unfold mixF;simp
theorem vkc {m:Mf} {N:Nat} (h:InvM m N D) (l:List ByteArray) (i:Nat):0<=hasF m l i:=wff (fun x hx=>by
 obtain ⟨p,_,rfl⟩:=List.mem_map.1 hx
 exact h.nn p i)
theorem InvM.mix {m:Mf} {N:Nat} (h:InvM m N D) (hN:0<N) (hb:b.ok) (h0:0<=b.val) (hD:∀ q,isI D q->isI D' q) (hi:∀ i,isI D' (hasF m l i*b.val)) (q:ByteArray):InvM (updF m q (mixF m N l b)) N D':=
 h.upd (Nat.le_refl _) hD (by rw [xwh];exact hN) (by rw [xwh];exact Nat.le_refl _) (wcu h hb) (fun i=>by rw [vtr h hb];exact Rat.mul_nonneg (vkc h l i) h0) (fun i=>by rw [vtr h hb];exact hi i)
theorem InvM.up {m:Mf} {N D:Nat} (h:InvM m N D) (E:Nat):InvM m N (D*E):=⟨h.len,h.ok,h.nn,fun p i=>(h.int p i).up E⟩
theorem ysm {m:Mf} {N D E:Nat} {inn out:List ByteArray} {wt:List Fc} (h:InvM m N D) (hN:0<N) (hw:∀ y∈wt,y.ok/\0<=y.val/\isI E y.val) (hl:out.length<=wt.length) (hd:out.Nodup) (hio:∀ p∈out,¬p∈inn):∀ k,k<=out.length->
 InvM (zlv N inn wt out m k) N (D*E)/\(∀ q i,(∀ j,j<k->¬out.getD j default=q)->wrt (zlv N inn wt out m k) q i=wrt m q i)/\∀ j,j<k->∀ i,(wrt (zlv N inn wt out m k) (out.getD j default) i).val=hasF m inn i*(wt.getD j Fc.zero).val
 | 0,_=>⟨h.up E,fun q i _=>rfl,fun j hj=>by omega⟩
 | k+1,hk=>by
  obtain ⟨h1,h2,h3⟩:=ysm h hN hw hl hd hio k (by omega);have hwk:=hw (wt.getD k Fc.zero) (ldM (by omega))
  have hin:∀ p∈inn,∀ i,wrt (zlv N inn wt out m k) p i=wrt m p i:=fun p hp i=>h2 p i (fun j hj e=>hio (out.getD j default) (ldM (by omega)) (by rw [e];exact hp))
  have hhas:∀ i,hasF (zlv N inn wt out m k) inn i=hasF m inn i:=fun i=>zaj (fun p hp=>by rw [hin p hp])
  have hne:∀ j,j<k->¬out.getD j default=out.getD k default:=fun j hj e=>by
   rw [ldE (show j<out.length by omega),ldE (show k<out.length by omega)] at e
   have:=(List.getElem_inj hd).1 e
   omega
  rw [wgf];refine ⟨h1.mix hN hwk.1 hwk.2.1 (fun q hq=>hq) (fun i=>?_) _,fun q i hq=>?_,fun j hj i=>?_⟩
  . rw [hhas];exact (isI.sum fun p _=>h.int p i).mul hwk.2.2
  . rw [v81,if_neg (fun e=>hq k (by omega) e.symm)];exact h2 q i (fun j hj=>hq j (by omega))
  . rw [v81];by_cases e:j=k
    . subst e;rw [if_pos rfl,vtr h1 hwk.1,hhas]
    . rw [if_neg (hne j (by omega)),h3 j (by omega)]
structure zhw (wt:List Fc) (E:Nat):Prop where
 pos:0<E
 el:∀ y∈wt,y.ok/\0<=y.val/\isI E y.val
 sum:qsum (wt.map Fc.val)=1
abbrev outF (sh:List (List Fc)) (i:Nat):Rat:=qsum (sh.map fun r=>(r.getD i (Fc.of 0)).val)
structure InvW (l:List Stp) (w:Wk) (n D:Nat):Prop where
 pos:0<D
 m:InvM w.m w.srcs.length D
 dom:∀ p∈yxs l n,∃ r,v7b w.m p=some r
 le:∀ p i,(wrt w.m p i).val<=1
 sh:∀ r∈w.shares,0<r.length/\r.length<=w.srcs.length/\∀ y∈r,y.ok
 shv:∀ r∈w.shares,∀ i,0<=(r.getD i (Fc.of 0)).val/\(r.getD i (Fc.of 0)).val<=1/\isI D (r.getD i (Fc.of 0)).val
 con:∀ i,i<w.srcs.length->hasF w.m (yxs l n) i+outF w.shares i=1
theorem InvW.start (l:List Stp):InvW l nilW 0 1:=⟨by decide,⟨fun p r h=>(by cases h),fun p r h=>(by cases h),fun p i=>(by show 0<=(Fc.of 0).val;rw [zoy];exact Rat.le_refl),fun p i=>(by show isI 1 (Fc.of 0).val;rw [zoy];exact isI.zero 1)⟩,fun p hp=>(by cases hp),fun p i=>(by show (Fc.of 0).val<=1;rw [zoy];decide),fun r hr=>(by cases hr),fun r hr=>(by cases hr),fun i hi=>absurd hi (Nat.not_lt_zero i)⟩
theorem vbw {l:List Stp} {w:Wk} {n:Nat} (h:InvW l w n D) (i:Nat):0<=outF w.shares i:=wff (fun x hx=>by
 obtain ⟨r,hr,rfl⟩:=List.mem_map.1 hx
 exact (h.shv r hr i).1)
theorem wm6 {β:Type} {f:α->Rat} {g:β->Rat} {l:List α} {m:List β} {d:α} {e:β} (h:l.length=m.length) (hh:∀ j,j<l.length->f (l.getD j d)=g (m.getD j e)):l.map f=m.map g:=by
 apply List.ext_getElem
 . simpa using h
 . intro j h1 h2;rw [List.length_map] at h1 h2
   have:=hh j h1
   rw [ldE h1,ldE h2] at this;rw [List.getElem_map,List.getElem_map,this]
theorem xpe {m:Mf} {N:Nat} (h:InvM m N D) {L:List ByteArray} {u:Rat} (hu:0<=u) (hc:i<N->hasF m L i+u=1) {p:ByteArray} (hp:p∈L):(wrt m p i).val<=1:=by
 by_cases hi:i<N
 . have h1:=hc hi
   have h2:=w8f (l:=L.map fun p=>(wrt m p i).val) (fun x hx=>by
    obtain ⟨p,_,rfl⟩:=List.mem_map.1 hx
    exact h.nn p i) _ (List.mem_map.2 ⟨p,hp,rfl⟩)
   have h2:(wrt m p i).val<=hasF m L i:=h2
   grind
 . rw [h.xvs p (by omega),zoy];decide
section
variable {s:Sht} {r:Int} {x:Rcp}
theorem vna (h:Acc s r x) {n:Nat} (hn:n<x.steps.length) (m:Mf) (i:Nat):hasF m (yxs x.steps n) i=hasF m (x.steps.getD n default).inn i+hasF m ((yxs x.steps n).filter (w07 (x.steps.getD n default))) i:=by
 have:=wt1 ((w2b h hn).map fun p=>(wrt m p i).val)
 rw [List.map_append,ztz] at this;exact this.symm
theorem w2x {l:List Stp} {n:Nat} (m:Mf) (i:Nat):hasF m (yxs l (n+1)) i=hasF m ((yxs l n).filter (w07 (l.getD n default))) i+hasF m (l.getD n default).out i:=by
 show qsum ((yxs l (n+1)).map _)=_;rw [yxs,List.map_append,ztz]
end
end Go.Hp.T
