/- The proof, part B33: Sq, Kf, A3, Ge, A8. -/
import Derived.Test.YtglblfkobflpmaaGreatB32
import Derived.Test.YtglblfkobflpmaaGreatB31
import Derived.Test.YtglblfkobflpmaaGreatB27
import Derived.Test.YtglblfkobflpmaaGreatB24
import Derived.Test.YtglblfkobflpmaaGreatB30
namespace Go.Hp.T
open Go Go.RowKit Go.Slot Go.Hp Go.Slot.T
set_option maxRecDepth 10000
set_option maxHeartbeats 4000000
theorem vl0 {x:Ex} (h:xes x=true) (h3:x.op≠3) (h0:x.op≠0) (h1:x.op≠1):2<=x.op/\x.op<=15/\(x.op=2\/x.op=4->x.args.length=1)/\(x.op=5->x.args.length=3)/\(x.op≠2->x.op≠4->x.op≠5->x.args.length=2):=by
 have hne:x.args.length≠0:=fun h'=>by
  unfold xes at h;rw [decide_eq_false h0,decide_eq_false h1,h'] at h;simp at h
 obtain ⟨o1,o2⟩:=yl9 h hne;refine ⟨o1,o2,?_⟩;unfold xes at h;rw [decide_eq_false h0,cond_false] at h
 cases hb:(decide (¬x.n=0)||decide (¬x.unit.size=0)) with
 | true=>rw [hb,cond_true] at h;cases h
 | false=>
 rw [hb,cond_false,decide_eq_false h1,cond_false] at h;by_cases a2:x.op=2
 . rw [decide_eq_true a2,cond_true] at h;simp only [Bool.and_eq_true,decide_eq_true_eq] at h;omega
 rw [decide_eq_false a2,cond_false,decide_eq_false h3,cond_false] at h;by_cases a4:x.op=4
 . rw [decide_eq_true a4,cond_true] at h;simp only [Bool.and_eq_true,decide_eq_true_eq] at h;omega
 rw [decide_eq_false a4,cond_false] at h;by_cases a5:x.op=5
 . rw [decide_eq_true a5,cond_true] at h;simp only [Bool.and_eq_true,decide_eq_true_eq] at h;omega
 rw [decide_eq_false a5,cond_false] at h
 cases hc:(decide (x.op=10)||decide (x.op=11)) with
 | true=>rw [hc,cond_true] at h;simp only [Bool.and_eq_true,decide_eq_true_eq] at h;omega
 | false=>rw [hc,cond_false] at h;simp only [Bool.and_eq_true,decide_eq_true_eq] at h;omega
def SndK:Kn->Rs->Prop
 | .tru c d,r=>r.t=true/\(r.i=true->c=true)/\(r.i=false->d=true)
 | .num v,r=>r.t=false/\∃ q,r.v=some q/\v.In q
def xvk (V:Vq) (Ie:Vi):Prop:=∀ s,(z2f V s=none/\z2f Ie s=none)\/∃ q v,z2f V s=some q/\z2f Ie s=some v/\v.In q
theorem wsb {K:Ex->Kr} {C:Ex->Rs×Int} {R:Kn->Rs->Prop}:∀{l:List Ex} {ks:List Kn},(∀ y∈l,∀ k,K y=.inr k->∃ r,C y=(r,0)/\R k r)->seqH (l.map K)=.inr ks->
 ∃ rs,seqV (l.map C)=.inr rs/\rs.length=ks.length/\∀ i,i<ks.length->R (ks.getD i default) (rs.getD i default)
 | [],ks,_,h=>by rw [List.map_nil,seqH] at h;cases h;exact ⟨[],rfl,rfl,fun i hi=>absurd hi (Nat.not_lt_zero _)⟩
 | y::l,ks,hR,h=>by
  rw [List.map_cons] at h
  cases hy:K y with
  | inl e=>rw [hy,seqH] at h;cases h
  | inr k=>
   rw [hy,seqH] at h
   cases hs:seqH (l.map K) with
   | inl e=>rw [hs] at h;cases h
   | inr ks'=>
    rw [hs] at h;cases h;obtain ⟨r,h1,h2⟩:=hR y List.mem_cons_self k hy;obtain ⟨rs,h3,h4,h5⟩:=wsb (fun z hz=>hR z (List.mem_cons_of_mem _ hz)) hs;refine ⟨r::rs,?_,by simp [h4],fun i hi=>?_⟩
    . rw [List.map_cons,h1,seqV,h3];rfl
    . cases i with
      | zero=>exact h2
      | succ i=>simpa using h5 i (by simpa using hi)
theorem anyF {α:Type} [Inhabited α] {p:α->Bool} {l:List α} (h:l.any p=false) {i:Nat} (hi:i<l.length):p (l.getD i default)=false:=by
 rw [List.any_eq_false] at h;simpa using h _ (y7p hi)
theorem wb7 {α:Type} [Inhabited α] {l:List α} (h:l.length=1):l=[l.getD 0 default]:=by
 match l,h with
 | [a],_=>rfl
theorem zxg {α:Type} [Inhabited α] {l:List α} (h:l.length=2):l=[l.getD 0 default,l.getD 1 default]:=by
 match l,h with
 | [a,b],_=>rfl
theorem ygv {o:Int}:vv5 o=true↔o=4\/o=14\/o=15:=by
 unfold vv5;simp only [Bool.or_eq_true,decide_eq_true_eq,or_assoc]
theorem xm6 {o:Int} (ho:6<=o/\o<=13) {a b:Iv} {r s:Rs} (hr:SndK (.num a) r) (hs:SndK (.num b) s) {k:Kn} (h:numH o a b=.inr k):∃ w,ariV o r s=(w,0)/\SndK k w:=by
 obtain ⟨ht,x,hx,hax⟩:=hr;obtain ⟨hu,y,hy,hby⟩:=hs;obtain ⟨t,i,v⟩:=r;obtain ⟨u,j,w⟩:=s;simp only at ht hu hx hy;subst ht;subst hu;subst hx;subst hy;unfold numH at h;unfold ariV;simp only [Bool.or_self,cond_false];have e0:erO (some x) (some y)=0:=rfl
 have:o=6\/o=7\/o=8\/o=9\/o=10\/o=11\/o=12\/o=13:=by omega
 rcases this with rfl | rfl | rfl | rfl | rfl | rfl | rfl | rfl<;>simp only [Int.reduceEq,decide_true,decide_false,cond_true,cond_false,e0] at h ⊢
 . cases h;exact ⟨_,rfl,rfl,_,rfl,yv3 hax hby⟩
 . cases h;exact ⟨_,rfl,rfl,_,rfl,z7j hax hby⟩
 . cases h;exact ⟨_,rfl,rfl,_,rfl,ymw hax hby⟩
 . cases h0:b.has 0 with
   | true=>rw [h0,cond_true] at h;cases h
   | false=>
    rw [h0,cond_false] at h;cases h;obtain ⟨h1,h2⟩:=wmq h0 hax hby;refine ⟨⟨false,false,some (x / y)⟩,?_,rfl,_,rfl,h1⟩;unfold divO divE;simp only [h2,decide_false,cond_false];rfl
 . cases h;exact ⟨_,rfl,rfl,_,rfl,v7k hax hby⟩
 . cases h;exact ⟨_,rfl,rfl,_,rfl,z2r hax hby⟩
 . cases h;refine ⟨_,rfl,rfl,fun hi=>?_,fun hi=>?_⟩
   . have hi:decide (Fc.ordQ x y<0)=true:=hi;rw [y0b,decide_eq_true_eq] at hi;exact decide_eq_true (x0d hax.1 (yqd hi hby.2))
   . have hi:decide (Fc.ordQ x y<0)=false:=hi;rw [y0b,decide_eq_false_iff_not] at hi;exact decide_eq_true (Rat.le_trans hby.1 (Rat.le_trans (Rat.not_lt.1 hi) hax.2))
 . cases h;refine ⟨_,rfl,rfl,fun hi=>?_,fun hi=>?_⟩
   . have hi:decide (Fc.ordQ x y=0)=true:=hi
     rcases Fc.yyw x y with ⟨q,e⟩ | ⟨q,e⟩ | ⟨q,e⟩
     . rw [e] at hi;cases hi
     . exact z2y.2 ⟨x,hax,q▸hby⟩
     . rw [e] at hi;cases hi
   . have hi:decide (Fc.ordQ x y=0)=false:=hi
     cases hd:decide (a=b)&&decide (a.lo=a.hi) with
     | false=>rfl
     | true=>
      rw [Bool.and_eq_true,decide_eq_true_eq,decide_eq_true_eq] at hd;obtain ⟨rfl,hp⟩:=hd;have e1:x=a.lo:=Rat.le_antisymm (hp▸hax.2) hax.1;have e2:y=a.lo:=Rat.le_antisymm (hp▸hby.2) hby.1;rw [e1,e2] at hi
      rcases Fc.yyw a.lo a.lo with ⟨q,e⟩ | ⟨q,e⟩ | ⟨q,e⟩
      . exact absurd q Rat.lt_irrefl
      . rw [e] at hi;cases hi
      . exact absurd q Rat.lt_irrefl
theorem w0o {T:Vt} (hT:∀ s t,z2f T s=some t->tbOk t=true) {o:Int} {s:ByteArray} {ks:List Kn} {rs:List Rs} (hlen:rs.length=ks.length) (hsnd:∀ i,i<ks.length->SndK (ks.getD i default) (rs.getD i default))
 (ho:2<=o/\o<=15) (h3:o≠3) (h5:o≠5) (l1:o=2\/o=4->ks.length=1) (l2:o≠2->o≠4->ks.length=2) {k:Kn} (h:opH T o s ks=.inr k):∃ r,opV T o s rs=(r,0)/\SndK k r:=by
 unfold opH at h
 cases hA:decide (o=2)&&!(z2f T s).isSome with
 | true=>rw [hA,cond_true] at h;cases h
 | false=>
 rw [hA,cond_false] at h
 cases hany:ks.any (fun k=>!(k.t==vv5 o)) with
 | true=>rw [hany,cond_true] at h;cases h
 | false=>
 rw [hany,cond_false] at h
 have hkt:∀ i,i<ks.length->(ks.getD i default).t=vv5 o:=fun i hi=>by
  have:=anyF hany hi
  simpa using this
 unfold opV;by_cases h2:o=2
 . have hl:=l1 (.inl h2)
   have hlg:vv5 o=false:=by rw [h2];rfl
   rw [decide_eq_true h2] at hA h ⊢;rw [hlg,cond_false,cond_true] at h;rw [cond_true]
   cases hlk:z2f T s with
   | none=>rw [hlk] at hA;cases hA
   | some t=>
    rw [hlk] at h;have hs:=hsnd 0 (by omega);have ht:=hkt 0 (by omega);unfold vi3;rw [hlk];generalize ks.getD 0 default=k0 at h hs ht;generalize rs.getD 0 default=r0 at hs
    rcases k0 with ⟨c,d⟩ | v
    . rw [hlg] at ht;cases ht
    . obtain ⟨e1,q,e2,e3⟩:=hs;have h:yyv t v=.inr k:=h
      rcases zde (hT _ _ hlk) v with ⟨_,e⟩ | ⟨_,e⟩
      . rw [e] at h;cases h
      . rw [e] at h;cases h;obtain ⟨w,h4,h5⟩:=ylg (hT _ _ hlk) e e3;simp only;rw [e1,e2,h4,cond_false];exact ⟨_,rfl,rfl,_,rfl,h5⟩
 rw [decide_eq_false h2,cond_false] at h;rw [decide_eq_false h2,cond_false]
 cases hlg:vv5 o with
 | true=>
  rw [hlg,cond_true] at h;have hlg':(decide (o=4)||decide (o=14)||decide (o=15))=true:=hlg;rw [hlg',cond_true]
  cases h;unfold logV truH
  rcases ygv.1 hlg with rfl | rfl | rfl
  . have hl:=l1 (.inr rfl);have hs:=hsnd 0 (by omega);have ht:=hkt 0 (by omega);rw [hlg] at ht;rw [wb7 (hlen.trans hl)];generalize ks.getD 0 default=k0 at hs ht ⊢;generalize rs.getD 0 default=r0 at hs ⊢
    rcases k0 with ⟨c,d⟩ | v
    . obtain ⟨e1,e2,e3⟩:=hs;refine ⟨⟨true,!r0.i,none⟩,?_,rfl,fun hi=>?_,fun hi=>?_⟩
      . simp [e1,truV]
      . exact e3 (by simpa using hi)
      . exact e2 (by simpa using hi)
    . cases ht
  . have hl:=l2 h2 (by decide);have hs0:=hsnd 0 (by omega);have ht0:=hkt 0 (by omega);have hs1:=hsnd 1 (by omega);have ht1:=hkt 1 (by omega);rw [hlg] at ht0 ht1;rw [zxg (hlen.trans hl)];generalize ks.getD 0 default=k0 at hs0 ht0 ⊢;generalize rs.getD 0 default=r0 at hs0 ⊢;generalize ks.getD 1 default=k1 at hs1 ht1 ⊢;generalize rs.getD 1 default=r1 at hs1 ⊢
    rcases k0 with ⟨c,d⟩ | v
    . rcases k1 with ⟨c',d'⟩ | v'
      . obtain ⟨e1,e2,e3⟩:=hs0;obtain ⟨f1,f2,f3⟩:=hs1;refine ⟨⟨true,r0.i&&r1.i,none⟩,?_,rfl,fun hi=>?_,fun hi=>?_⟩
        . simp [e1,f1,truV]
        . simp only [Bool.and_eq_true] at hi;show (c&&c')=true;rw [e2 hi.1,f2 hi.2];rfl
        . show (d||d')=true;simp only [Bool.and_eq_false_iff] at hi
          rcases hi with hi | hi
          . rw [e3 hi];rfl
          . rw [f3 hi,Bool.or_true]
      . cases ht1
    . cases ht0
  . have hl:=l2 h2 (by decide);have hs0:=hsnd 0 (by omega);have ht0:=hkt 0 (by omega);have hs1:=hsnd 1 (by omega);have ht1:=hkt 1 (by omega);rw [hlg] at ht0 ht1;rw [zxg (hlen.trans hl)];generalize ks.getD 0 default=k0 at hs0 ht0 ⊢;generalize rs.getD 0 default=r0 at hs0 ⊢;generalize ks.getD 1 default=k1 at hs1 ht1 ⊢;generalize rs.getD 1 default=r1 at hs1 ⊢
    rcases k0 with ⟨c,d⟩ | v
    . rcases k1 with ⟨c',d'⟩ | v'
      . obtain ⟨e1,e2,e3⟩:=hs0;obtain ⟨f1,f2,f3⟩:=hs1;refine ⟨⟨true,r0.i||r1.i,none⟩,?_,rfl,fun hi=>?_,fun hi=>?_⟩
        . simp [e1,f1,truV]
        . show (c||c')=true;simp only [Bool.or_eq_true] at hi
          rcases hi with hi | hi
          . rw [e2 hi];rfl
          . rw [f2 hi,Bool.or_true]
        . simp only [Bool.or_eq_false_iff] at hi;show (d&&d')=true;rw [e3 hi.1,f3 hi.2];rfl
      . cases ht1
    . cases ht0
 | false=>
  rw [hlg,cond_false] at h;have hlg':(decide (o=4)||decide (o=14)||decide (o=15))=false:=hlg;rw [hlg',cond_false]
  have hn4:o≠4:=fun e=>by rw [e] at hlg;cases hlg
  have hn14:o≠14:=fun e=>by rw [e] at hlg;cases hlg
  have hn15:o≠15:=fun e=>by rw [e] at hlg;cases hlg
  have hl:=l2 h2 hn4;have hs0:=hsnd 0 (by omega);have ht0:=hkt 0 (by omega);have hs1:=hsnd 1 (by omega);have ht1:=hkt 1 (by omega);rw [hlg] at ht0 ht1;generalize ks.getD 0 default=k0 at hs0 ht0 h;generalize rs.getD 0 default=r0 at hs0 ⊢;generalize ks.getD 1 default=k1 at hs1 ht1 h;generalize rs.getD 1 default=r1 at hs1 ⊢
  rcases k0 with ⟨c,d⟩ | v
  . cases ht0
  . rcases k1 with ⟨c',d'⟩ | v'
    . cases ht1
    . exact xm6 (by omega) hs0 hs1 h
theorem zmx {a b k:Kn} (h:vq6 a b=.inr k):∀ r,(SndK a r->SndK k r)/\(SndK b r->SndK k r):=fun r=>by
 rcases a with ⟨c,d⟩ | a<;>rcases b with ⟨c',d'⟩ | b
 . cases h;exact ⟨fun h=>⟨h.1,fun hi=>by rw [h.2.1 hi];rfl,fun hi=>by rw [h.2.2 hi];rfl⟩,fun h=>⟨h.1,fun hi=>by rw [h.2.1 hi,Bool.or_true],fun hi=>by rw [h.2.2 hi,Bool.or_true]⟩⟩
 . cases h
 . cases h
 . cases h;exact ⟨fun ⟨h1,q,h2,h3⟩=>⟨h1,q,h2,(vr2 _ _).in h3⟩,fun ⟨h1,q,h2,h3⟩=>⟨h1,q,h2,(yjp _ _).in h3⟩⟩
theorem xwu {V:Vq} {Ie:Vi} {T:Vt} (hV:xvk V Ie) (hT:∀ s t,z2f T s=some t->tbOk t=true):∀ x:Ex,x.shaped=true->x.wqm=false->∀ k,x.hul Ie T=.inr k->∃ r,x.cal V T=(r,0)/\SndK k r:=by
 refine Ex.ind (fun x ih hsh hcl k h=>?_);rw [Ex.ypb,Bool.and_eq_true,List.all_eq_true] at hsh;rw [Ex.xrx,Bool.or_eq_false_iff,decide_eq_false_iff_not,List.any_eq_false] at hcl;obtain ⟨hnode,hargs⟩:=hsh;obtain ⟨h3,hcalls⟩:=hcl
 have ih':∀ y∈x.args,∀ k,y.hul Ie T=.inr k->∃ r,y.cal V T=(r,0)/\SndK k r:=fun y hy=>ih y hy (hargs y hy) (by simpa using hcalls y hy)
 clear ih;rw [Ex.y3z] at h;rw [Ex.yre];by_cases h0:x.op=0
 . rw [decide_eq_true h0,cond_true] at h ⊢;unfold waw at h;unfold xoq
   rcases ver x.unit with ⟨u,hu,hq⟩ | ⟨e,he,hu⟩
   . unfold facO at h ⊢;rw [hu] at h ⊢
     cases h;exact ⟨_,rfl,rfl,_,rfl,Iv.w3w.2 rfl⟩
   . rw [hu,show decide (¬e=0)=true from decide_eq_true he,cond_true] at h;cases h
 rw [decide_eq_false h0,cond_false] at h ⊢;by_cases h1:x.op=1
 . rw [decide_eq_true h1,cond_true] at h ⊢;unfold veg at h;unfold y21
   rcases hV x.name with ⟨e1,e2⟩ | ⟨q,v,e1,e2,e3⟩
   . rw [e2] at h;cases h
   . rw [e2] at h;cases h;rw [e1];refine ⟨_,rfl,rfl,_,rfl,?_⟩;show v.In (q+((0:Int):Rat));rw [show q+((0:Int):Rat)=q from Rat.add_zero q];exact e3
 rw [decide_eq_false h1,cond_false] at h ⊢;obtain ⟨o1,o2,a1,a2,a3⟩:=vl0 hnode h3 h0 h1;by_cases h5:x.op=5
 . rw [decide_eq_true h5,cond_true] at h ⊢;have hl:=a2 h5;have i0:=ih' _ (y7p (show 0<x.args.length by omega));have i1:=ih' _ (y7p (show 1<x.args.length by omega));have i2:=ih' _ (y7p (show 2<x.args.length by omega));unfold chV;rw [getD_map (show 0<x.args.length by omega),getD_map (show 1<x.args.length by omega),getD_map (show 2<x.args.length by omega)] at h ⊢;generalize (x.args.getD 0 default).hul Ie T=k0 at i0 h;generalize (x.args.getD 1 default).hul Ie T=k1 at i1 h;generalize (x.args.getD 2 default).hul Ie T=k2 at i2 h;generalize (x.args.getD 0 default).cal V T=r0 at i0 ⊢;generalize (x.args.getD 1 default).cal V T=r1 at i1 ⊢;generalize (x.args.getD 2 default).cal V T=r2 at i2 ⊢;unfold chH at h
   rcases k0 with e | ⟨c,d⟩ | v
   . cases h
   . obtain ⟨w,rfl,e1,e2,e3⟩:=i0 _ rfl;simp only [not_true_eq_false,decide_false,cond_false,e1,Bool.not_true]
     cases c with
     | false=>
      have h:k2=.inr k:=h
      have:w.i=false:=by cases hi:w.i with
       | false=>rfl
       | true=>exact absurd (e2 hi) (by decide)
      rw [this,cond_false];exact i2 k h
     | true=>
      rcases k1 with e | a
      . cases h
      . cases d with
        | false=>
         have:w.i=true:=by cases hi:w.i with
          | true=>rfl
          | false=>exact absurd (e3 hi) (by decide)
         rw [this,cond_true];exact i1 k h
        | true=>
         rcases k2 with e | b
         . cases h
         . have h:vq6 a b=.inr k:=h
           cases w.i with
           | true=>
            obtain ⟨r,h6,h7⟩:=i1 _ rfl;exact ⟨r,h6,(zmx h r).1 h7⟩
           | false=>
            obtain ⟨r,h6,h7⟩:=i2 _ rfl;exact ⟨r,h6,(zmx h r).2 h7⟩
   . cases h
 rw [decide_eq_false h5,cond_false] at h ⊢
 cases hs:seqH (x.args.map (Ex.hul Ie T)) with
 | inl e=>rw [hs] at h;cases h
 | inr ks=>
  rw [hs] at h;have hlk:=(zdj hs).1;rw [List.length_map] at hlk;obtain ⟨rs,h6,h7,h8⟩:=wsb ih' hs;rw [h6];exact w0o hT h7 h8 ⟨o1,o2⟩ h3 h5 (fun h=>by rw [hlk];exact a1 h) (fun p q=>by rw [hlk];exact a3 p q h5) h
end Go.Hp.T
namespace Go.Hp.T
open Go Go.RowKit Go.Slot Go.Hp Go.Slot.T
set_option maxRecDepth 10000
theorem ww9 {x:Ex} {zs:List Zn} {ms:List Tb} {k:Kn} (h:hulF x zs ms=.inr k):zqs x=true/\x.wqm=false/\∃ V T,entZ zs ms=some (V,T)/\x.hul V T=.inr k:=by
 unfold hulF at h
 cases h1:zqs x with
 | false=>rw [h1] at h;cases h
 | true=>cases h2:x.wqm with
  | true=>rw [h1,h2] at h;cases h
  | false=>
   rw [h1,h2] at h
   cases h3:entZ zs ms with
   | none=>rw [h3] at h;cases h
   | some p=>obtain ⟨V,T⟩:=p;rw [h3] at h;exact ⟨rfl,rfl,V,T,rfl,h⟩
theorem wp3 {β γ:Type} [Inhabited β] [Inhabited γ] {nm:β->ByteArray} {nm':γ->ByteArray}:∀{l:List β} {l':List γ},l.map nm=l'.map nm'->∀ s,(fnd nm l s=none/\fnd nm' l' s=none)\/∃ i,i<l.length/\fnd nm l s=some (l.getD i default)/\fnd nm' l' s=some (l'.getD i default)
 | [],[],_,s=>.inl ⟨rfl,rfl⟩
 | [],c::l',h,s=>by cases h
 | b::l,[],h,s=>by cases h
 | b::l,c::l',h,s=>by
  rw [List.map_cons,List.map_cons,List.cons.injEq] at h;rw [vvu,vvu,<-h.1]
  cases seq s (nm b) with
  | true=>exact .inr ⟨0,by simp,rfl,rfl⟩
  | false=>
   rcases wp3 h.2 s with ⟨h1,h2⟩ | ⟨i,hi,h1,h2⟩
   . exact .inl ⟨h1,h2⟩
   . exact .inr ⟨i+1,by simpa using hi,h1,h2⟩
theorem v2h {s:Sc} {f:Fc} (h:s.has f):f.ok/\(ivOf s).In f.val:=by
 have h0:=h;obtain ⟨h1,h2,_⟩:=h0;obtain ⟨v,rfl⟩:=vnd h1;obtain ⟨q,rfl⟩:=zr1 h2
 have h3:v.has q=true:=by rw [<-yxo];exact decide_eq_true h
 rw [wdg,show (qF (some q)).val=q from Fc.xhg q];exact ⟨h2,Iv.yeq.1 h3⟩
theorem vs6 {x:Ex} {zs:List Zn} {bs:List Bd} {ms:List Tb} (hn:zs.map Zn.name=bs.map Bd.name) (hh:∀ i,i<zs.length->(zs.getD i default).s.has (bs.getD i default).v) {k:Kn} (h:hulF x zs ms=.inr k):∃ r,valF x bs ms=(r,0)/\SndK k r:=by
 obtain ⟨h1,h2,V,T,h3,h4⟩:=ww9 h;obtain ⟨e1,e2,e3,e4,e5⟩:=vxk h3;rw [hn] at e3
 have hlen:zs.length=bs.length:=by simpa using congrArg List.length hn
 obtain ⟨⟨V',T'⟩,h5⟩:=zuo (nm:=Bd.name) (ok:=fun b=>decide b.v.ok) (val:=fun b=>b.v.val) (tok:=tbOk) (bs:=bs) (ms:=ms) (fun b hb=>by
  obtain ⟨i,hi,rfl⟩:=List.getElem_of_mem hb;have h:=(v2h (hh i (by omega))).1;rw [show bs.getD i default=bs[i] by simp [hi]] at h
  exact decide_eq_true h) e2 e3
 obtain rfl:=zkk h5 h3;rw [show valF x bs ms=x.cal V' T' by unfold valF;rw [h1,h2,show entF bs ms=some (V',T') from h5];rfl];obtain ⟨_,_,_,f4,f5⟩:=vxk h5;refine xwu (fun s=>?_) (fun s t ht=>?_) x (yvx h1) h2 k h4
 . rcases wp3 hn s with ⟨a,b⟩ | ⟨i,hi,a,b⟩
   . exact .inl ⟨by rw [f4,b];rfl,by rw [e4,a];rfl⟩
   . exact .inr ⟨_,_,by rw [f4,b];rfl,by rw [e4,a];rfl,(v2h (hh i hi)).2⟩
 . exact e2 t (ypj (by rw [<-f5];exact ht)).1
def bhS (nm:Nat->ByteArray) (n:Nat):List Sl:=(List.range n).map fun i=>⟨nm i,Af.of 0 (vy0 i n)⟩
def bhZ (nm:Nat->ByteArray) (l:List Sc):List Zn:=(List.range l.length).map fun i=>⟨nm i,l.getD i Sc.zero⟩
theorem v4z (i n:Nat):(vy0 i n).length=n:=by unfold vy0;simp
theorem v5w {i n:Nat} {q:Rat} (h:q∈vy0 i n):q=0\/q=1:=by
 unfold vy0 at h;obtain ⟨k,_,rfl⟩:=List.mem_map.1 h;by_cases e:i=k
 . exact .inr (if_pos e)
 . exact .inl (if_neg e)
theorem sz01 {q:Rat} (h:q=0\/q=1):(Fc.of q).sz<=4:=by
 have key:∀ q:Rat,q.num.natAbs<=18446744073709551615->q.den<=18446744073709551615->(Fc.of q).sz<=4:=fun q h1 h2=>by
  have a:=y6j h1;have b:=y6j h2;rw [Fc.zom];omega
 rcases h with rfl | rfl
 . exact key 0 (by decide) (by decide)
 . exact key 1 (by decide) (by decide)
theorem xnn (i n:Nat):(Af.of 0 (vy0 i n)).le 4:=by
 refine ⟨sz01 (.inl rfl),fun f hf=>?_⟩;obtain ⟨q,hq,rfl⟩:=List.mem_map.1 hf;exact sz01 (v5w hq)
theorem xhl {nm:Nat->ByteArray} {n:Nat} {s:Sl} (h:s∈bhS nm n):∃ i,i<n/\s=⟨nm i,Af.of 0 (vy0 i n)⟩:=by
 obtain ⟨i,hi,rfl⟩:=List.mem_map.1 h;exact ⟨i,List.mem_range.1 hi,rfl⟩
theorem x9o {nm:Nat->ByteArray} {n:Nat}:∀ s∈bhS nm n,s.sm 4300:=fun s hs=>by
 obtain ⟨i,_,rfl⟩:=xhl hs;have h:=xnn i n;exact ⟨Nat.le_trans (Nat.add_le_add_right h.1 10) (by decide),fun f hf=>by have:=h.2 f hf;omega⟩
theorem vnz (nm:Nat->ByteArray) (n:Nat):nOf (bhS nm n)=n:=by
 cases n with
 | zero=>rfl
 | succ n=>
  unfold bhS;rw [List.range_succ_eq_map];show ((vy0 0 (n+1)).map Fc.of).length=n+1;rw [List.length_map,v4z]
theorem zb5:∀{vs:List Rat} {ps:List (Rat×Rat)},inP vs ps->∀ i,i<ps.length->(ps.getD i (0,0)).1<=vs.getD i 0/\vs.getD i 0<=(ps.getD i (0,0)).2
 | v::vs,p::ps,h,0,_=>h.1
 | v::vs,p::ps,h,i+1,hi=>zb5 h.2 i (by simpa using hi)
 | _,[],_,i,hi=>by simp at hi
 | [],_::_,h,_,_=>h.elim
theorem xrq {nm:Nat->ByteArray} {x:Ex} {l:List Sc} {ms:List Tb} {r:Th} {v:Iv} (ha:affF x (bhS nm l.length) ms=(r,0)) (hh:hulF x (bhZ nm l) ms=.inr (.num v)) :
 ∃ q ps,r.c=some q/\r.t=false/\l=ps.map Sc.of/\r.l.length=ps.length/\okP ps/\(Sc.of (ws3 q r.l ps)).inside (ivS v):=by
 have hval:=fun vs (hv:vs.length=l.length)=>zmz (B:=4300) (by decide) (vs:=vs) x9o (by rw [vnz];exact hv) ha
 obtain ⟨q,hq,ht,hl,_⟩:=hval (List.replicate l.length 0) (by simp);rw [List.length_replicate] at hl;obtain ⟨h1,h2,V,T,h3,h4⟩:=ww9 hh;obtain ⟨e1,e2,e3,e4,e5⟩:=vxk h3
 have hok:okS l:=fun s hs=>by
  obtain ⟨i,hi,rfl⟩:=List.getElem_of_mem hs
  have:=e1 ⟨nm i,l.getD i Sc.zero⟩ (List.mem_map.2 ⟨i,List.mem_range.2 hi,rfl⟩)
  have:=of_decide_eq_true this
  simpa [hi] using this
 obtain ⟨ps,hps,hp⟩:=xct hok
 have hpl:l.length=ps.length:=by rw [hps,List.length_map]
 have hin:∀ vs,inP vs ps->v.In (q+dot r.l vs):=fun vs hvs=>by
  have hvl:=x0k hvs;obtain ⟨q',hq',_,_,hv⟩:=hval vs (by omega);rw [hq] at hq'
  cases hq'
  have hnames:(bhZ nm l).map Zn.name=((bhS nm l.length).map fun s=>(⟨s.name,s.f.at' (vs.map Fc.of)⟩:Bd)).map Bd.name:=by
   unfold bhZ bhS;rw [List.map_map,List.map_map,List.map_map];rfl
  obtain ⟨s,hs1,hs2⟩:=vs6 hnames (fun i hi=>by
   have hi':i<l.length:=by simpa [bhZ] using hi
   have e1:((bhZ nm l).getD i default).s=Sc.of (ps.getD i (0,0)):=by
    unfold bhZ;simp [hps];simp [show i<ps.length by omega]
   have e2:(((bhS nm l.length).map fun s=>(⟨s.name,s.f.at' (vs.map Fc.of)⟩:Bd)).getD i default).v=Fc.of (vs.getD i 0):=by
    unfold bhS;rw [List.map_map,List.getD_eq_getElem?_getD,List.getElem?_map,List.getElem?_range hi'];show (Af.of 0 (vy0 i l.length)).at' (vs.map Fc.of)=_;rw [Af.vei _ _ _ (by rw [v4z];omega),zh9,show l.length=vs.length by omega,x6r vs i (by omega)]
    congr 1
    grind
   rw [e1,e2]
   exact (vvy _ _).2 (zb5 hvs i (by omega))) hh
  rw [hv] at hs1
  cases hs1;obtain ⟨_,w,hw,hw2⟩:=hs2
  cases hw;exact hw2
 refine ⟨q,ps,hq,ht,hps,by omega,hp,?_⟩;have i1:=hin _ (zzm r.l ps (by omega) hp);have i2:=hin _ (yff r.l ps (by omega) hp);have e:ivS v=Sc.of (v.lo,v.hi):=rfl;rw [e];refine (w5i _ _).2 ⟨wcd q r.l ps (by omega) hp,?_,?_⟩
 . show v.lo<=sumQ q r.l (ysk r.l ps);rw [zh9];exact i1.1
 . show sumQ q r.l (zfn r.l ps)<=v.hi;rw [zh9];exact i2.2
end Go.Hp.T
namespace Go.Hp.T
open Go Go.RowKit Go.Slot Go.Hp Go.Slot.T
open Go.Proofs.Tryz (prog)
attribute [local irreducible] hide RH
set_option maxRecDepth 10000
set_option maxHeartbeats 8000000
variable {Γ:List (Nat×List Cell)}
abbrev afC (f:Fm):List Cell:=[.raw (.int .i64 (qF (some f.1)).s),.ints .i64 (qF (some f.1)).L,.raw (.int .i64 (qF (some f.1)).t),.ints .i64 (qF (some f.1)).M,.sl 4 (f.2.map rowQ)]
theorem vql (l:List Rat):List.map Fc.C (List.map Fc.of l)=l.map rowQ:=by rw [List.map_map];rfl
theorem y6w (k:Rat) (cs:List Rat):(Af.of k cs).C=afC (k,cs):=by unfold Af.of;rw [Af.C_eq];simp only [vql];rfl
abbrev thA (r:Th×Int):AV:=.tup [.agg (thC r.1),.one (cI r.2)]
abbrev thS (r:Th×Int):SV:=.tup [.agg ((thC r.1).map .dat),.one (.dat (cI r.2))]
abbrev thZ (t i:Bool):List Cell:=[cB t,cB i,cI 0,.zc,cI 0,.zc,.zc]
theorem thLe {t i:Bool}:AV.Le (.agg (thZ t i)) (.agg (thC ⟨t,i,none,[]⟩)):=.agg (.cons (.refl _) (.cons (.refl _) (.cons (.refl _) (.cons (.zud _) (.cons (.refl _) (.cons (.zud _) (.cons (.zcSl _) .nil)))))))
theorem thEq {t i:Bool} {e:Int} {r:Th×Int} (h:r=(⟨t,i,none,[]⟩,e)):RLe (.tup [.agg (thZ t i),.one (cI e)]) (thA r):=by
 subst h;exact .tup (.cons thLe (.cons (.refl _) .nil))
theorem StH.thZ {e:List SB} {I':List SV} {J:List SB} {t i:Bool} {n:Int} (h:StH Γ e [thS (⟨t,i,none,[]⟩,n)] J I' e):StH Γ e [SV.tup [.agg ((T.thZ t i).map .dat),.one (.dat (cI n))]] J I' e:=
 StH.trans (StH.tup1 (.cons (.agg (.cons (.refl _) (.cons (.refl _) (.cons (.refl _) (.cons (.dat (.zud _)) (.cons (.refl _) (.cons (.dat (.zud _)) (.cons (.dat (.zcSl _)) .nil)))))))) (.cons (.refl _) .nil))) h
theorem StH.z9p {e:List SB} {I:List SV} {J:List SB} {t i:Bool} {n:Int} {r:Th×Int} (he:J.take e.length=e) (h:(I.all fun x=>(wj3 x).all fun b=>Nat.blt b e.length)=true) (hσ:I=[SV.tup [.agg ((T.thZ t i).map .dat),.one (.dat (cI n))]]) (hr:r=(⟨t,i,none,[]⟩,n)):StH Γ e I J [thS r] e:=by
 subst hr;exact StH.trans (StH.vzq he h hσ) (StH.thZ StH.refl)
theorem Th.G.cs {n B:Nat} {x:Th} (h:x.G n B):(∃ i,x=⟨true,i,none,[]⟩)\/∃ k cs,x=⟨false,false,some k,cs⟩/\cs.length=n/\qs k<=B/\∀ q∈cs,qs q<=B:=by
 obtain ⟨t,i,c,l⟩:=x
 rcases h with ⟨h1,h2,h3⟩ | ⟨h1,h2,h3,⟨q,h4,h5⟩,h6⟩
 . simp only at h1 h2 h3;subst h1 h2 h3;exact .inl ⟨i,rfl⟩
 . simp only at h1 h2 h3 h4 h6;subst h1 h2 h4;exact .inr ⟨q,l,rfl,h3,h5,h6⟩
theorem Th.G.rows {n B:Nat} {x:Th} (h:x.G n B):x.l.length<=n/\∀ q∈x.l,qs q<=B:=by
 rcases h with ⟨_,_,h3⟩ | ⟨_,_,h3,_,h6⟩
 . rw [h3];exact ⟨Nat.zero_le _,fun q hq=>by cases hq⟩
 . exact ⟨Nat.le_of_eq h3,h6⟩
theorem zf5 {B:Nat} {cs:List Rat} (h:∀ q∈cs,qs q<=B):∀ f∈cs.map Fc.of,f.sz<=B:=fun f hf=>by
 obtain ⟨q,hq,rfl⟩:=List.mem_map.1 hf;exact h q hq
theorem zv9:∀ l:List Rat,(l.map Fc.of).any (fun f=>decide (¬Fc.sign f=0)) = !l.all (fun q=>decide (q=0))
 | []=>rfl
 | q::l=>by
  rw [List.map_cons,List.any_cons,List.all_cons,zv9 l,Bool.not_and]
  congr 1
  rw [<-decide_not];refine decide_eq_decide.2 ?_;rw [show Fc.sign (Fc.of q)=sg q.num from Fc.w9s q];exact not_congr x7m
theorem wct (f:Fc) (h:f.sz<=67108864):CallsD Γ prog 143 [.agg f.C] (.one (cB (decide (¬Fc.sign f=0)))):=by
 refine CallsD.run [] Go.Proofs.Tryz.func143 rfl rfl rfl ?_;simp only [Go.Proofs.Tryz.f143];refine hgR ?_
 repeat' ((first | refine hfk ?_ ?_<;>intros | refine hik ?_ | with_reducible first | refine wml (xhi f h) ?_ | refine ysi (xhi f h) ?_)<;>refine hgS ?_)
 all_goals refine lfE ?_;first | exact trivial | rfl
theorem cCon (x:Th) (hl:x.l.length<=1048576) (hs:∀ q∈x.l,qs q<=67108864):CallsD Γ prog 102 [.agg (thC x)] (.one (cB x.con)):=by
 have h:=xmx (Γ:=Γ) 143 (fun f=>decide (¬Fc.sign f=0)) (x.l.map Fc.of) (by rw [List.length_map];omega) (fun i hi=>wct _ (zmm (zf5 hs) hi));rw [zv9,vql] at h;have e:x.con=(!x.t&&x.l.all (fun q=>decide (q=0))):=rfl;rw [e];generalize x.l.all (fun q=>decide (q=0))=c at *;refine CallsD.run [] Go.Proofs.Tryz.func102 rfl rfl rfl ?_;simp only [Go.Proofs.Tryz.f102];refine hgR ?_
 repeat' ((first | refine hfk ?_ ?_<;>intros | refine hik ?_ | with_reducible first | refine wml (h) ?_ | refine ysi (h) ?_)<;>refine hgS ?_)
 all_goals (refine RLe.ofEq ?_;conv=>simp only [Bool.and_true,Bool.true_and,Bool.and_false,Bool.false_and,Bool.or_true,Bool.true_or,Bool.or_false,Bool.false_or,Bool.not_true,Bool.not_false,decide_true,decide_false,not_true_eq_false,not_false_eq_true,wit,if_true,if_false,Bool.and_self,Bool.or_self,cond_true,cond_false,List.length_map,ne_eq,Int.reduceEq,Int.reduceLT,Int.reduceLE, *,Bool.not_not]);first | exact trivial | rfl
theorem Th.G.con {n B:Nat} {x:Th} (h:x.G n B) (hn:n<=1048576) (hB:B<=67108864):CallsD Γ prog 102 [.agg (thC x)] (.one (cB x.con)):=
 cCon x (Nat.le_trans h.rows.1 hn) (fun q hq=>Nat.le_trans (h.rows.2 q hq) hB)
theorem zbq (l:List Th) (f:FuncId) (p:Th->Bool) (hl:l.length<=1073741824) (h:∀ y∈l,CallsD Γ prog f [.agg (thC y)] (.one (cB (p y)))) :
 CallsD Γ prog 146 [.one (.sl 7 (l.map Th.C)),fN f] (.one (cI (idxF p l))):=by
 refine CallsD.run [] Go.Proofs.Tryz.func146 rfl rfl rfl ?_;simp only [Go.Proofs.Tryz.f146];refine hgR ?_;refine x20 [0,1,7] (fun i:Nat=>[(8,.one (.dat (cI i)))]) (fun _=>[]) (fun i=>i<=l.length/\∀ j,j<i->p (l.getD j default)=false) (fun i=>l.length-i) 0 ⟨Nat.zero_le _,fun j hj=>by omega⟩ ?_ ?_
 . refine hg ?_;exact StH.same svl rfl
 intro i hi;obtain ⟨hi,hj⟩:=hi;refine hg ?_
 repeat' ((first | refine hfk ?_ ?_<;>intros | refine hik ?_ | with_reducible first | refine wml (h _ (y7p (show i<l.length by omega))) ?_ | refine ysi (h _ (y7p (show i<l.length by omega))) ?_)<;>refine hgS ?_)
 . rename_i hp;rw [(w7a hi hj).2 (by omega) hp];exact RLe.ofEq rfl
 . rename_i hp;refine ⟨i+1,⟨by omega,fun j hj'=>?_⟩,by omega,StH.same svl rfl⟩
   rcases Nat.lt_or_eq_of_le (Nat.le_of_lt_succ hj') with h2 | h2
   . exact hj j h2
   . rw [h2];exact hp
 . rw [(w7a hi hj).1 (by omega)];exact RLe.ofEq rfl
theorem xaw (l:List Th) (f:FuncId) (p:Th->Bool) (hl:l.length<=1073741824) (h:∀ y∈l,CallsD Γ prog f [.agg (thC y)] (.one (cB (p y)))) :
 CallsD Γ prog 104 [.one (.sl 7 (l.map Th.C)),fN f] (.one (cB (l.any p))):=by
 refine CallsD.run [] Go.Proofs.Tryz.func104 rfl rfl rfl ?_;simp only [Go.Proofs.Tryz.f104];refine hgR ?_
 repeat' ((first | refine hfk ?_ ?_<;>intros | refine hik ?_ | with_reducible first | refine wml (zbq l f p hl h) ?_ | refine ysi (zbq l f p hl h) ?_)<;>refine hgS ?_)
 exact RLe.ofEq (by rw [<-z9z])
theorem wc5 (x:Th):CallsD Γ prog 105 [.agg (thC x)] (.one (cB (!x.t))):=by
 refine CallsD.run [] Go.Proofs.Tryz.func105 rfl rfl rfl ?_;simp only [Go.Proofs.Tryz.f105];refine hgR ?_
 repeat' ((first | refine hfk ?_ ?_<;>intros | refine hik ?_)<;>refine hgS ?_)
 all_goals refine lfE ?_;first | exact trivial | rfl
theorem y34 (o:Int) (l:List Th) (h0:0<l.length) (hl:l.length<=1073741824) (h2:o=14\/o=15->1<l.length):CallsD Γ prog 62 [.one (cI o),.one (.sl 7 (l.map Th.C))] (thA (logA o l)):=by
 have h:=xaw (Γ:=Γ) l 105 (fun t=>!t.t) (by omega) (fun y _=>wc5 y)
 have e:logA o l=bif l.any (fun t=>!t.t) then (⟨false,false,none,[]⟩,13) else truA (bif decide (o=14) then (l.getD 0 default).i&&(l.getD 1 default).i else bif decide (o=15) then (l.getD 0 default).i||(l.getD 1 default).i else !(l.getD 0 default).i):=rfl
 generalize l.any (fun t=>!t.t)=c at h e;generalize hR:logA o l=R at e
 cases c with
 | true=>
  refine CallsD.run [] Go.Proofs.Tryz.func62 rfl rfl rfl ?_;simp only [Go.Proofs.Tryz.f62];refine hgR ?_
  repeat' ((first | refine hfk ?_ ?_<;>intros | refine hik ?_ | with_reducible first | refine wml (h) ?_ | refine ysi (h) ?_)<;>refine hgS ?_)
  all_goals first
   | exact thEq rfl
   | exact RLe.ofEq rfl
   | (exfalso;omega)
   | exact thEq (by simp [*,truA,timA])
   | exact RLe.ofEq (by simp [*,truA,timA])
 | false=>
  by_cases o14:o=14
  . have h2':=h2 (.inl o14);subst o14;refine CallsD.run [] Go.Proofs.Tryz.func62 rfl rfl rfl ?_;simp only [Go.Proofs.Tryz.f62];refine hgR ?_
    repeat' ((first | refine hfk ?_ ?_<;>intros | refine hik ?_ | with_reducible first | refine wml (h) ?_ | refine ysi (h) ?_)<;>refine hgS ?_)
    all_goals first
    | exact thEq rfl
    | exact RLe.ofEq rfl
    | (exfalso;omega)
    | exact thEq (by simp [*,truA,timA])
    | exact RLe.ofEq (by simp [*,truA,timA])
  . by_cases o15:o=15
    . have h2':=h2 (.inr o15);subst o15;refine CallsD.run [] Go.Proofs.Tryz.func62 rfl rfl rfl ?_;simp only [Go.Proofs.Tryz.f62];refine hgR ?_
      repeat' ((first | refine hfk ?_ ?_<;>intros | refine hik ?_ | with_reducible first | refine wml (h) ?_ | refine ysi (h) ?_)<;>refine hgS ?_)
      all_goals first
    | exact thEq rfl
    | exact RLe.ofEq rfl
    | (exfalso;omega)
    | exact thEq (by simp [*,truA,timA])
    | exact RLe.ofEq (by simp [*,truA,timA])
    . refine CallsD.run [] Go.Proofs.Tryz.func62 rfl rfl rfl ?_;simp only [Go.Proofs.Tryz.f62];refine hgR ?_
      repeat' ((first | refine hfk ?_ ?_<;>intros | refine hik ?_ | with_reducible first | refine wml (h) ?_ | refine ysi (h) ?_)<;>refine hgS ?_)
      all_goals first
    | exact thEq rfl
    | exact RLe.ofEq rfl
    | (exfalso;omega)
    | exact thEq (by simp [*,truA,timA])
    | exact RLe.ofEq (by simp [*,truA,timA])
theorem zlw {n B:Nat} (o:Int) (a b:Th) (ha:a.G n B) (hb:b.G n B) (hn:n<=1048576) (hB:B<=67108864):CallsD Γ prog 64 [.one (cI o),.agg (thC a),.agg (thC b)] (thA (sumA o a b)):=by
 generalize hR:sumA o a b=R
 rcases ha.cs with ⟨i,rfl⟩ | ⟨k,cs,rfl,h1,h2,h3⟩
 . refine CallsD.run [] Go.Proofs.Tryz.func64 rfl rfl rfl ?_;simp only [Go.Proofs.Tryz.f64];refine hgR ?_;exact thEq hR.symm
 rcases hb.cs with ⟨i,rfl⟩ | ⟨m,ds,rfl,k1,k2,k3⟩
 . refine CallsD.run [] Go.Proofs.Tryz.func64 rfl rfl rfl ?_;simp only [Go.Proofs.Tryz.f64];refine hgR ?_;exact thEq hR.symm
 have la:(Af.of k cs).l.length<=1048576:=by show (cs.map Fc.of).length<=_;rw [List.length_map];omega
 have lb:(Af.of k cs).l.length<=(Af.of m ds).l.length:=by show (cs.map Fc.of).length<=(ds.map Fc.of).length;rw [List.length_map,List.length_map];omega
 have za:(Af.of k cs).le 67108864:=⟨Nat.le_trans h2 hB,zf5 (fun q hq=>Nat.le_trans (h3 q hq) hB)⟩;have zb:(Af.of m ds).le 67108864:=⟨Nat.le_trans k2 hB,zf5 (fun q hq=>Nat.le_trans (k3 q hq) hB)⟩;have e1:=CallsD.fn2 (Γ:=Γ) (g:=49) (ylz 67108864 Fc.add (fun x y=>Fc.er (x.ok/\y.ok)) (Af.of k cs) (Af.of m ds) lb la za zb) (wza (Γ:=Γ) Fc.zero Fc.zero (by decide) (by decide)).1
  (fun args res ⟨x,y,hx,hy,h1,h2⟩=>by subst h1 h2;exact wza x y hx hy)
 have e2:=CallsD.fn2 (Γ:=Γ) (g:=47) (ylz 67108864 Fc.sub (fun x y=>Fc.er (x.ok/\y.ok)) (Af.of k cs) (Af.of m ds) lb la za zb) (yjd (Γ:=Γ) Fc.zero Fc.zero (by decide) (by decide)).1
  (fun args res ⟨x,y,hx,hy,h1,h2⟩=>by subst h1 h2;exact yjd x y hx hy)
 rw [w8v Fc.xac,y6w,y6w,y6w] at e1;rw [w8v Fc.zig,y6w,y6w,y6w] at e2;refine CallsD.run [] Go.Proofs.Tryz.func64 rfl rfl rfl ?_;simp only [Go.Proofs.Tryz.f64];refine hgR ?_
 repeat' ((first | refine hfk ?_ ?_<;>intros | refine hik ?_ | with_reducible first | refine wml (e1) ?_ | refine ysi (e1) ?_ | refine wml (e2) ?_ | refine ysi (e2) ?_)<;>refine hgS ?_)
 all_goals (subst hR;first
  | exact RLe.ofEq rfl
  | exact RLe.ofEq (by simp [sumA,addA,subA, *];exact ⟨rfl,rfl,rfl,rfl⟩))
theorem xoj (k q:Rat) (cs:List Rat) (hl:cs.length<=1048576) (h1:qs k<=67108864) (h2:∀ c∈cs,qs c<=67108864) (h3:qs q<=67108864) :
 CallsD Γ prog 107 [.agg (afC (k,cs)),.agg (qC (some q))] (.tup [.agg (afC (k*q,cs.map (· * q))),.one (cI 0)]):=by
 have h:=zy8 (Γ:=Γ) (Af.of k cs) (Fc.of q) (by show (cs.map Fc.of).length<=_;rw [List.length_map];omega) ⟨h1,zf5 h2⟩ h3;rw [xi2,y6w,y6w,Fc.wop ⟨(Af.xd3 _ _ _).2 (by show _=(cs.map Fc.of).length;rw [List.length_map]),Fc.xd3 q⟩] at h;exact h
theorem zda {n B:Nat} (o:Int) (ho:o=8\/o=9) (a b:Th) (ha:a.G n B) (hb:b.G n B) (hn:n<=1048576) (hB:B<=33554432):CallsD Γ prog 63 [.one (cI o),.agg (thC a),.agg (thC b)] (thA (scaA o a b)):=by
 have ca:=ha.con (Γ:=Γ) hn (by omega);have cb:=hb.con (Γ:=Γ) hn (by omega);generalize hR:scaA o a b=R
 rcases ha.cs with ⟨i,rfl⟩ | ⟨k,cs,rfl,h1,h2,h3⟩
 . refine CallsD.run [] Go.Proofs.Tryz.func63 rfl rfl rfl ?_;simp only [Go.Proofs.Tryz.f63];refine hgR ?_;exact thEq hR.symm
 rcases hb.cs with ⟨i,rfl⟩ | ⟨m,ds,rfl,k1,k2,k3⟩
 . refine CallsD.run [] Go.Proofs.Tryz.func63 rfl rfl rfl ?_;simp only [Go.Proofs.Tryz.f63];refine hgR ?_;exact thEq hR.symm
 have l1:cs.length<=1048576:=by omega
 have l2:ds.length<=1048576:=by omega
 have t1:=xoj (Γ:=Γ) k m cs l1 (by omega) (fun q hq=>by have:=h3 q hq;omega) (by omega);have t2:=xoj (Γ:=Γ) m k ds l2 (by omega) (fun q hq=>by have:=k3 q hq;omega) (by omega)
 have hR2:R=bif (!Th.con ⟨false,false,some m,ds⟩&&(decide (o=9)||!Th.con ⟨false,false,some k,cs⟩)) then (⟨false,false,none,[]⟩,13) else
  bif decide (o=8)&&!Th.con ⟨false,false,some m,ds⟩ then (⟨false,false,some (m*k),ds.map (· * k)⟩,0) else
  bif decide (o=9) then (bif decide (¬divE (some ((1:Int):Rat)) (some m)=0) then (⟨false,false,none,[]⟩,15) else (timA ⟨false,false,some k,cs⟩ (divO (some ((1:Int):Rat)) (some m)),0)) else (⟨false,false,some (k*m),cs.map (· * m)⟩,0):=hR.symm
 generalize Th.con ⟨false,false,some k,cs⟩=xa at ca hR2;generalize Th.con ⟨false,false,some m,ds⟩=xb at cb hR2;clear hR ha hb
 rcases ho with rfl | rfl
 . refine CallsD.run [] Go.Proofs.Tryz.func63 rfl rfl rfl ?_;simp only [Go.Proofs.Tryz.f63];refine hgR ?_
   repeat' ((first | refine hfk ?_ ?_<;>intros | refine hik ?_ | with_reducible first | refine wml (ca) ?_ | refine ysi (ca) ?_ | refine wml (cb) ?_ | refine ysi (cb) ?_ | refine wml (t1) ?_ | refine ysi (t1) ?_ | refine wml (t2) ?_ | refine ysi (t2) ?_)<;>refine hgS ?_)
   all_goals first
    | exact thEq rfl
    | exact RLe.ofEq rfl
    | (exfalso;omega)
    | exact thEq (by simp [*,truA,timA])
    | exact RLe.ofEq (by simp [*,truA,timA])
 . have hz:=x11 (n:=1) (by decide);have hd:=oDiv (Γ:=Γ) (some ((1:Int):Rat)) (some m) (by omega) (by show qs m<=_;omega);by_cases hm:m=0
   . subst hm
     have e1:divE (some ((1:Int):Rat)) (some 0)=15:=by show (bif decide ((0:Rat)=0) then (15:Int) else 0)=15;rw [decide_eq_true rfl];rfl
     rw [e1] at hd hR2;refine CallsD.run [] Go.Proofs.Tryz.func63 rfl rfl rfl ?_;simp only [Go.Proofs.Tryz.f63];refine hgR ?_
     repeat' ((first | refine hfk ?_ ?_<;>intros | refine hik ?_ | with_reducible first | refine wml (ca) ?_ | refine ysi (ca) ?_ | refine wml (cb) ?_ | refine ysi (cb) ?_ | refine wml (oInt 1 (by decide)) ?_ | refine ysi (oInt 1 (by decide)) ?_ | refine wml (hd) ?_ | refine ysi (hd) ?_)<;>refine hgS ?_)
     all_goals first
     | exact thEq rfl
     | exact RLe.ofEq rfl
     | (exfalso;omega)
     | exact thEq (by simp [*,truA,timA])
     | exact RLe.ofEq (by simp [*,truA,timA])
   . have e1:divE (some ((1:Int):Rat)) (some m)=0:=by show (bif decide (m=0) then (15:Int) else 0)=0;rw [decide_eq_false hm];rfl
     have e2:divO (some ((1:Int):Rat)) (some m)=some (((1:Int):Rat) / m):=by show (bif decide (m=0) then none else some (((1:Int):Rat) / m))=_;rw [decide_eq_false hm];rfl
     have hs:=x6h ((1:Int):Rat) m;have h1':qs ((1:Int):Rat)<=4:=hz;have t3:=xoj (Γ:=Γ) k (((1:Int):Rat) / m) cs l1 (by omega) (fun q hq=>by have:=h3 q hq;omega) (by omega);rw [e1,e2] at hd hR2;refine CallsD.run [] Go.Proofs.Tryz.func63 rfl rfl rfl ?_;simp only [Go.Proofs.Tryz.f63];refine hgR ?_
     repeat' ((first | refine hfk ?_ ?_<;>intros | refine hik ?_ | with_reducible first | refine wml (ca) ?_ | refine ysi (ca) ?_ | refine wml (cb) ?_ | refine ysi (cb) ?_ | refine wml (oInt 1 (by decide)) ?_ | refine ysi (oInt 1 (by decide)) ?_ | refine wml (hd) ?_ | refine ysi (hd) ?_ | refine wml (t3) ?_ | refine ysi (t3) ?_)<;>refine hgS ?_)
     all_goals first
     | exact thEq rfl
     | exact RLe.ofEq rfl
     | (exfalso;omega)
     | exact thEq (by simp [*,truA,timA])
     | exact RLe.ofEq (by simp [*,truA,timA])
end Go.Hp.T
namespace Go.Hp.T
open Go Go.RowKit Go.Slot Go.Hp Go.Slot.T
open Go.Proofs.Tryz (prog)
set_option maxRecDepth 10000
set_option maxHeartbeats 4000000
variable {Γ:List (Nat×List Cell)}
theorem yp7 {α:Type} {C:α->SV} (h:∀ r a,v3y r (C a)=C a) (r:Nat->Nat) (l:List (ByteArray×α)):rnSB r (.map (envM C l))=.map (envM C l):=by
 have:(envM C l).map (fun p=>(p.1,v3y r p.2))=envM C l:=by
  induction l with
  | nil=>rfl
  | cons p l ih=>
   show (Value.string p.1,v3y r (C p.2))::(envM C l).map _=_;rw [ih,h];rfl
 show SB.map _=_;rw [this]
theorem xgc {α:Type} {C:α->SV} (h:∀ i j a,xy0 i j (C a)=C a) (i j:Nat) (l:List (ByteArray×α)):swSB i j (.map (envM C l))=.map (envM C l):=by
 have:(envM C l).map (fun p=>(p.1,xy0 i j p.2))=envM C l:=by
  induction l with
  | nil=>rfl
  | cons p l ih=>
   show (Value.string p.1,xy0 i j (C p.2))::(envM C l).map _=_;rw [ih,h];rfl
 show SB.map _=_;rw [this]
theorem xuj {α:Type} {C:α->SV} (h:∀ a,wj3 (C a)=[]) (l:List (ByteArray×α)):vb5 (.map (envM C l))=[]:=by
 show (envM C l).flatMap (fun p=>wj3 p.2)=[]
 induction l with
 | nil=>rfl
 | cons p l ih=>show wj3 (C p.2)++(envM C l).flatMap _=[];rw [ih,h];rfl
theorem zgw {r:Nat->Nat} {l:Vt}:rnSB r (.map (envB l))=.map (envB l):=yp7 (fun _ _=>rfl) r l
theorem vcy (i j:Nat) (l:Vt):swSB i j (.map (envB l))=.map (envB l):=xgc (fun _ _ _=>rfl) i j l
theorem wor (l:Vt):vb5 (.map (envB l))=[]:=xuj (fun _=>rfl) l
attribute [go_sem] wor
attribute [go_sem 20000] zgw vcy
abbrev mB (l:Vt):SB:=.map (envB l)
end Go.Hp.T
namespace Go.Hp.T
open Go Go.RowKit Go.Slot Go.Hp Go.Slot.T
open Go.Proofs.Tryz (prog)
set_option maxRecDepth 10000
set_option maxHeartbeats 800000
attribute [local irreducible] hide RH
variable {Γ:List (Nat×List Cell)}
abbrev cU (n:Int):Cell:=.raw (.int .u64 n)
theorem xer {n:Int} (h:0<=n/\n<=4294967295):iand .u64 n 4294967295=n:=by
 unfold iand;obtain ⟨m,rfl⟩:=Int.eq_ofNat_of_zero_le h.1
 have hm:m<=4294967295:=by omega
 have:(BitVec.ofInt IntKind.u64.bits (m:Int) &&&BitVec.ofInt IntKind.u64.bits 4294967295).toNat=m:=by
  show (BitVec.ofInt 64 (m:Int) &&&BitVec.ofInt 64 4294967295).toNat=m;rw [BitVec.toNat_and,BitVec.ofInt_natCast,BitVec.toNat_ofNat,show (BitVec.ofInt 64 4294967295).toNat=2 ^ 32-1 from rfl,Nat.and_two_pow_sub_one_eq_mod];omega
 rw [this];exact wu64 (by omega)
theorem v1z {n:Int} (h:0<=n/\n<=4294967295):ishr .u64 n 32=0:=by
 show n.fdiv (2 ^ 32)=0;rw [Int.fdiv_eq_ediv_of_nonneg _ (by decide)];omega
attribute [go_sem] xer v1z
theorem vvz (n:Int) (h:0<=n/\n<=4294967295):CallsD Γ prog 188 [.one (cU 1),.one (cU n)] (.tup [.one (cU 0),.one (cU n)]):=by
 refine CallsD.run [] Go.Proofs.Tryz.func188 rfl rfl rfl ?_;simp only [Go.Proofs.Tryz.f188];refine hgR ?_;exact RLe.ofEq (by rw [Int.one_mul])
theorem wvs (n:Int) (h:0<=n/\n<=4294967295):CallsD Γ prog 175 [.one (cU 1),.one (cU n)] (.tup [.one (cU 0),.one (cU n)]):=by
 have c:=vvz (Γ:=Γ) n h;refine CallsD.run [] Go.Proofs.Tryz.func175 rfl rfl rfl ?_;simp only [Go.Proofs.Tryz.f175];refine hgR ?_
 repeat' ((first | refine hfk ?_ ?_<;>intros | refine hik ?_ | with_reducible first | refine wml (c) ?_ | refine ysi (c) ?_)<;>refine hgS ?_)
 exact RLe.ofEq rfl
theorem zt0 (x z:List Cell) (n:Nat):z5s [.arr (.sl 4 (List.replicate (n+1) z)) 0 none] 4 (.one (.sl 0 4 0 (n+1))) (.one (.dat (.sl 4 [x])))=some (0,.arr (.sl 4 (List.replicate 1 x++List.replicate n z)) 0 none,1,[0]):=by
 have e1:min (n+1) 1=1:=by omega
 simp only [z5s,gB,v8r,vbz,List.getElem?_cons_zero,Option.map_some,Nat.zero_mul,Nat.zero_add,if_true,List.length_singleton,e1];simp
theorem v6h (x z:List Cell) (k m:Nat) (t:List SB):z5s (.arr (.sl 4 (List.replicate k x++List.replicate m z)) 0 none::t) 4 (.one (.sl 0 4 k m)) (.one (.sl 0 4 0 k))=some (0,.arr (.sl 4 (List.replicate (k+min m k) x++List.replicate (m-min m k) z)) 0 none,min m k,[0,0]):=by
 have hl:(List.replicate k x++List.replicate m z).length=k+m:=by simp
 simp only [z5s,gB,v8r,List.getElem?_cons_zero,Option.getD_some,hl,Nat.zero_add,Nat.le_add_right,Nat.zero_le,and_self,if_true,List.drop_zero,Nat.le_refl,List.length_take]
 have e1:min k (k+m)=k:=by omega
 have e2:(List.replicate k x++List.replicate m z).take k=List.replicate k x:=by rw [List.take_append_of_le_length (by simp)];simp
 have e3:(List.replicate k x++List.replicate m z).drop (k+min m k)=List.replicate (m-min m k) z:=by
  rw [List.drop_append];simp
 simp only [e1,e2,e3]
 have e4:min (min m k) k=min m k:=by omega
 rw [List.take_replicate,<-List.append_assoc,List.replicate_append_replicate,e4]
theorem zry (x z:List Cell):z5s [.arr (.sl 4 (List.replicate 0 z)) 0 none] 4 (.one (.sl 0 4 0 0)) (.one (.dat (.sl 4 [x])))=some (0,.arr (.sl 4 []) 0 none,0,[0]):=rfl
attribute [go_sem] zt0 v6h zry
theorem wku:rowQ 0=[cI 0,.ints .i64 [],cI 1,.ints .i64 [1]]:=by
 show [Cell.raw (.int .i64 (Fc.of 0).s),.ints .i64 (dig (0:Int).natAbs),.raw (.int .i64 (Fc.of 0).t),.ints .i64 (dig 1)]=_;rw [show (0:Int).natAbs=0 from rfl,y89,xxw (by decide),y89];rfl
theorem vl7 (n:Nat) (hn:n<=6):CallsD Γ prog 142 [.one (.sl 4 [rowQ 0]),.one (cI n)] (.one (.sl 4 (List.replicate n (rowQ 0)))):=by
 rw [wku]
 rcases n with _ | n
 . have c:=wvs (Γ:=Γ) 0 (by decide);refine CallsD.run [] Go.Proofs.Tryz.func142 rfl rfl rfl ?_;simp only [Go.Proofs.Tryz.f142];refine hgR ?_
   repeat' ((first | refine hfk ?_ ?_<;>intros | refine hik ?_ | with_reducible first | refine wml (c) ?_ | refine ysi (c) ?_)<;>refine hgS ?_)
   all_goals first
    | (exfalso;omega)
    | exact RLe.ofEq rfl
    | skip
   refine x20 [0,1,7] (fun _:Unit=>[(8,.one (.dat (cI 0)))]) (fun _=>[.arr (.sl 4 []) 0 none]) (fun _=>True) (fun _=>0) () trivial ?_ ?_
   . refine hg ?_;exact StH.same svl rfl
   intro _ _;refine hg ?_
   repeat' ((first | refine hfk ?_ ?_<;>intros | refine hik ?_)<;>refine hgS ?_)
   all_goals exact RLe.ofEq rfl
 . have c:=wvs (Γ:=Γ) ((n+1:Nat):Int) (by omega);refine CallsD.run [] Go.Proofs.Tryz.func142 rfl rfl rfl ?_;simp only [Go.Proofs.Tryz.f142];refine hgR ?_
   repeat' ((first | refine hfk ?_ ?_<;>intros | refine hik ?_ | with_reducible first | refine wml (c) ?_ | refine ysi (c) ?_)<;>refine hgS ?_)
   all_goals try (exfalso;omega)
   refine x20 [0,1,7] (fun k:Nat=>[(8,.one (.dat (cI k)))]) (fun k=>[.arr (.sl 4 (List.replicate k [cI 0,.ints .i64 [],cI 1,.ints .i64 [1]]++List.replicate (n+1-k) [cI 0,.zc,cI 0,.zc])) 0 none]) (fun k=>1<=k/\k<=n+1) (fun k=>n+1-k) 1 ⟨Nat.le_refl _,by omega⟩ ?_ ?_
   . refine hg ?_;exact StH.same svl rfl
   rintro k ⟨h1,h2⟩;refine hg ?_;refine vt2 (fun h _=>?_) (fun h _=>?_)
   . conv=>simp (maxSteps:=2000000) (disch:=omega) only [go_sem,Nat.reduceAdd,Nat.reduceSub,Nat.reduceMul,Int.reduceToNat,Nat.reduceEqDiff,Nat.reduceBEq,Nat.reduceBneDiff,Nat.reduceLT,Int.reduceEq,Int.reduceLT,Int.reduceLE,Int.reduceNeg,Int.reduceAdd,Int.reduceSub,Int.reduceMul,Nat.sub_zero]
     repeat' ((first | refine hfk ?_ ?_<;>intros | refine hik ?_)<;>refine hgS ?_)
     refine ⟨k+min (n+1-k) k,⟨by omega,by omega⟩,by omega,?_⟩;rw [show n+1-(k+min (n+1-k) k)=n+1-k-min (n+1-k) k by omega];exact StH.same svl rfl
   . have e:k=n+1:=by omega
     rw [e,Nat.sub_self]
     have hz:(List.replicate (n+1) [cI 0,Cell.ints .i64 [],cI 1,.ints .i64 [1]]++List.replicate 0 [cI 0,.zc,cI 0,.zc]).length=n+1:=by simp
     refine hg1 @hz ?_;exact RLe.ofEq (by simp [List.replicate_succ])
end Go.Hp.T
