/- The proof, part B25: Kc, Kd, Ya, Yb. -/
import Derived.Test.YtglblfkobflpmaaGreatB24
import Derived.Test.YtglblfkobflpmaaGreatB22
namespace Go.Hp.T
open Go Go.RowKit Go.Slot Go.Hp Go.Slot.T
open Go.Proofs.Tryz (prog)
attribute [local irreducible] hide RH
set_option maxRecDepth 10000
set_option maxHeartbeats 8000000
variable {Γ:List (Nat×List Cell)}
def small (f:Af) (l:List Sc):Prop:=f.l.length<=16/\l.length<=16/\f.le 4096/\∀ s∈l,s.sz<=4096
def zfp (f:Af) (l:List Sc):Prop:=f.l.length<=16/\l.length<=16/\f.le 1000000/\∀ s∈l,s.sz<=1000000
theorem xxi {l:List Sc} {n:Nat} (h:∀ f∈l,f.sz<=n) {i:Nat} (hi:i<l.length):(l.getD i Sc.zero).sz<=n:=h _ (by simp [hi])
theorem y0d {f:Af} {m n:Nat} (h:f.le m) (hmn:m<=n):f.le n:=⟨Nat.le_trans h.1 hmn,fun g hgg=>Nat.le_trans (h.2 g hgg) hmn⟩
theorem small.big {f:Af} {l:List Sc} (h:small f l):zfp f l:=⟨h.1,h.2.1,y0d h.2.2.1 (by decide),fun s hs=>Nat.le_trans (h.2.2.2 s hs) (by decide)⟩
theorem xch (s:Sc) (h:s.sz<=67108864):CallsD Γ prog 69 [.agg s.C] (.one (.raw (.bool (!decide s.ok)))):=by
 refine CallsD.run [] Go.Proofs.Tryz.func69 rfl rfl rfl ?_;simp only [Go.Proofs.Tryz.f69];refine hgR ?_
 first | refine wml (wcl s h) ?_ | refine ysi (wcl s h) ?_
 refine hg ?_;exact (.one (.refl _))
theorem vij (f:Af) (l:List Sc) (hs:zfp f l):CallsD Γ prog 32 [.agg f.C,.one (.sl 8 (l.map Sc.C))] (.one (.raw (.bool (decide (Bk.ok f l))))):=by
 obtain ⟨h1,h2,h3,h4⟩:=hs;have hr:=v1n (Γ:=Γ) f l.length (by omega) (y0d h3 (by omega));have hw:=zd4 (Γ:=Γ) 69 (fun s=>!decide s.ok) l (by omega) (fun i hi=>xch _ (by have:=xxi h4 hi;omega));rw [w5r] at hw;by_cases h5:f.ok l.length
 . rw [decide_eq_true h5] at hr;rw [show decide (Bk.ok f l)=decide (okS l) from decide_eq_decide.2 ⟨fun h=>h.2,fun h=>⟨h5,h⟩⟩];refine CallsD.run [] Go.Proofs.Tryz.func32 rfl rfl rfl ?_;simp only [Go.Proofs.Tryz.f32];refine hgR ?_
   first | refine wml hr ?_ | refine ysi hr ?_
   refine hg ?_
   first | refine wml hw ?_ | refine ysi hw ?_
   refine hg ?_;exact RLe.ofEq (by simp)
 . rw [decide_eq_false h5] at hr;rw [decide_eq_false (fun h=>h5 h.1)];refine CallsD.run [] Go.Proofs.Tryz.func32 rfl rfl rfl ?_;simp only [Go.Proofs.Tryz.f32];refine hgR ?_
   first | refine wml hr ?_ | refine ysi hr ?_
   refine hg ?_;exact (.one (.refl _))
theorem y6h (f:Fc) (h:f.sz<=67108864):CallsD Γ prog 71 [.agg f.C] (.agg (Af.copy f).C):=by
 have hz:=yp0;have hA:=wza (Γ:=Γ) f (Fc.of 0) h (by omega);refine CallsD.run [] Go.Proofs.Tryz.func71 rfl rfl rfl ?_;simp only [Go.Proofs.Tryz.f71];refine hgR ?_
 first | refine wml (wma 0 (by decide)) ?_ | refine ysi (wma 0 (by decide)) ?_
 refine hg ?_
 first | refine wml hA ?_ | refine ysi hA ?_
 refine hg ?_;refine hik ?_;refine hg ?_;exact (.one (.refl _))
theorem z0i (f:Af) (l:List Sc) (hs:zfp f l) (hlen:f.l.length=l.length) :
 CallsD Γ prog 33 [.agg f.C,.one (.sl 8 (l.map Sc.C))] (.tup [.one (.sl 4 ((Bk.lows f l).map Fc.C)),.one (.sl 4 ((Bk.vwi f l).map Fc.C))]):=by
 obtain ⟨h1,h2,h3,h4⟩:=hs;refine CallsD.run [(4,[.room 2]),(7,[.room 2])] Go.Proofs.Tryz.func33 rfl rfl rfl ?_;simp only [Go.Proofs.Tryz.f33];refine hgR ?_;refine x20 [2,10,11] (fun i:Nat=>[(4,.one (.sl 1 4 0 i)),(5,.one (.sl 2 4 0 i)),(12,.one (.dat (cI (i))))]) (fun i=>[.box [.dat (.raw (.int .i64 f.c.s)),.dat (.ints .i64 f.c.L),.dat (.raw (.int .i64 f.c.t)),.dat (.ints .i64 f.c.M),.dat (.sl 4 (f.l.map Fc.C))] (some 37),.arr (.sl 4 ((List.zipWith Bk.lo (f.l.take i) (l.take i)).map Fc.C)) 0 (some 34),.arr (.sl 4 ((List.zipWith Bk.hi (f.l.take i) (l.take i)).map Fc.C)) 0 (some 34)])
  (fun i=>i<=l.length) (fun i=>l.length-i) 0 (Nat.zero_le _) ?_ ?_
 . refine hg ?_;refine StH.trans (StH.empty (d:=4) (es:=4) (c:=.sl 4 []) (T:=some 34) rfl rfl (fun r hr=>by cases hr) rfl) ?_;refine hg ?_;refine StH.trans (StH.empty (d:=5) (es:=4) (c:=.sl 4 []) (T:=some 34) rfl rfl (fun r hr=>by cases hr) rfl) ?_;refine hg ?_;exact StH.same svl rfl
 rintro i hi
 have hz1:(List.zipWith Bk.lo (f.l.take i) (l.take i)).length=i:=by simp;omega
 have hz2:(List.zipWith Bk.hi (f.l.take i) (l.take i)).length=i:=by simp;omega
 refine hg ?_;refine vt2 (fun h _=>?_) (fun h _=>?_)
 . have hi1:i<f.l.length:=by omega
   have hi2:i<l.length:=by omega
   have hss:=Sc.v0h (xxi h4 hi2);have hcs:=zmm h3.2 hi1;have e1:=v2g (op:=Bk.lo) Fc.zero Sc.zero hi1 hi2;have e2:=v2g (op:=Bk.hi) Fc.zero Sc.zero hi1 hi2;refine hg ?_
   first | refine wml (y6h (l.getD i Sc.zero).low (by omega)) ?_ | refine ysi (y6h (l.getD i Sc.zero).low (by omega)) ?_
   refine hg ?_
   first | refine wml (y6h (l.getD i Sc.zero).high (by omega)) ?_ | refine ysi (y6h (l.getD i Sc.zero).high (by omega)) ?_
   refine hg ?_;refine hik ?_;refine hg ?_
   first | refine wml (xhi (f.l.getD i Fc.zero) (by omega)) ?_ | refine ysi (xhi (f.l.getD i Fc.zero) (by omega)) ?_
   refine hg ?_;refine vt2 (fun h5 _=>?_) (fun h5 _=>?_)
   . rw [show Bk.lo (f.l.getD i Fc.zero) (l.getD i Sc.zero)=Af.copy (l.getD i Sc.zero).high from if_pos h5] at e1;rw [show Bk.hi (f.l.getD i Fc.zero) (l.getD i Sc.zero)=Af.copy (l.getD i Sc.zero).low from if_pos h5] at e2;refine hg2 @hz1 @hz2 ?_;refine hik ?_;refine hg ?_;refine ⟨i+1,by omega,by omega,?_⟩;rw [<-e1,<-e2];refine StH.back [2,4,5,10,11,12] 1 6 8 rfl rfl rfl rfl rfl (by kernel_rfl) ?_;refine hg ?_;refine StH.back [2,4,5,10,11,12] 2 7 3 rfl rfl rfl rfl rfl (by kernel_rfl) ?_
     conv=>simp (maxSteps:=2000000) (disch:=omega) only [go_sem,Nat.reduceAdd,Nat.reduceSub,Nat.reduceMul,Int.reduceToNat,Nat.reduceEqDiff,Nat.reduceBEq,Nat.reduceBneDiff,Nat.reduceLT,Int.reduceEq,Int.reduceLT,Int.reduceLE,Int.reduceNeg,Int.reduceAdd,Int.reduceSub,Int.reduceMul,List.length_append,List.length_singleton,hz1,hz2]
     exact StH.same svl rfl
   . rw [show Bk.lo (f.l.getD i Fc.zero) (l.getD i Sc.zero)=Af.copy (l.getD i Sc.zero).low from if_neg h5] at e1;rw [show Bk.hi (f.l.getD i Fc.zero) (l.getD i Sc.zero)=Af.copy (l.getD i Sc.zero).high from if_neg h5] at e2;refine hg2 @hz1 @hz2 ?_;refine hik ?_;refine hg ?_;refine ⟨i+1,by omega,by omega,?_⟩;rw [<-e1,<-e2];refine StH.back [2,4,5,10,11,12] 1 6 8 rfl rfl rfl rfl rfl (by kernel_rfl) ?_;refine hg ?_;refine StH.back [2,4,5,10,11,12] 2 7 3 rfl rfl rfl rfl rfl (by kernel_rfl) ?_
     conv=>simp (maxSteps:=2000000) (disch:=omega) only [go_sem,Nat.reduceAdd,Nat.reduceSub,Nat.reduceMul,Int.reduceToNat,Nat.reduceEqDiff,Nat.reduceBEq,Nat.reduceBneDiff,Nat.reduceLT,Int.reduceEq,Int.reduceLT,Int.reduceLE,Int.reduceNeg,Int.reduceAdd,Int.reduceSub,Int.reduceMul,List.length_append,List.length_singleton,hz1,hz2]
     exact StH.same svl rfl
 . have hi':i=l.length:=by omega
   rw [hi',List.take_length,<-hlen,List.take_length]
   have hy1:(List.zipWith Bk.lo f.l l).length=f.l.length:=by simp;omega
   have hy2:(List.zipWith Bk.hi f.l l).length=f.l.length:=by simp;omega
   refine hg2 @hy1 @hy2 ?_;exact (.tup (.cons (.refl _) (.cons (.refl _) .nil)))
theorem wvj {P:Fc->Prop} {op:Fc->Sc->Fc}:∀(l:List Fc) (m:List Sc),(∀ c s,s∈m->P (op c s))->∀ f∈List.zipWith op l m,P f
 | [],_,_,f,hf=>by simp at hf
 | _::_,[],_,f,hf=>by simp at hf
 | c::l,s::m,h,f,hf=>by
  simp only [List.zipWith_cons_cons] at hf
  rcases List.mem_cons.1 hf with rfl | hf
  . exact h c s (by simp)
  . exact wvj l m (fun c s hs=>h c s (by simp [hs])) f hf
theorem zsj {c:Fc} {s:Sc} {n:Nat} (h:s.sz<=n):(Bk.lo c s).sz<=n+2:=by
 have:=Sc.v0h h
 have:=w9x s.low
 have:=w9x s.high
 unfold Bk.lo;split<;>omega
theorem zg0 {c:Fc} {s:Sc} {n:Nat} (h:s.sz<=n):(Bk.hi c s).sz<=n+2:=by
 have:=Sc.v0h h
 have:=w9x s.low
 have:=w9x s.high
 unfold Bk.hi;split<;>omega
theorem v4i {f:Af} {l:List Sc} {n:Nat} (h:∀ s∈l,s.sz<=n):∀ g∈Bk.lows f l,g.sz<=n+2:=wvj _ _ (fun _ _ hs=>zsj (h _ hs))
theorem z5j {f:Af} {l:List Sc} {n:Nat} (h:∀ s∈l,s.sz<=n):∀ g∈Bk.vwi f l,g.sz<=n+2:=wvj _ _ (fun _ _ hs=>zg0 (h _ hs))
theorem y6t (l:List Fc) (h:l.length<=16):1000002+2+l.length*(2*1000002+1)<=67108864:=by
 have:=Nat.mul_le_mul_right (2*1000002+1) h
 omega
theorem yod (f:Af) (l:List Sc) (hs:zfp f l):CallsD Γ prog 11 [.agg f.C,.one (.sl 8 (l.map Sc.C))] (.tup [.agg (Bk.bounds f l).C,.one (.raw (.int .i64 (Fc.er (Bk.ok f l))))]):=by
 have hr:=vij (Γ:=Γ) f l hs;by_cases h:Bk.ok f l
 . rw [decide_eq_true h] at hr;have hc:=z0i (Γ:=Γ) f l hs h.1.1;obtain ⟨h1,h2,h3,h4⟩:=hs;have hA:=cAt (Γ:=Γ) (B:=1000002) f (Bk.lows f l) (by omega) (by unfold Bk.lows;simp;omega) (y0d h3 (by omega)) (fun g hgg=>by have:=v4i h4 g hgg;omega) (y6t (Bk.lows f l) (by unfold Bk.lows;simp;omega));have hB:=cAt (Γ:=Γ) (B:=1000002) f (Bk.vwi f l) (by omega) (by unfold Bk.vwi;simp;omega) (y0d h3 (by omega)) (fun g hgg=>by have:=z5j h4 g hgg;omega) (y6t (Bk.vwi f l) (by unfold Bk.vwi;simp;omega));rw [Fc.wop h,show Bk.bounds f l=⟨f.at' (Bk.lows f l),f.at' (Bk.vwi f l)⟩ from if_pos h];refine CallsD.run [] Go.Proofs.Tryz.func11 rfl rfl rfl ?_;simp only [Go.Proofs.Tryz.f11];refine hgR ?_
   first | refine wml hr ?_ | refine ysi hr ?_
   refine hg ?_
   first | refine wml hc ?_ | refine ysi hc ?_
   refine hg ?_
   first | refine wml hA ?_ | refine ysi hA ?_
   refine hg ?_
   first | refine wml hB ?_ | refine ysi hB ?_
   refine hg ?_;exact (.tup (.cons (.refl _) (.cons (.refl _) .nil)))
 . rw [decide_eq_false h] at hr;rw [Fc.w7p h,show Bk.bounds f l=Sc.zero from if_neg h];refine CallsD.run [] Go.Proofs.Tryz.func11 rfl rfl rfl ?_;simp only [Go.Proofs.Tryz.f11];refine hgR ?_
   first | refine wml hr ?_ | refine ysi hr ?_
   refine hg ?_;exact (.tup (.cons zyb (.cons (.refl _) .nil)))
theorem xeh (f:Af) (l:List Sc) (hs:small f l):CallsD Γ prog 16 [.agg f.C,.one (.sl 8 (l.map Sc.C))]
 (.tup [.one (.sl 4 ((if Bk.ok f l then Bk.lows f l else []).map Fc.C)),.agg (if Bk.ok f l then f.at' (Bk.lows f l) else Fc.zero).C,.one (.raw (.int .i64 (Fc.er (Bk.ok f l))))]):=by
 have hr:=vij (Γ:=Γ) f l hs.big;by_cases h:Bk.ok f l
 . rw [decide_eq_true h] at hr;have hc:=z0i (Γ:=Γ) f l hs.big h.1.1;obtain ⟨h1,h2,h3,h4⟩:=hs;have hA:=cAt (Γ:=Γ) (B:=1000002) f (Bk.lows f l) (by omega) (by unfold Bk.lows;simp;omega) (y0d h3 (by omega)) (fun g hgg=>by have:=v4i h4 g hgg;omega) (y6t (Bk.lows f l) (by unfold Bk.lows;simp;omega));rw [Fc.wop h,if_pos h,if_pos h];refine CallsD.run [] Go.Proofs.Tryz.func16 rfl rfl rfl ?_;simp only [Go.Proofs.Tryz.f16];refine hgR ?_
   first | refine wml hr ?_ | refine ysi hr ?_
   refine hg ?_
   first | refine wml hc ?_ | refine ysi hc ?_
   refine hg ?_
   first | refine wml hA ?_ | refine ysi hA ?_
   refine hg ?_;refine hik ?_;refine hg ?_;exact (.tup (.cons (.refl _) (.cons (.refl _) (.cons (.refl _) .nil))))
 . rw [decide_eq_false h] at hr;rw [Fc.w7p h,if_neg h,if_neg h];refine CallsD.run [] Go.Proofs.Tryz.func16 rfl rfl rfl ?_;simp only [Go.Proofs.Tryz.f16];refine hgR ?_
   first | refine wml hr ?_ | refine ysi hr ?_
   refine hg ?_;exact (.tup (.cons (.one (.nilSl _)) (.cons vtk (.cons (.refl _) .nil))))
theorem zaf {s:Sc} {n:Nat} (h:s.sz<=n):(Sc.width s).sz<=2*n+1:=by
 have ⟨h1,h2⟩:=Sc.v0h h
 have:=Fc.z9a s.high s.low
 unfold Sc.width
 split
 . omega
 . rw [Fc.wre];omega
theorem yjq {c:Fc} {s:Sc} {n:Nat} (hc:c.sz<=n) (h:s.sz<=n):(Bk.v41 c s).sz<=6*n+2:=by
 have:=zaf h
 have:=Fc.z5x c (Sc.width s)
 have:=Fc.zrt (Fc.mul c (Sc.width s))
 have:=Fc.yx6 (Fc.mul c (Sc.width s)) (Fc.neg (Fc.mul c (Sc.width s)))
 unfold Bk.v41;omega
theorem x10 {i:Nat} {st:Int×Fc} {c:Fc} {cs:List Fc} {s:Sc} {ss:List Sc}:Bk.nar i st (c::cs) (s::ss)=Bk.nar (i+1) (if Fc.cmp (Bk.v41 c s) st.2 > 0 then ((i:Int),Bk.v41 c s) else st) cs ss:=rfl
theorem xak (f:Af) (l:List Sc) (hs:small f l):CallsD Γ prog 15 [.agg f.C,.one (.sl 8 (l.map Sc.C))]
 (.tup [.one (.raw (.int .i64 (Bk.narrow f l).1)),.agg (Bk.narrow f l).2.1.C,.one (.raw (.int .i64 (Bk.narrow f l).2.2))]):=by
 have hr:=vij (Γ:=Γ) f l hs.big;by_cases h:Bk.ok f l
 . rw [decide_eq_true h] at hr;obtain ⟨h1,h2,h3,h4⟩:=hs;have hlen:=h.1.1;by_cases h0:l.length=0
   . rw [show Bk.narrow f l=(0,Fc.zero,4) by unfold Bk.narrow;rw [if_pos h,if_pos h0]];refine CallsD.run [] Go.Proofs.Tryz.func15 rfl rfl rfl ?_;simp only [Go.Proofs.Tryz.f15];refine hgR ?_
     first | refine wml hr ?_ | refine ysi hr ?_
     refine hg ?_;refine vt2 (fun _ _=>?_) (fun h _=>absurd (by omega) h);refine hg ?_;exact (.tup (.cons (.refl _) (.cons vtk (.cons (.refl _) .nil))))
   . rw [show Bk.narrow f l=((Bk.nar 0 (0,Fc.of 0) f.l l).1,(Bk.nar 0 (0,Fc.of 0) f.l l).2,0) by unfold Bk.narrow;rw [if_pos h,if_neg h0]];have hz:=yp0;refine CallsD.run [] Go.Proofs.Tryz.func15 rfl rfl rfl ?_;simp only [Go.Proofs.Tryz.f15];refine hgR ?_
     first | refine wml hr ?_ | refine ysi hr ?_
     refine hg ?_;refine vt2 (fun h _=>absurd h (by omega)) (fun _ _=>?_);refine hg ?_
     first | refine wml (wma 0 (by decide)) ?_ | refine ysi (wma 0 (by decide)) ?_
     refine hg ?_;refine x20 [2,4,5,6,8,25,26] (fun x:Nat×Int×Fc=>[(7,.one (.dat (cI (x.2.1)))),(27,.one (.dat (cI (x.1))))]) (fun x=>[.box [.dat (.raw (.int .i64 f.c.s)),.dat (.ints .i64 f.c.L),.dat (.raw (.int .i64 f.c.t)),.dat (.ints .i64 f.c.M),.dat (.sl 4 (f.l.map Fc.C))] (some 37),.box [.dat (cI 0),.dat .zc,.dat (cI 0),.dat .zc] (some 34),.box [.dat (.raw (.int .i64 x.2.2.s)),.dat (.ints .i64 x.2.2.L),.dat (.raw (.int .i64 x.2.2.t)),.dat (.ints .i64 x.2.2.M)] (some 34)])
      (fun x=>x.1<=l.length/\x.2.2.sz<=32768/\Bk.nar 0 (0,Fc.of 0) f.l l=Bk.nar x.1 x.2 (f.l.drop x.1) (l.drop x.1)) (fun x=>l.length-x.1) (0,0,Fc.of 0) ⟨Nat.zero_le _,by dsimp only;omega,rfl⟩ ?_ ?_
     . refine hg ?_;exact StH.same svl rfl
     rintro ⟨i,a,b⟩ ⟨hi,hb,he⟩;simp only at hi hb he;refine hg ?_;refine vt2 (fun h5 _=>?_) (fun h5 _=>?_)
     . have hi1:i<f.l.length:=by omega
       have hi2:i<l.length:=by omega
       have hcs:=zmm h3.2 hi1;have hss:=xxi h4 hi2;have hw:=zaf hss;have hm:=Fc.z5x (f.l.getD i Fc.zero) (Sc.width (l.getD i Sc.zero));have hn:=Fc.zrt (Fc.mul (f.l.getD i Fc.zero) (Sc.width (l.getD i Sc.zero)));have hsw:=yjq hcs hss;have hcmp:=vwg (Γ:=Γ) (Bk.v41 (f.l.getD i Fc.zero) (l.getD i Sc.zero)) b (by omega) (by omega);have hmax:=z9y (Γ:=Γ) (Fc.mul (f.l.getD i Fc.zero) (Sc.width (l.getD i Sc.zero))) (Fc.neg (Fc.mul (f.l.getD i Fc.zero) (Sc.width (l.getD i Sc.zero)))) (by omega) (by omega);rw [show Fc.maxf (Fc.mul (f.l.getD i Fc.zero) (Sc.width (l.getD i Sc.zero))) (Fc.neg (Fc.mul (f.l.getD i Fc.zero) (Sc.width (l.getD i Sc.zero))))=Bk.v41 (f.l.getD i Fc.zero) (l.getD i Sc.zero) from rfl] at hmax;rw [drop_cons Fc.zero hi1,drop_cons Sc.zero hi2] at he;rw [x10] at he;dsimp only at he;refine hg ?_
       first | refine wml (zwv (l.getD i Sc.zero) (by omega)) ?_ | refine ysi (zwv (l.getD i Sc.zero) (by omega)) ?_
       refine hg ?_
       first | refine wml (zu5 (f.l.getD i Fc.zero) (Sc.width (l.getD i Sc.zero)) (by omega) (by omega)) ?_ | refine ysi (zu5 (f.l.getD i Fc.zero) (Sc.width (l.getD i Sc.zero)) (by omega) (by omega)) ?_
       refine hg ?_;refine hik ?_;refine hg ?_
       first | refine wml (vhh (Fc.mul (f.l.getD i Fc.zero) (Sc.width (l.getD i Sc.zero))) (by omega)) ?_ | refine ysi (vhh (Fc.mul (f.l.getD i Fc.zero) (Sc.width (l.getD i Sc.zero))) (by omega)) ?_
       refine hg ?_
       first | refine wml hmax ?_ | refine ysi hmax ?_
       refine hg ?_;refine hik ?_;refine hg ?_
       first | refine wml hcmp ?_ | refine ysi hcmp ?_
       refine hg ?_;refine vt2 (fun h6 _=>?_) (fun h6 _=>?_)
       . rw [if_pos h6] at he;refine hg ?_;refine hik ?_;refine hg ?_;exact ⟨(i+1,i,Bk.v41 (f.l.getD i Fc.zero) (l.getD i Sc.zero)),⟨by dsimp only;omega,by dsimp only;omega,he⟩,by dsimp only;omega,StH.back [2,4,5,6,7,8,25,26,27] 0 0 3 rfl rfl rfl rfl rfl (by kernel_rfl) (StH.same svl rfl)⟩
       . rw [if_neg h6] at he;refine hg ?_;exact ⟨(i+1,a,b),⟨by dsimp only;omega,hb,he⟩,by dsimp only;omega,StH.back [2,4,5,6,7,8,25,26,27] 0 0 3 rfl rfl rfl rfl rfl (by kernel_rfl) (StH.same svl rfl)⟩
     . have hi':i=l.length:=by omega
       rw [hi',List.drop_length] at he
       have he:Bk.nar 0 (0,Fc.of 0) f.l l=(a,b):=by rw [he];cases List.drop l.length f.l<;>rfl
       rw [he];refine hg ?_;refine hik ?_;refine hg ?_;exact (.tup (.cons (.refl _) (.cons (.refl _) (.cons (.refl _) .nil))))
 . rw [decide_eq_false h] at hr;rw [show Bk.narrow f l=(0,Fc.zero,1) from if_neg h];refine CallsD.run [] Go.Proofs.Tryz.func15 rfl rfl rfl ?_;simp only [Go.Proofs.Tryz.f15];refine hgR ?_
   first | refine wml hr ?_ | refine ysi hr ?_
   refine hg ?_;exact (.tup (.cons (.refl _) (.cons vtk (.cons (.refl _) .nil))))
theorem x4o (m:Fc) (h:m.sz<=67108864):CallsD Γ prog 43 [.agg m.C] (.one (.raw (.bool (!decide (m.ok/\0<=Fc.sign m))))):=by
 by_cases h1:m.ok
 . rw [show (!decide (m.ok/\0<=Fc.sign m))=decide (Fc.sign m<0) by
    by_cases h2:Fc.sign m<0
    . rw [decide_eq_true h2,decide_eq_false (fun h=>by omega)];rfl
    . rw [decide_eq_false h2,decide_eq_true ⟨h1,by omega⟩];rfl]
   refine CallsD.run [] Go.Proofs.Tryz.func43 rfl rfl rfl ?_;simp only [Go.Proofs.Tryz.f43];refine hgR ?_
   first | refine wml (znq m (by omega) h1) ?_ | refine ysi (znq m (by omega) h1) ?_
   refine hg ?_
   first | refine wml (xhi m h) ?_ | refine ysi (xhi m h) ?_
   refine hg ?_;exact (.one (.refl _))
 . rw [decide_eq_false (fun h=>h1 h.1)];refine CallsD.run [] Go.Proofs.Tryz.func43 rfl rfl rfl ?_;simp only [Go.Proofs.Tryz.f43];refine hgR ?_
   first | refine wml (zd1 m (by omega) h1) ?_ | refine ysi (zd1 m (by omega) h1) ?_
   refine hg ?_;exact (.one (.refl _))
theorem v1i {s u d:Fc} {ms:List Fc} {c:Fc} {cs:List Fc} {p:Sc} {ps:List Sc}:Bk.flo s (u::d::ms) (c::cs) (p::ps)=if Fc.sub u d=c then Bk.flo (Fc.add s (Fc.sub (Fc.mul u p.low) (Fc.mul d p.high))) ms cs ps else none:=rfl
theorem zyc (f:Af) (l:List Sc) (v:Fc) (ms:List Fc) (hs:small f l) (hv:v.sz<=4096) (hm:∀ m∈ms,m.sz<=4096) (hml:ms.length<=1048576) :
 CallsD Γ prog 20 [.agg f.C,.one (.sl 8 (l.map Sc.C)),.agg v.C,.one (.sl 4 (ms.map Fc.C))] (.one (.raw (.bool (Bk.floor f l v ms)))):=by
 have hr:=vij (Γ:=Γ) f l hs.big;obtain ⟨h1,h2,h3,h4⟩:=hs;have hw:=xmx (Γ:=Γ) 43 (fun m=>!decide (m.ok/\0<=Fc.sign m)) ms (by omega) (fun i hi=>x4o _ (by have:=zmm hm hi;omega));rw [Bk.zsp] at hw;by_cases g1:Bk.ok f l
 . rw [decide_eq_true g1] at hr;by_cases g2:v.ok
   . by_cases g3:(ms.length:Int)=2*(l.length:Int)
     . have g3':¬((ms.length:Int)≠2*(l.length:Int)):=fun h=>h g3
       by_cases g4:Bk.okM ms
       . rw [decide_eq_true g4] at hw;have hlen:=g1.1.1;rw [show Bk.floor f l v ms=Bk.verdict v (Bk.flo f.c ms f.l l) from if_pos ⟨g1,g2,by omega,g4⟩];refine CallsD.run [(8,[.room 2])] Go.Proofs.Tryz.func20 rfl rfl rfl ?_;simp only [Go.Proofs.Tryz.f20];refine hgR ?_
         first | refine wml hr ?_ | refine ysi hr ?_
         refine hg ?_
         first | refine wml (znq v (by omega) g2) ?_ | refine ysi (znq v (by omega) g2) ?_
         refine hg1 @g3' ?_
         first | refine wml hw ?_ | refine ysi hw ?_
         refine hg ?_;refine x20 [1,3,4,6,8,10,45,46] (fun x:Nat×Fc=>[(47,.one (.dat (cI (x.1))))]) (fun x=>[.box [.dat (.raw (.int .i64 f.c.s)),.dat (.ints .i64 f.c.L),.dat (.raw (.int .i64 f.c.t)),.dat (.ints .i64 f.c.M),.dat (.sl 4 (f.l.map Fc.C))] (some 37),.box [.dat (.raw (.int .i64 v.s)),.dat (.ints .i64 v.L),.dat (.raw (.int .i64 v.t)),.dat (.ints .i64 v.M)] (some 34),.box [.dat (.raw (.int .i64 x.2.s)),.dat (.ints .i64 x.2.L),.dat (.raw (.int .i64 x.2.t)),.dat (.ints .i64 x.2.M)] (some 34)])
          (fun x=>x.1<=l.length/\x.2.sz<=4096+x.1*16386/\Bk.flo f.c ms f.l l=Bk.flo x.2 (ms.drop (2*x.1)) (f.l.drop x.1) (l.drop x.1)) (fun x=>l.length-x.1) (0,f.c) ⟨Nat.zero_le _,by have:=h3.1;dsimp only;omega,rfl⟩ ?_ ?_
         . refine hg ?_;exact StH.same svl rfl
         rintro ⟨i,s⟩ ⟨hi,hss,he⟩;simp only at hi hss he;refine hg ?_;refine vt2 (fun h _=>?_) (fun h _=>?_)
         . have hi1:i<f.l.length:=by omega
           have hi2:i<l.length:=by omega
           have hi3:2*i<ms.length:=by omega
           have hi4:2*i+1<ms.length:=by omega
           have b1:=zmm h3.2 hi1;have b2:=Sc.v0h (xxi h4 hi2);have b3:=zmm hm hi3;have b4:=zmm hm hi4
           have e3:(2*(i:Int)).toNat=2*i:=by omega
           have e4:(2*(i:Int)+1).toNat=2*i+1:=by omega
           rw [drop_cons Fc.zero hi3,drop_cons Fc.zero hi4,drop_cons Fc.zero hi1,drop_cons Sc.zero hi2,v1i] at he;have s1:=Fc.z9a (ms.getD (2*i) Fc.zero) (ms.getD (2*i+1) Fc.zero);have s2:=Fc.z5x (ms.getD (2*i) Fc.zero) (l.getD i Sc.zero).low;have s3:=Fc.z5x (ms.getD (2*i+1) Fc.zero) (l.getD i Sc.zero).high;have s4:=Fc.z9a (Fc.mul (ms.getD (2*i) Fc.zero) (l.getD i Sc.zero).low) (Fc.mul (ms.getD (2*i+1) Fc.zero) (l.getD i Sc.zero).high);have s5:=Fc.wiu s (Fc.sub (Fc.mul (ms.getD (2*i) Fc.zero) (l.getD i Sc.zero).low) (Fc.mul (ms.getD (2*i+1) Fc.zero) (l.getD i Sc.zero).high));have s6:i*16386<=1024*16386:=Nat.mul_le_mul_right _ (by omega);refine hg2 @e3 @e4 ?_;refine hik ?_;refine hg2 @e3 @e4 ?_
           first | refine wml (yjd (ms.getD (2*i) Fc.zero) (ms.getD (2*i+1) Fc.zero) (by omega) (by omega)) ?_ | refine ysi (yjd (ms.getD (2*i) Fc.zero) (ms.getD (2*i+1) Fc.zero) (by omega) (by omega)) ?_
           refine hg ?_
           first | refine wml (xb9 (Fc.sub (ms.getD (2*i) Fc.zero) (ms.getD (2*i+1) Fc.zero)) (f.l.getD i Fc.zero) (by omega) (by omega)) ?_ | refine ysi (xb9 (Fc.sub (ms.getD (2*i) Fc.zero) (ms.getD (2*i+1) Fc.zero)) (f.l.getD i Fc.zero) (by omega) (by omega)) ?_
           refine hg ?_;refine hik ?_;refine hg ?_;by_cases h6:Fc.sub (ms.getD (2*i) Fc.zero) (ms.getD (2*i+1) Fc.zero)=f.l.getD i Fc.zero
           . rw [if_pos h6] at he;refine zub (fun h=>?_) (fun _=>?_)
             . exact absurd h6 (of_decide_eq_true h)
             refine hg ?_
             first | refine wml (zu5 (ms.getD (2*i) Fc.zero) (l.getD i Sc.zero).low (by omega) (by omega)) ?_ | refine ysi (zu5 (ms.getD (2*i) Fc.zero) (l.getD i Sc.zero).low (by omega) (by omega)) ?_
             refine hg ?_
             first | refine wml (zu5 (ms.getD (2*i+1) Fc.zero) (l.getD i Sc.zero).high (by omega) (by omega)) ?_ | refine ysi (zu5 (ms.getD (2*i+1) Fc.zero) (l.getD i Sc.zero).high (by omega) (by omega)) ?_
             refine hg ?_
             first | refine wml (yjd (Fc.mul (ms.getD (2*i) Fc.zero) (l.getD i Sc.zero).low) (Fc.mul (ms.getD (2*i+1) Fc.zero) (l.getD i Sc.zero).high) (by omega) (by omega)) ?_ | refine ysi (yjd (Fc.mul (ms.getD (2*i) Fc.zero) (l.getD i Sc.zero).low) (Fc.mul (ms.getD (2*i+1) Fc.zero) (l.getD i Sc.zero).high) (by omega) (by omega)) ?_
             refine hg ?_
             first | refine wml (wza s (Fc.sub (Fc.mul (ms.getD (2*i) Fc.zero) (l.getD i Sc.zero).low) (Fc.mul (ms.getD (2*i+1) Fc.zero) (l.getD i Sc.zero).high)) (by omega) (by omega)) ?_ | refine ysi (wza s (Fc.sub (Fc.mul (ms.getD (2*i) Fc.zero) (l.getD i Sc.zero).low) (Fc.mul (ms.getD (2*i+1) Fc.zero) (l.getD i Sc.zero).high)) (by omega) (by omega)) ?_
             refine hg ?_;exact ⟨(i+1,Fc.add s (Fc.sub (Fc.mul (ms.getD (2*i) Fc.zero) (l.getD i Sc.zero).low) (Fc.mul (ms.getD (2*i+1) Fc.zero) (l.getD i Sc.zero).high))),⟨by dsimp only;omega,by dsimp only;omega,he⟩,by dsimp only;omega,StH.back [1,3,4,6,8,10,45,46,47] 0 0 3 rfl rfl rfl rfl rfl (by kernel_rfl) (StH.same svl rfl)⟩
           . rw [if_neg h6] at he;refine zub (fun _=>?_) (fun h=>?_)
             . refine hg ?_;exact (by rw [he];exact .one (.refl _))
             . exact absurd h6 (of_decide_eq_false h)
         . have hi':i=l.length:=by omega
           have hi6:i*16386<=1024*16386:=Nat.mul_le_mul_right _ (by omega);rw [hi',List.drop_length] at he
           have he:Bk.flo f.c ms f.l l=some s:=by
            rw [he,List.drop_eq_nil_of_le (by omega)];rfl
           rw [he];refine hg ?_
           first | refine wml (vwg s v (by omega) (by omega)) ?_ | refine ysi (vwg s v (by omega) (by omega)) ?_
           refine hg ?_;exact (.one (.refl _))
       . rw [decide_eq_false g4] at hw;rw [show Bk.floor f l v ms=false from if_neg (fun h=>g4 h.2.2.2)];refine CallsD.run [(8,[.room 2])] Go.Proofs.Tryz.func20 rfl rfl rfl ?_;simp only [Go.Proofs.Tryz.f20];refine hgR ?_
         first | refine wml hr ?_ | refine ysi hr ?_
         refine hg ?_
         first | refine wml (znq v (by omega) g2) ?_ | refine ysi (znq v (by omega) g2) ?_
         refine hg1 @g3' ?_
         first | refine wml hw ?_ | refine ysi hw ?_
         refine hg ?_;exact (.one (.refl _))
     . have g3d:=decide_eq_true (show (ms.length:Int)≠2*(l.length:Int) from g3);rw [show Bk.floor f l v ms=false from if_neg (fun h=>g3 (by have:=h.2.2.1;omega))];refine CallsD.run [(8,[.room 2])] Go.Proofs.Tryz.func20 rfl rfl rfl ?_;simp only [Go.Proofs.Tryz.f20];refine hgR ?_
       first | refine wml hr ?_ | refine ysi hr ?_
       refine hg ?_
       first | refine wml (znq v (by omega) g2) ?_ | refine ysi (znq v (by omega) g2) ?_
       refine hg1 @g3d ?_;exact (.one (.refl _))
   . rw [show Bk.floor f l v ms=false from if_neg (fun h=>g2 h.2.1)];refine CallsD.run [(8,[.room 2])] Go.Proofs.Tryz.func20 rfl rfl rfl ?_;simp only [Go.Proofs.Tryz.f20];refine hgR ?_
     first | refine wml hr ?_ | refine ysi hr ?_
     refine hg ?_
     first | refine wml (zd1 v (by omega) g2) ?_ | refine ysi (zd1 v (by omega) g2) ?_
     refine hg ?_;exact (.one (.refl _))
 . rw [decide_eq_false g1] at hr;rw [show Bk.floor f l v ms=false from if_neg (fun h=>g1 h.1)];refine CallsD.run [(8,[.room 2])] Go.Proofs.Tryz.func20 rfl rfl rfl ?_;simp only [Go.Proofs.Tryz.f20];refine hgR ?_
   first | refine wml hr ?_ | refine ysi hr ?_
   refine hg ?_;exact (.one (.refl _))
theorem xzm (L:List Int) (i:Nat) (_hL:L.length<=1099511627776) (hi:(i:Int)<=1099511627776) :
 CallsD Γ prog 166 [.one (.ints .i64 L),.one (.raw (.int .i64 i))] (.one (.raw (.int .i64 (L.getD i 0)))):=by
 refine CallsD.run [] Go.Proofs.Tryz.func166 rfl rfl rfl ?_;simp only [Go.Proofs.Tryz.f166];refine hgR ?_;refine vt2 (fun h _=>?_) (fun h _=>?_)
 . refine hg ?_;exact (.one (.refl _))
 . refine hg ?_;exact (by rw [x1k (by omega)];exact .one (.refl _))
theorem vgf (L:List Int) (hL:L.length<=1099511627776):CallsD Γ prog 132 [.one (.ints .i64 L)] (.one (.ints .i64 (yd8 L))):=by
 refine CallsD.run [] Go.Proofs.Tryz.func132 rfl rfl rfl ?_;simp only [Go.Proofs.Tryz.f132];refine hgR ?_;refine x20 [0,2] (fun n:Nat=>[(3,.one (.dat (cI (n))))]) (fun _=>[])
  (fun n=>n<=L.length/\whz L L.length=whz L n) (fun n=>n) L.length ⟨Nat.le_refl _,rfl⟩ ?_ ?_
 . refine hg ?_;exact StH.same svl rfl
 rintro n ⟨hn,ht⟩;refine hg ?_
 have fin:whz L L.length=n->yd8 L=L.take n:=fun h=>by unfold yd8;rw [h]
 refine ywj (fun h _=>?_) (fun h _=>?_)
 . obtain ⟨m,rfl⟩:∃ m,n=m+1:=⟨n-1,by omega⟩
   have e:((m+1:Nat):Int)-1=(m:Nat):=by omega
   have h':=decide_eq_true h;refine hg2 @h' @e ?_;refine vt2 (fun h2 _=>?_) (fun h2 _=>?_)
   . refine hg1 @e ?_;exact ⟨m,⟨by omega,by rw [ht];simp only [whz];rw [if_pos h2]⟩,by omega,StH.same svl rfl⟩
   . have hfin:whz L L.length=m+1:=by rw [ht];simp only [whz];rw [if_neg h2]
     rw [fin hfin]
     conv=>simp (maxSteps:=2000000) (disch:=omega) only [go_sem,Nat.reduceAdd,Nat.reduceSub,Nat.reduceMul,Int.reduceToNat,Nat.reduceEqDiff,Nat.reduceBEq,Nat.reduceBneDiff,Nat.reduceLT,Int.reduceEq,Int.reduceLT,Int.reduceLE,Int.reduceNeg,Int.reduceAdd,Int.reduceSub,Int.reduceMul,e,Nat.sub_zero,List.length_take]
     exact RLe.ofEq rfl
 . have h0:n=0:=by omega
   subst h0;rw [fin (by rw [ht];rfl)]
   conv=>simp (maxSteps:=2000000) (disch:=omega) only [go_sem,Nat.reduceAdd,Nat.reduceSub,Nat.reduceMul,Int.reduceToNat,Nat.reduceEqDiff,Nat.reduceBEq,Nat.reduceBneDiff,Nat.reduceLT,Int.reduceEq,Int.reduceLT,Int.reduceLE,Int.reduceNeg,Int.reduceAdd,Int.reduceSub,Int.reduceMul,h,Nat.sub_zero,List.length_take,Int.reduceLT,decide_false]
   exact (.one (.refl _))
theorem xmz (s:Int) (L:List Int) (hL:L.length<=1099511627776) :
 CallsD Γ prog 91 [.one (.raw (.int .i64 s)),.one (.ints .i64 L)] (.agg (bigC (if yd8 L=[] then 0 else s) (yd8 L))):=by
 refine CallsD.run [] Go.Proofs.Tryz.func91 rfl rfl rfl ?_;simp only [Go.Proofs.Tryz.f91];refine hgR ?_
 first | refine wml (vgf L hL) ?_ | refine ysi (vgf L hL) ?_
 refine hg ?_;refine vt2 (fun h _=>?_) (fun h _=>?_)
 . have h0:yd8 L=[]:=by have:(yd8 L).length=0:=(by omega);simpa using this
   refine hg ?_;rw [h0];exact .one (.agg (.cons (.refl _) (.cons (.zud _) .nil)))
 . have h0:yd8 L≠[]:=fun e=>h (by rw [e];rfl)
   refine hg ?_
   try rw [if_neg h0]
   exact .one (.refl _)
theorem yju (s z:Int) (hz:(dig z.natAbs).length<=1073741824) (h:(s=1/\0<=z)\/(s = -1/\z<=0)\/z=0) :
 CallsD Γ prog 91 [.one (.raw (.int .i64 s)),.one (.ints .i64 (dig z.natAbs))] (.agg [.raw (.int .i64 (sg z)),.ints .i64 (dig z.natAbs)]):=by
 have h':=xmz (Γ:=Γ) s (dig z.natAbs) (by omega)
 try unfold bigC at h'
 rw [zzt h] at h';exact h'
theorem x91 (l:List Int) (i:Nat):num l=num (l.take i)+1048576 ^ i*num (l.drop i):=by
 rcases Nat.lt_or_ge l.length i with h | h
 . rw [List.drop_eq_nil_of_le (by omega),vbl (by omega)];simp [num]
 . have:=y3e l i
   rwa [List.length_take,Nat.min_eq_left h] at this
theorem z4d {l:List Int} (h:digits l) (i:Nat):num (l.take i)<1048576 ^ i:=
 Int.lt_of_lt_of_le (yv9 (h.take i)) (wo8 (by simp;omega))
theorem wn2 {a b:List Int} (ha:digits a) (hb:digits b) (i:Nat) (h:num (a.drop (i+1))=num (b.drop (i+1))) (hlt:a.getD i 0<b.getD i 0):num a<num b:=by
 rw [x91 a i,x91 b i,v0i a,v0i b,h];have h1:=z4d ha i;have h2:=num_nonneg (hb.take i);have hp:=w7x i;generalize (1048576:Int) ^ i=P at *;generalize num (b.drop (i+1))=T;have h3:P*(a.getD i 0+1)<=P*b.getD i 0:=Int.mul_le_mul_of_nonneg_left (by omega) (by omega);rw [Int.mul_add,Int.mul_add];rw [Int.mul_add] at h3;omega
theorem xre (a b:List Int) (ha:digits a) (hb:digits b) (la:a.length<=1099511627776) (lb:b.length<=1099511627776) :
 CallsD Γ prog 164 [.one (.ints .i64 a),.one (.ints .i64 b)] (.one (.raw (.bool (decide (num a<num b))))):=by
 refine CallsD.run [] Go.Proofs.Tryz.func164 rfl rfl rfl ?_;simp only [Go.Proofs.Tryz.f164];refine hgR ?_;refine x20 [0,1,4] (fun n:Nat=>[(5,.one (.dat (cI (((n:Int)-1)))))]) (fun _=>[])
  (fun n=>n<=max a.length b.length/\num (a.drop n)=num (b.drop n)) (fun n=>n) (max a.length b.length)
  ⟨Nat.le_refl _,by rw [List.drop_eq_nil_of_le (by omega),List.drop_eq_nil_of_le (by omega)]⟩ ?_ ?_
 . refine hg ?_;rw [show (max (a.length:Int) b.length)=((max a.length b.length:Nat):Int) by omega];exact StH.same svl rfl
 rintro n ⟨hn,he⟩;refine hg ?_;refine vt2 (fun h _=>?_) (fun h _=>?_)
 . obtain ⟨i,rfl⟩:∃ i,n=i+1:=⟨n-1,by omega⟩
   have ei:((i+1:Nat):Int)-1=(i:Nat):=by omega
   refine hg1 @ei ?_
   first | refine wml (xzm a i la (by omega)) ?_ | refine ysi (xzm a i la (by omega)) ?_
   refine hg1 @ei ?_
   first | refine wml (xzm b i lb (by omega)) ?_ | refine ysi (xzm b i lb (by omega)) ?_
   refine hg1 @ei ?_;refine vt2 (fun h2 _=>?_) (fun h2 _=>?_)
   . have h2:a.getD i 0≠b.getD i 0:=h2;refine hg1 @ei ?_
     first | refine wml (xzm a i la (by omega)) ?_ | refine ysi (xzm a i la (by omega)) ?_
     refine hg1 @ei ?_
     first | refine wml (xzm b i lb (by omega)) ?_ | refine ysi (xzm b i lb (by omega)) ?_
     refine hg1 @ei ?_
     have:decide (a.getD i 0<b.getD i 0)=decide (num a<num b):=by
      apply decide_eq_decide.2
      rcases Int.lt_or_gt_of_ne h2 with h3 | h3
      . have:=wn2 ha hb i he h3
        exact ⟨fun _=>this,fun _=>h3⟩
      . have:=wn2 hb ha i he.symm h3
        exact ⟨fun _=>by omega,fun _=>by omega⟩
     rw [this];exact .one (.refl _)
   . have h2:a.getD i 0=b.getD i 0:=by omega
     refine hg1 @ei ?_;exact ⟨i,⟨by omega,by rw [v0i a,v0i b,he,h2]⟩,by omega,StH.same svl rfl⟩
 . have h0:n=0:=by omega
   subst h0
   have he:num a=num b:=by simpa using he
   refine hg ?_;exact (by rw [decide_eq_false (by omega)];exact .one (.refl _))
theorem ybg (l:List Int) (x:Int):num (l++[x])=num l+1048576 ^ l.length*x:=by rw [xa3];simp [num]
theorem xzy (a b:List Int) (ha:digits a) (hb:digits b) (la:a.length<=1073741824) (lb:b.length<=1073741824) :
 CallsD Γ prog 130 [.one (.ints .i64 a),.one (.ints .i64 b)] (.one (.ints .i64 (dig (num a+num b).toNat))):=by
 refine CallsD.run [(6,[.join])] Go.Proofs.Tryz.func130 rfl rfl rfl ?_;simp only [Go.Proofs.Tryz.f130];refine hgR ?_;refine x20 [0,1,4] (fun x:Nat×List Int×Int=>[(5,.one (.sl 0 1 0 x.2.1.length)),(6,.one (.dat (cI (x.2.2)))),(7,.one (.dat (cI (x.1))))]) (fun x=>[.arr (.ints .i64 x.2.1) 0 (some 3)])
  (fun x=>x.1<=max a.length b.length+1/\x.2.1.length=x.1/\digits x.2.1/\(0<=x.2.2/\x.2.2<=1)/\(max a.length b.length<x.1->x.2.2=0)/\num x.2.1+1048576 ^ x.1*x.2.2=num (a.take x.1)+num (b.take x.1))
  (fun x=>max a.length b.length+1-x.1) (0,[],0)
  ⟨Nat.zero_le _,rfl,digits.nil,by simp,by simp,by simp [num]⟩ ?_ ?_
 . refine hg ?_;refine StH.trans (StH.empty (d:=5) (es:=1) (c:=.ints .i64 []) (T:=some 3) rfl rfl trivial rfl) ?_;refine hg ?_;exact StH.same svl rfl
 rintro ⟨k,l,c⟩ ⟨hk,hl,hd,hc,hc0,hn⟩;simp only at hk hl hd hc hc0 hn;refine hg ?_;refine wvz [0,1,4,5,6,7] (fun _:Unit=>[]) (fun _=>[.arr (.ints .i64 l) 0 (some 3)]) (fun _=>k<a.length\/k<b.length\/0<c) ?_ ?_
 . refine hg ?_;refine wj9 (fun h1 _=>?_) (fun h1 _=>?_)
   . refine hg1 @h1 ?_;refine wj9 (fun h2 _=>?_) (fun h2 _=>?_)
     . refine hg1 @h2 ?_;refine vt2 (fun h3 _=>?_) (fun h3 _=>?_)
       . refine hg ?_;exact ⟨(),.inr (.inr h3),StH.same svl rfl⟩
       . have hc1:c=0:=by omega
         rw [vbl (by omega),vbl (by omega),hc1,Int.mul_zero,Int.add_zero] at hn;refine hg ?_
         first | refine wml (vgf l (by omega)) ?_ | refine ysi (vgf l (by omega)) ?_
         refine hg ?_;exact (by rw [yny hd hn];exact .one (.refl _))
     . have h2':=decide_eq_true h2;refine hg1 @h2' ?_;exact ⟨(),.inr (.inl (by omega)),StH.same svl rfl⟩
   . have h1':=decide_eq_true h1;refine hg1 @h1' ?_;exact ⟨(),.inl (by omega),StH.same svl rfl⟩
 rintro _ hgo;have hak:=ha.getD k;have hbk:=hb.getD k
 have hkm:k<=max a.length b.length:=by
  rcases Nat.lt_or_ge (max a.length b.length) k with h | h
  . have:=hc0 h;omega
  . exact h
 refine hg ?_
 first | refine wml (xzm a k (by omega) (by omega)) ?_ | refine ysi (xzm a k (by omega) (by omega)) ?_
 refine hg ?_
 first | refine wml (xzm b k (by omega) (by omega)) ?_ | refine ysi (xzm b k (by omega) (by omega)) ?_
 refine hg ?_;generalize hs:a.getD k 0+b.getD k 0+c=s at *;have hm:s.tmod 1048576=s % 1048576:=Int.tmod_eq_emod_of_nonneg (by omega);have hq:s.tdiv 1048576=s / 1048576:=Int.tdiv_eq_ediv_of_nonneg (by omega);refine hg2 @hm @hq ?_;refine ⟨(k+1,l++[s % 1048576],s / 1048576),⟨by dsimp only;omega,by simp [hl],hd.append (digits.cons (by omega) digits.nil),by dsimp only;omega,fun h=>?_,?_⟩,by dsimp only;omega,StH.back [0,1,4,5,6,7] 0 1 1 rfl rfl rfl rfl rfl (by kernel_rfl) (StH.same svl rfl)⟩
 . dsimp only at h ⊢;have e1:=x1k (l:=a) (i:=k) (by omega);have e2:=x1k (l:=b) (i:=k) (by omega);omega
 . dsimp only;rw [ybg,hl,w0b,w0b,Int.pow_succ];have h:=Int.emod_add_mul_ediv s 1048576;generalize (1048576:Int) ^ k=P at *;generalize s % 1048576=r at *;generalize s / 1048576=q at *
   grind
theorem yw3 (x y:Nat) (hxy:y<=x) (la:(dig x).length<=1073741824) :
 CallsD Γ prog 131 [.one (.ints .i64 (dig x)),.one (.ints .i64 (dig y))] (.one (.ints .i64 (dig (x-y)))):=by
 have hlb:(dig y).length<=(dig x).length:=xax hxy;have hnx:=zcw x;have hny:=zcw y;have ha:=zkp x;have hb:=zkp y
 have hfin:(num (dig x)-num (dig y)).toNat=x-y:=by omega
 rw [<-hfin]
 have hle:num (dig y)<=num (dig x):=by omega
 clear hfin hnx hny hxy;generalize dig x=a at *;generalize dig y=b at *;refine CallsD.run [(11,[.join])] Go.Proofs.Tryz.func131 rfl rfl rfl ?_;simp only [Go.Proofs.Tryz.f131];refine hgR ?_;refine x20 [0,1,4] (fun x:Nat×List Int×Int=>[(5,.one (.sl 0 1 0 x.2.1.length)),(6,.one (.dat (cI (x.2.2)))),(7,.one (.dat (cI (x.1))))]) (fun x=>[.arr (.ints .i64 x.2.1) 0 (some 3)])
  (fun x=>x.1<=a.length/\x.2.1.length=x.1/\digits x.2.1/\(0<=x.2.2/\x.2.2<=1)/\num x.2.1-1048576 ^ x.1*x.2.2=num (a.take x.1)-num (b.take x.1))
  (fun x=>a.length-x.1) (0,[],0)
  ⟨Nat.zero_le _,rfl,digits.nil,by simp,by simp [num]⟩ ?_ ?_
 . refine hg ?_;refine StH.trans (StH.empty (d:=5) (es:=1) (c:=.ints .i64 []) (T:=some 3) rfl rfl trivial rfl) ?_;refine hg ?_;exact StH.same svl rfl
 rintro ⟨k,l,c⟩ ⟨hk,hl,hd,hc,hn⟩;simp only at hk hl hd hc hn;refine hg ?_;refine vt2 (fun h _=>?_) (fun h _=>?_)
 . have hak:=ha.getD k;have hbk:=hb.getD k;refine hg ?_
   first | refine wml (xzm b k (by omega) (by omega)) ?_ | refine ysi (xzm b k (by omega) (by omega)) ?_
   refine hg ?_;refine hik ?_;refine hg ?_;generalize hs:a.getD k 0-b.getD k 0-c=s at *;refine wvz [0,1,4,5,7] (fun _:Unit=>[(6,.one (.dat (cI ((if s<0 then 1 else 0))))),(8,.one (.dat (cI ((if s<0 then s+1048576 else s)))))]) (fun _=>[.arr (.ints .i64 l) 0 (some 3)]) (fun _=>True) ?_ ?_
   . refine hg ?_;refine vt2 (fun h1 _=>?_) (fun h1 _=>?_)
     . refine hg ?_;exact ⟨(),StH.same svl rfl⟩
     . refine hg ?_;exact ⟨(),StH.same svl rfl⟩
   rintro _ _;generalize hr:(if s<0 then s+1048576 else s)=r;generalize hq:(if s<0 then (1:Int) else 0)=q
   have hrq:s=r-1048576*q/\0<=r/\r<=1048575/\0<=q/\q<=1:=by
    subst hr hq
    split<;>omega
   clear hr hq;refine hg ?_;refine ⟨(k+1,l++[r],q),⟨by dsimp only;omega,by simp [hl],hd.append (digits.cons (by omega) digits.nil),by dsimp only;omega,?_⟩,by dsimp only;omega,StH.back [0,1,4,5,6,7] 0 1 1 rfl rfl rfl rfl rfl (by kernel_rfl) (StH.same svl rfl)⟩;dsimp only;rw [ybg,hl,w0b,w0b,Int.pow_succ];have h:=hrq.1;generalize (1048576:Int) ^ k=P at *
   grind
 . have hka:k=a.length:=by omega
   rw [hka,vbl (Nat.le_refl _),vbl hlb] at hn;have hd0:=yv9 hd;rw [hl,hka] at hd0
   have hc0:c=0:=by
    have:=w7x a.length
    rcases (show c=0\/c=1 by omega) with e | e
    . exact e
    . rw [e] at hn;omega
   rw [hc0,Int.mul_zero,Int.sub_zero] at hn;refine hg ?_
   first | refine wml (vgf l (by omega)) ?_ | refine ysi (vgf l (by omega)) ?_
   refine hg ?_;exact (by rw [yny hd hn];exact .one (.refl _))
end Go.Hp.T
