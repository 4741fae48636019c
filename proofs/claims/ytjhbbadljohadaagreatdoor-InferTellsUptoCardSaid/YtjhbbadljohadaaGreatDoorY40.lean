/- The proof, part Y40: Ui, Ob, Pa, Pb, Pc, Pd, Pe, Pf, Pg, Ph, Pi, Pj, Oc, Uj. -/
import Derived.Test.YtjhbbadljohadaaGreatDoorY36
import Derived.Test.YtjhbbadljohadaaGreatDoorY39
import Derived.Test.YtjhbbadljohadaaGreatDoorY35
import Derived.Test.YtjhbbadljohadaaGreatDoorY29
namespace Go.Hp.T
open Go Go.RowKit Go.Slot Go.Hp
set_option maxRecDepth 10000
theorem ybb (x:Ex):z2a x=zd5 x:=by
 unfold z2a zd5 ztz isOp
 by_cases h0:x.op=0
 · rw [decide_eq_true h0];rfl
 rw [decide_eq_false h0,cond_false,cond_false]
 cases hb:(decide (¬x.n=0)||decide (¬x.unit.size=0)) with
 | true=>rfl
 | false=>
  simp only [cond_false]
  have fin:∀ k:Int,0<k->(decide (x.name.size=0)&&decide (0<(x.args.length:Int))&&decide ((x.args.length:Int)=k))=(decide (x.name.size=0)&&decide ((x.args.length:Int)=k)):=fun k hk=>by
   by_cases h:(x.args.length:Int)=k
   · rw [decide_eq_true (show 0<(x.args.length:Int) by omega),Bool.and_true]
   · rw [decide_eq_false h,Bool.and_false,Bool.and_false]
  by_cases h1:x.op=1
  · rw [h1];rfl
  by_cases h2:x.op=2
  · rw [h2];rfl
  by_cases h3:x.op=3
  · rw [h3];rfl
  by_cases h4:x.op=4
  · rw [h4];exact fin 1 (by decide)
  by_cases h5:x.op=5
  · rw [h5];exact fin 3 (by decide)
  by_cases h6:x.op=6
  · rw [h6];exact fin 2 (by decide)
  by_cases h7:x.op=7
  · rw [h7];exact fin 2 (by decide)
  by_cases h8:x.op=8
  · rw [h8];exact fin 2 (by decide)
  by_cases h9:x.op=9
  · rw [h9];exact fin 2 (by decide)
  by_cases h10:x.op=10
  · rw [h10];exact fin 2 (by decide)
  by_cases h11:x.op=11
  · rw [h11];exact fin 2 (by decide)
  by_cases h12:x.op=12
  · rw [h12];exact fin 2 (by decide)
  by_cases h13:x.op=13
  · rw [h13];exact fin 2 (by decide)
  by_cases h14:x.op=14
  · rw [h14];exact fin 2 (by decide)
  by_cases h15:x.op=15
  · rw [h15];exact fin 2 (by decide)
  simp [h1,h2,h3,h4,h5,h6,h7,h8,h9,h10,h11,h12,h13,h14,h15]
  try omega
theorem yj7:∀ x:Ex,x.rsh=x.shaped:=by
 refine Ex.ind (fun x ih=>?_)
 rw [Ex.zz8,Ex.zeg,ybb]
 congr 1
 refine Bool.eq_iff_iff.2 ?_
 rw [List.all_eq_true,List.all_eq_true]
 exact ⟨fun h y hy=>by rw [<-ih y hy];exact h y hy,fun h y hy=>by rw [ih y hy];exact h y hy⟩
theorem yhj:∀(x:Ex) (c d:Int),(x.cnt c d).1=decide (0<=x.rsz (200-c) (21-d))/\((x.cnt c d).1=true->(x.cnt c d).2=c+x.rsz (200-c) (21-d)):=by
 refine Ex.ind (fun x ih c d=>?_)
 have hL:∀ l:List Ex,(∀ z∈l,z∈x.args)->∀ c d k:Int,0<=k->(Ex.cntL l (c+k) (d+1)).1=decide (0<=Ex.rszL l (200-c) (21-d) k)/\((Ex.cntL l (c+k) (d+1)).1=true->(Ex.cntL l (c+k) (d+1)).2=c+Ex.rszL l (200-c) (21-d) k):=by
  intro l
  induction l with
  | nil=>intro _ c d k hk;rw [Ex.cntL,Ex.rszL];exact ⟨(decide_eq_true hk).symm,fun _=>rfl⟩
  | cons z l ihl=>
   intro hz c d k hk
   obtain ⟨h1,h2⟩:=ih z (hz z (by simp)) (c+k) (d+1)
   rw [show (200:Int)-(c+k)=200-c-k by omega,show (21:Int)-(d+1)=21-d-1 by omega] at h1 h2
   rw [Ex.cntL,Ex.rszL]
   cases hc:z.cnt (c+k) (d+1) with
   | mk b m=>
    rw [hc] at h1 h2
    simp only at h1 h2
    generalize z.rsz (200-c-k) (21-d-1)=r at h1 h2 ⊢
    cases b with
    | false=>
     have hr:r<0:=by
      have:=of_decide_eq_false h1.symm
      omega
     rw [decide_eq_true hr,cond_true]
     exact ⟨rfl,fun h=>by cases h⟩
    | true=>
     have hr:0<=r:=of_decide_eq_true h1.symm
     rw [decide_eq_false (show ¬r<0 by omega),cond_false,h2 rfl]
     have h3:=ihl (fun w hw=>hz w (by simp [hw])) c d (k+r) (by omega)
     rw [show c+(k+r)=c+k+r by omega] at h3
     exact h3
 rw [Ex.zvl,Ex.zuj]
 by_cases a1:200<c+1
 · rw [decide_eq_true a1,decide_eq_true (show 200-c<1 by omega)]
   exact ⟨rfl,fun h=>by cases h⟩
 · by_cases a2:20<d
   · rw [decide_eq_true a2,decide_eq_true (show 21-d<1 by omega),Bool.or_true,Bool.or_true]
     exact ⟨rfl,fun h=>by cases h⟩
   · rw [decide_eq_false a1,decide_eq_false a2,decide_eq_false (show ¬200-c<1 by omega),decide_eq_false (show ¬21-d<1 by omega)]
     exact hL x.args (fun z hz=>hz) c d 1 (by decide)
theorem z3b (x:Ex):zid x=zh4 x:=by
 unfold zid zh4
 rw [(yhj x 0 1).1,yj7]
 rfl
theorem zoa {α:Type} [Inhabited α] {p:α->α->Bool} {l:List α} (h:∀ i,i<l.length->(l.take i).any (fun u=>p u (l.getD i default))=false):l.Pairwise (fun a b=>p a b=false):=by
 rw [List.pairwise_iff_getElem]
 intro i j hi hj hij
 have h1:=h j hj
 rw [List.any_eq_false] at h1
 have h2:=h1 l[i] (List.mem_take_iff_getElem.2 ⟨i,by omega,rfl⟩)
 rw [show l.getD j default=l[j] from by simp [hj]] at h2
 simpa using h2
theorem zpb {α:Type} [Inhabited α] {p:α->α->Bool} {l:List α} (h:l.Pairwise (fun a b=>p a b=false)) (i:Nat) (hi:i<l.length):(l.take i).any (fun u=>p u (l.getD i default))=false:=by
 rw [List.pairwise_iff_getElem] at h
 rw [List.any_eq_false]
 intro u hu
 obtain ⟨j,hj,rfl⟩:=List.mem_take_iff_getElem.1 hu
 have:=h j i (by omega) hi (by omega)
 rw [show l.getD i default=l[i] from by simp [hi],this]
 simp
theorem z1x {vs:List Vr} {ms:List Tb} (h:rR15 vs ms=true):zmz vs ms:=by
 unfold rR15 at h
 rw [Bool.and_eq_true,List.all_eq_true,List.all_eq_true] at h
 obtain ⟨hv,ht⟩:=h
 have hv':∀ i,i<vs.length->okV vs i=true:=fun i hi=>hv i (List.mem_range.2 hi)
 have ht':∀ i,i<ms.length->okT vs ms i=true:=fun i hi=>ht i (List.mem_range.2 hi)
 unfold okV at hv'
 unfold okT at ht'
 simp only [zha,Bool.and_eq_true,Bool.not_eq_true'] at hv' ht'
 refine ⟨fun v hm=>?_,?_,fun t hm=>?_,?_⟩
 · obtain ⟨i,hi,rfl⟩:=List.getElem_of_mem hm
   have:=hv' i hi
   rw [show vs.getD i default=vs[i] from by simp [hi]] at this
   rw [this.1.1.1,this.1.1.2,this.1.2];rfl
 · refine (zoa (p:=fun a b:Vr=>seq a.name b.name) (fun i hi=>(hv' i hi).2)).imp ?_
   intro a b h
   rw [ze5];exact h
 · obtain ⟨i,hi,rfl⟩:=List.getElem_of_mem hm
   have:=ht' i hi
   rw [show ms.getD i default=ms[i] from by simp [hi]] at this
   unfold tbad
   have h1:zbc (vs.map fun v=>(v.name,v.d)) ms[i].name=none:=zpp _ vs (fun v hv=>by
    have h2:=this.2
    rw [List.any_eq_false] at h2
    rw [ze5]
    simpa using h2 v hv)
   have h3:decide (¬(zaz ms[i].unit).2=0)=false:=by
    have h4:=this.1.1.1
    unfold zca at h4
    simp only [Bool.and_eq_true,Bool.not_eq_true'] at h4
    exact h4.1.1.1
   rw [h1,h3,this.1.1.1,this.1.1.2];rfl
 · refine (zoa (p:=fun a b:Tb=>seq a.name b.name) (fun i hi=>(ht' i hi).1.2)).imp ?_
   intro a b h
   rw [ze5];exact h
theorem z0d {vs:List Vr} {ms:List Tb} (h:zmz vs ms):rR15 vs ms=true:=by
 unfold rR15
 rw [Bool.and_eq_true,List.all_eq_true,List.all_eq_true]
 constructor
 · intro i hi
   have hi:=List.mem_range.1 hi
   have h1:=h.v _ (zal hi)
   simp only [Bool.or_eq_false_iff,Bool.not_eq_false'] at h1
   unfold okV
   rw [zha,zpb (p:=fun a b:Vr=>seq a.name b.name) (h.vp.imp (fun {a b} hab=>by rw [ze5];exact hab)) i hi,h1.1.1,h1.1.2,h1.2]
   rfl
 · intro i hi
   have hi:=List.mem_range.1 hi
   have h1:=h.t _ (zal hi)
   unfold tbad at h1
   simp only [Bool.or_eq_false_iff,Bool.not_eq_false'] at h1
   have h2:zbc (vs.map fun v=>(v.name,v.d)) (ms.getD i default).name=none:=by
    cases hl:zbc (vs.map fun v=>(v.name,v.d)) (ms.getD i default).name with
    | none=>rfl
    | some d=>rw [hl] at h1;exact absurd h1.1.1.1 (by simp)
   have h3:vs.any (fun u:Vr=>seq u.name (ms.getD i default).name)=false:=by
    rw [List.any_eq_false]
    intro v hv
    rw [ze5,zos h2 v hv]
    simp
   unfold okT
   rw [zha,zha,h3,zpb (p:=fun a b:Tb=>seq a.name b.name) (h.tp.imp (fun {a b} hab=>by rw [ze5];exact hab)) i hi,h1.1.2,h1.2]
   rfl
theorem z39:okTy Ty.zero:=⟨by decide,fun _=>rfl⟩
theorem ztv:okTy ⟨true,Dm.zero⟩:=⟨by decide,fun _=>rfl⟩
theorem zqr {d:Dm} (h:(zq9 d).2=0):zaw (zq9 d).1=true:=by
 unfold zq9 at h ⊢
 cases hd:zaw d with
 | true=>exact hd
 | false=>rw [hd] at h;cases h
theorem z06 {a b:Dm} (h:(dMul a b).2=0):zaw (dMul a b).1=true:=by
 unfold dMul at h ⊢
 cases hb:(!zaw a||!zaw b) with
 | true=>rw [hb] at h;cases h
 | false=>rw [hb] at h;exact zqr h
theorem z0y {a b:Dm} (h:(dDiv a b).2=0):zaw (dDiv a b).1=true:=by
 unfold dDiv at h ⊢
 cases hb:(!zaw a||!zaw b) with
 | true=>rw [hb] at h;cases h
 | false=>rw [hb] at h;exact zqr h
theorem z85 (d:Dm):zaw d.neg=zaw d:=by
 have key:∀ n:Int,bad9 (0-n)=bad9 n:=fun n=>by
  unfold bad9
  by_cases h1:n < -9
  · rw [decide_eq_true h1,decide_eq_true (show 9<0-n by omega),Bool.or_true,Bool.true_or]
  · by_cases h2:9<n
    · rw [decide_eq_true h2,decide_eq_true (show 0-n < -9 by omega),Bool.or_true,Bool.true_or]
    · rw [decide_eq_false h1,decide_eq_false h2,decide_eq_false (show ¬0-n < -9 by omega),decide_eq_false (show ¬9<0-n by omega)]
 unfold zaw Dm.neg
 simp only [key]
theorem yc4 (a b:Dm):dMul a b.neg=dDiv a b:=by
 unfold dMul dDiv
 rw [z85]
 cases (!zaw a||!zaw b) with
 | true=>rfl
 | false=>
  have e:a.add b.neg=a.sub b:=by
   unfold Dm.add Dm.sub Dm.neg
   simp only [Dm.mk.injEq]
   omega
  rw [e]
theorem zqu {s:ByteArray} (h:(zaz s).2=0):zaw (dmO (zaz s).1)=true:=by
 unfold zaz at h ⊢
 cases hi:zbg s with
 | none=>rw [hi] at h;cases h
 | some l=>
  rw [hi] at h
  simp only at h ⊢
  cases hr:zpt l ⟨Dm.zero,(1:Int)⟩ with
  | none=>rw [hr] at h;cases h
  | some u=>
   rw [hr] at h
   simp only at h ⊢
   cases hd:zaw u.d with
   | true=>exact hd
   | false=>rw [hd] at h;cases h
theorem OkP.c {c:Bool} {a b:Ty×Int} (ha:a.2=0->okTy a.1) (hb:b.2=0->okTy b.1):(bif c then a else b).2=0->okTy (bif c then a else b).1:=by cases c<;>assumption
theorem zs8 (a b r:Ty) (hr:okTy r):(zhu a b r).2=0->okTy (zhu a b r).1:=OkP.c (fun h=>by cases h) (OkP.c (fun h=>by cases h) (fun _=>hr))
theorem z04 (o:Int) (a b:Ty):(zja o a b).2=0->okTy (zja o a b).1:=by
 unfold zja
 refine OkP.c (fun h=>by cases h) ?_
 cases hd:(!decide ((bif decide (o=9) then dDiv a.d b.d else dMul a.d b.d).2=0)) with
 | true=>exact fun h=>by cases h
 | false=>
  intro _
  have h:(bif decide (o=9) then dDiv a.d b.d else dMul a.d b.d).2=0:=by simpa using hd
  refine ⟨?_,fun h=>by cases h⟩
  show zaw (bif decide (o=9) then dDiv a.d b.d else dMul a.d b.d).1=true
  revert h
  cases decide (o=9) with
  | true=>exact z0y
  | false=>exact z06
theorem zut:okTy default:=z39
theorem z7v {ts:List Ty} (h:∀ t∈ts,okTy t) (i:Nat):okTy (ts.getD i default):=by
 by_cases hi:i<ts.length
 · exact h _ (zal hi)
 · rw [show ts.getD i default=default from by simp [hi]];exact zut
theorem yin (T:List (ByteArray×Dm)) (hT:∀ s d,zbc T s=some d->zaw d=true) (o:Int) (nm:ByteArray) (ts:List Ty) (h:∀ t∈ts,okTy t):(zjw T o nm ts).2=0->okTy (zjw T o nm ts).1:=by
 unfold zjw
 refine OkP.c ?_ (OkP.c (zs8 _ _ _ (z7v h 0)) (OkP.c (zs8 _ _ _ ztv) (OkP.c (z04 _ _ _) (OkP.c (OkP.c (fun h=>by cases h) (zs8 _ _ _ (z7v h 1))) (OkP.c (fun h=>by cases h) (fun _=>ztv))))))
 unfold zuh
 cases hl:zbc T nm with
 | none=>exact fun h=>by cases h
 | some d=>exact OkP.c (fun h=>by cases h) (OkP.c (fun h=>by cases h) (fun _=>⟨hT _ _ hl,fun h=>by cases h⟩))
theorem ygl (V:List (ByteArray×Dm)) (hV:∀ s d,zbc V s=some d->zaw d=true) (x:Ex):(znf V x).2=0->okTy (znf V x).1:=by
 unfold znf
 refine OkP.c ?_ ?_
 · cases hl:zbc V x.name with
   | none=>exact fun h=>by cases h
   | some d=>exact fun _=>⟨hV _ _ hl,fun h=>by cases h⟩
 · cases hd:decide (¬(zaz x.unit).2=0) with
   | true=>exact fun h=>by cases h
   | false=>exact fun _=>⟨zqu (by simpa using hd),fun h=>by cases h⟩
theorem ynv (V T:List (ByteArray×Dm)) (hV:∀ s d,zbc V s=some d->zaw d=true) (hT:∀ s d,zbc T s=some d->zaw d=true):∀ x:Ex,x.shaped=true->(x.ty V T).2=0->okTy (x.ty V T).1:=by
 refine Ex.ind (fun x ih hx=>?_)
 rw [Ex.zeg,Bool.and_eq_true,List.all_eq_true] at hx
 rw [Ex.z32]
 refine OkP.c (ygl V hV x) ?_
 have hL:∀ l:List Ex,(∀ z∈l,z∈x.args)->∀ ts,Ex.tyL V T l=.inr ts->∀ t∈ts,okTy t:=by
  intro l
  induction l with
  | nil=>intro _ ts h t ht;rw [Ex.tyL] at h;cases h;cases ht
  | cons z l ihl=>
   intro hz ts h
   have h0:=z43 V T _ _ h z (by simp)
   have h1:=ih z (hz z (by simp)) (hx.2 z (hz z (by simp))) h0
   rw [Ex.tyL] at h
   cases hc:z.ty V T with
   | mk t f=>
    rw [hc] at h h0 h1
    simp only at h0 h h1
    subst h0
    cases hl:Ex.tyL V T l with
    | inl g=>rw [hl] at h;simp at h
    | inr us=>
     rw [hl] at h
     have hts:ts=t::us:=by simpa using h.symm
     subst hts
     intro u hu
     rcases List.mem_cons.1 hu with rfl | hu
     · exact h1
     · exact ihl (fun w hw=>hz w (by simp [hw])) us hl u hu
 cases hl:Ex.tyL V T x.args with
 | inl e=>exact fun h=>absurd h (z3a _ _ _ _ hl)
 | inr ts=>exact yin T hT _ _ _ (hL x.args (fun z hz=>hz) ts hl)
theorem zkb {α:Type} [Inhabited α] (nm:α->ByteArray) (vl:α->Dm) (s:ByteArray):∀ l:List α,zbc (l.map fun v=>(nm v,vl v)) s=bif decide (idxF (fun v=>seq (nm v) s) l<0) then none else some (vl (l.getD (idxF (fun v=>seq (nm v) s) l).toNat default))
 | []=>rfl
 | v::l=>by
  have ih:=zkb nm vl s l
  have hge:=zxi (fun v=>seq (nm v) s) l
  rw [List.map_cons,zbc]
  unfold idxF
  rw [ze5]
  cases hs:seq (nm v) s with
  | true=>rfl
  | false=>
   rw [cond_false,cond_false,ih]
   generalize idxF (fun v=>seq (nm v) s) l=k at hge
   by_cases h:k = -1
   · subst h;rfl
   · rw [decide_eq_false h,cond_false,decide_eq_false (show ¬k<0 by omega),decide_eq_false (show ¬k+1<0 by omega),cond_false,cond_false]
     rw [show (k+1).toNat=k.toNat+1 by omega]
     rfl
theorem zlz (a b r:Ty):zhu a b r=bif decide (¬zia a b=0) then (Ty.zero,zia a b) else (r,0):=by
 unfold zhu zia
 cases a.t||b.t with
 | true=>rfl
 | false=>
  simp only [cond_false]
  cases !decide (a.d=b.d)<;>rfl
end Go.Hp.T

namespace Go.Hp.T
open Go Go.RowKit Go.Slot Go.Hp Go.Slot.T
open Go.Proofs.Tryz (prog)
set_option maxRecDepth 10000
set_option maxHeartbeats 4000000
def vs15:List Vr:=[⟨⟨⟨[109,97,115,115]⟩⟩,⟨1,0,0,0,0,0⟩⟩,⟨⟨⟨[119,97,121]⟩⟩,⟨0,1,0,0,0,0⟩⟩,⟨⟨⟨[104,111,117,114]⟩⟩,⟨0,0,0,0,0,0⟩⟩]
def ms15:List Tb:=[⟨⟨⟨[103,114,105,100]⟩⟩,⟨⟨[103,47,74]⟩⟩,[]⟩]
theorem z9g:CallsD Gs prog 36 [] (.one (.sl 7 (vs15.map Vr.C))):=
 CallsD.fv (N:=1000) (n:=60) OkD.none (by kernel_rfl)
theorem CallsD.uz1 {f:FuncId} {args:List AV} {c:Cell} (k:Nat) (h:CallsD Gs prog f args (.one c)):CallsD Gs prog f args (.one (uz k c)):=
 ⟨h.1,fun M w vs hM hg hr=>(h.2 M w vs hM hg hr).mono (fun _ _ ⟨v,h1,h2,h3,h4⟩=>⟨v,h1,h2,RdC.uz k h3,fun hh=>by cases hh⟩)⟩
theorem yda:CallsD Gs prog 37 [] (.one (.sl 3 [[cS ⟨⟨[103,114,105,100]⟩⟩,cS ⟨⟨[103,47,74]⟩⟩,.zc]])):=
 CallsD.fv (N:=1000) (n:=60) OkD.none (by kernel_rfl)
theorem zs1:CallsD Gs prog 37 [] (.one (.sl 3 (ms15.map Tb.C))):=by
 have h:=CallsD.uz1 2 yda
 have e:uz 2 (.sl 3 [[cS ⟨⟨[103,114,105,100]⟩⟩,cS ⟨⟨[103,47,74]⟩⟩,.zc]])=.sl 3 (ms15.map Tb.C):=by kernel_rfl
 exact e▸h
theorem yla (x:Ex) (hx:x.Sm):CallsD Gs prog 9 [.agg (exC x),.one (.sl 7 (vs15.map Vr.C)),.one (.sl 3 (ms15.map Tb.C))] (tyR (ofF x vs15 ms15)):=
 zy4 x vs15 ms15 hx (by decide) (by decide) (by decide) (fun t ht=>by
  cases List.mem_singleton.1 ht
  exact ⟨by decide,by decide,by decide⟩)
theorem flTy:(zjc prog 9 32=some 7)=True:=eq_true (by kernel_rfl)
theorem agTy:aggT prog 32=true:=by kernel_rfl
theorem egTy:prog.eqGuardType prog.depth 32=false:=by kernel_rfl
theorem yon (t:Bool) (a b c d e f:Int):fitT prog 9 32 [.bool t,.int .i64 a,.int .i64 b,.int .i64 c,.int .i64 d,.int .i64 e,.int .i64 f]=true:=by kernel_rfl
attribute [go_sem] flTy agTy egTy yon
def isF (r:Ty×Int) (t:Bool) (d:Dm):Bool:=decide (r.2=0)&&((r.1.t==t)&&decide (r.1.d=d))
def zmt (r:Ty×Int) (e:Int):Bool:=decide (r.2=e)&&(!r.1.t&&decide (r.1.d=Dm.zero))
theorem cIs (s:ByteArray) (x:Ex) (hp:CallsD Gs prog 35 [.one (cS s)] (parR x)) (hx:x.Sm) (t:Bool) (d:Dm):CallsD Gs prog 17 [.one (cS s),.one (cB t),.agg (dmC d)] (.one (cB (isF (ofF x vs15 ms15) t d))):=by
 have h1:=yla x hx
 generalize ofF x vs15 ms15=r at h1 ⊢
 refine CallsD.run [] Go.Proofs.Tryz.func17 rfl rfl rfl ?_;simp only [Go.Proofs.Tryz.f17];refine hgR ?_
 repeat' ((first | refine hfk ?_ ?_<;>intros | refine hik ?_ | with_reducible first | refine za3 (hp) ?_ | refine za0 (hp) ?_ | refine za3 (z9g) ?_ | refine za0 (z9g) ?_ | refine za3 (zs1) ?_ | refine za0 (zs1) ?_ | refine za3 (h1) ?_ | refine za0 (h1) ?_)<;>refine hgS ?_)
 all_goals (refine RLe.ofEq ?_;conv=>simp only [Bool.and_true,Bool.true_and,Bool.and_false,Bool.false_and,Bool.or_true,Bool.true_or,Bool.or_false,Bool.false_or,Bool.not_true,Bool.not_false,decide_true,decide_false,not_true_eq_false,not_false_eq_true,za2,if_true,if_false,Bool.and_self,Bool.or_self,cond_true,cond_false,List.length_map,ne_eq,Int.reduceEq,Int.reduceLT,Int.reduceLE, *,isF]);first | exact trivial | rfl
theorem zrh (s:ByteArray) (x:Ex) (hp:CallsD Gs prog 35 [.one (cS s)] (parR x)) (hx:x.Sm) (e:Int):CallsD Gs prog 18 [.one (cS s),.one (cI e)] (.one (cB (zmt (ofF x vs15 ms15) e))):=by
 have h1:=yla x hx
 generalize ofF x vs15 ms15=r at h1 ⊢
 refine CallsD.run [] Go.Proofs.Tryz.func18 rfl rfl rfl ?_;simp only [Go.Proofs.Tryz.f18];refine hgR ?_
 repeat' ((first | refine hfk ?_ ?_<;>intros | refine hik ?_ | with_reducible first | refine za3 (hp) ?_ | refine za0 (hp) ?_ | refine za3 (z9g) ?_ | refine za0 (z9g) ?_ | refine za3 (zs1) ?_ | refine za0 (zs1) ?_ | refine za3 (h1) ?_ | refine za0 (h1) ?_)<;>refine hgS ?_)
 all_goals (refine RLe.ofEq ?_;conv=>simp only [Bool.and_true,Bool.true_and,Bool.and_false,Bool.false_and,Bool.or_true,Bool.true_or,Bool.or_false,Bool.false_or,Bool.not_true,Bool.not_false,decide_true,decide_false,not_true_eq_false,not_false_eq_true,za2,if_true,if_false,Bool.and_self,Bool.or_self,cond_true,cond_false,List.length_map,ne_eq,Int.reduceEq,Int.reduceLT,Int.reduceLE, *,zmt]);first | exact trivial | rfl
end Go.Hp.T

namespace Go.Hp.T
open Go Go.RowKit Go.Slot Go.Hp
open Go.Proofs.Tryz (prog)
set_option maxRecDepth 100000
theorem par0:CallsD Gs prog 35 [zqd sx0] (parR ex0):=
 CallsD.uzE 5 (cs:=[(.raw (.int .i64 8)),(.raw (.int .i64 0)),(.raw (.string ⟨⟨[]⟩⟩)),(.raw (.string ⟨⟨[]⟩⟩)),(.sl 5 [[(.raw (.int .i64 1)),(.raw (.int .i64 0)),(.raw (.string ⟨⟨[]⟩⟩)),(.raw (.string ⟨⟨[109,97,115,115]⟩⟩)),.zc],[(.raw (.int .i64 1)),(.raw (.int .i64 0)),(.raw (.string ⟨⟨[]⟩⟩)),(.raw (.string ⟨⟨[119,97,121]⟩⟩)),.zc]])]) (CallsD.fv (N:=1000) (n:=60) OkD.none (by kernel_rfl)) (by kernel_rfl)
end Go.Hp.T

namespace Go.Hp.T
open Go Go.RowKit Go.Slot Go.Hp
open Go.Proofs.Tryz (prog)
set_option maxRecDepth 100000
theorem par1:CallsD Gs prog 35 [zqd sx1] (parR ex1):=
 CallsD.uzE 5 (cs:=[(.raw (.int .i64 6)),(.raw (.int .i64 0)),(.raw (.string ⟨⟨[]⟩⟩)),(.raw (.string ⟨⟨[]⟩⟩)),(.sl 5 [[(.raw (.int .i64 1)),(.raw (.int .i64 0)),(.raw (.string ⟨⟨[]⟩⟩)),(.raw (.string ⟨⟨[109,97,115,115]⟩⟩)),.zc],[(.raw (.int .i64 0)),(.raw (.int .i64 2)),(.raw (.string ⟨⟨[]⟩⟩)),(.raw (.string ⟨⟨[]⟩⟩)),.zc]])]) (CallsD.fv (N:=1000) (n:=60) OkD.none (by kernel_rfl)) (by kernel_rfl)
end Go.Hp.T

namespace Go.Hp.T
open Go Go.RowKit Go.Slot Go.Hp
open Go.Proofs.Tryz (prog)
set_option maxRecDepth 100000
theorem par2:CallsD Gs prog 35 [zqd sx2] (parR ex2):=
 CallsD.uzE 5 (cs:=[(.raw (.int .i64 2)),(.raw (.int .i64 0)),(.raw (.string ⟨⟨[]⟩⟩)),(.raw (.string ⟨⟨[103,114,105,100]⟩⟩)),(.sl 5 [[(.raw (.int .i64 1)),(.raw (.int .i64 0)),(.raw (.string ⟨⟨[]⟩⟩)),(.raw (.string ⟨⟨[109,97,115,115]⟩⟩)),.zc]])]) (CallsD.fv (N:=1000) (n:=60) OkD.none (by kernel_rfl)) (by kernel_rfl)
end Go.Hp.T

namespace Go.Hp.T
open Go Go.RowKit Go.Slot Go.Hp
open Go.Proofs.Tryz (prog)
set_option maxRecDepth 100000
theorem par3:CallsD Gs prog 35 [zqd sx3] (parR ex3):=
 CallsD.uzE 5 (cs:=[(.raw (.int .i64 2)),(.raw (.int .i64 0)),(.raw (.string ⟨⟨[]⟩⟩)),(.raw (.string ⟨⟨[109,97,115,115]⟩⟩)),(.sl 5 [[(.raw (.int .i64 1)),(.raw (.int .i64 0)),(.raw (.string ⟨⟨[]⟩⟩)),(.raw (.string ⟨⟨[104,111,117,114]⟩⟩)),.zc]])]) (CallsD.fv (N:=1000) (n:=60) OkD.none (by kernel_rfl)) (by kernel_rfl)
end Go.Hp.T

namespace Go.Hp.T
open Go Go.RowKit Go.Slot Go.Hp
open Go.Proofs.Tryz (prog)
set_option maxRecDepth 100000
theorem par4:CallsD Gs prog 35 [zqd sx4] (parR ex4):=
 CallsD.uzE 5 (cs:=[(.raw (.int .i64 5)),(.raw (.int .i64 0)),(.raw (.string ⟨⟨[]⟩⟩)),(.raw (.string ⟨⟨[]⟩⟩)),(.sl 5 [[(.raw (.int .i64 1)),(.raw (.int .i64 0)),(.raw (.string ⟨⟨[]⟩⟩)),(.raw (.string ⟨⟨[109,97,115,115]⟩⟩)),.zc],[(.raw (.int .i64 1)),(.raw (.int .i64 0)),(.raw (.string ⟨⟨[]⟩⟩)),(.raw (.string ⟨⟨[119,97,121]⟩⟩)),.zc],[(.raw (.int .i64 1)),(.raw (.int .i64 0)),(.raw (.string ⟨⟨[]⟩⟩)),(.raw (.string ⟨⟨[119,97,121]⟩⟩)),.zc]])]) (CallsD.fv (N:=1000) (n:=60) OkD.none (by kernel_rfl)) (by kernel_rfl)
end Go.Hp.T

namespace Go.Hp.T
open Go Go.RowKit Go.Slot Go.Hp
open Go.Proofs.Tryz (prog)
set_option maxRecDepth 100000
theorem par5:CallsD Gs prog 35 [zqd sx5] (parR ex5):=
 CallsD.uzE 5 (cs:=[(.raw (.int .i64 6)),(.raw (.int .i64 0)),(.raw (.string ⟨⟨[]⟩⟩)),(.raw (.string ⟨⟨[]⟩⟩)),(.sl 5 [[(.raw (.int .i64 1)),(.raw (.int .i64 0)),(.raw (.string ⟨⟨[]⟩⟩)),(.raw (.string ⟨⟨[109,97,115,115]⟩⟩)),.zc],[(.raw (.int .i64 0)),(.raw (.int .i64 2)),(.raw (.string ⟨⟨[107,103]⟩⟩)),(.raw (.string ⟨⟨[]⟩⟩)),.zc]])]) (CallsD.fv (N:=1000) (n:=60) OkD.none (by kernel_rfl)) (by kernel_rfl)
end Go.Hp.T

namespace Go.Hp.T
open Go Go.RowKit Go.Slot Go.Hp
open Go.Proofs.Tryz (prog)
set_option maxRecDepth 100000
theorem par6:CallsD Gs prog 35 [zqd sx6] (parR ex6):=
 CallsD.uzE 5 (cs:=[(.raw (.int .i64 8)),(.raw (.int .i64 0)),(.raw (.string ⟨⟨[]⟩⟩)),(.raw (.string ⟨⟨[]⟩⟩)),(.sl 5 [[(.raw (.int .i64 2)),(.raw (.int .i64 0)),(.raw (.string ⟨⟨[]⟩⟩)),(.raw (.string ⟨⟨[103,114,105,100]⟩⟩)),(.sl 5 [[(.raw (.int .i64 1)),(.raw (.int .i64 0)),(.raw (.string ⟨⟨[]⟩⟩)),(.raw (.string ⟨⟨[104,111,117,114]⟩⟩)),.zc]])],[(.raw (.int .i64 0)),(.raw (.int .i64 3)),(.raw (.string ⟨⟨[107,87,104]⟩⟩)),(.raw (.string ⟨⟨[]⟩⟩)),.zc]])]) (CallsD.fv (N:=1000) (n:=60) OkD.none (by kernel_rfl)) (by kernel_rfl)
end Go.Hp.T

namespace Go.Hp.T
open Go Go.RowKit Go.Slot Go.Hp
open Go.Proofs.Tryz (prog)
set_option maxRecDepth 100000
theorem par7:CallsD Gs prog 35 [zqd sx7] (parR ex7):=
 CallsD.uzE 5 (cs:=[(.raw (.int .i64 2)),(.raw (.int .i64 0)),(.raw (.string ⟨⟨[]⟩⟩)),(.raw (.string ⟨⟨[103,114,105,100]⟩⟩)),(.sl 5 [[(.raw (.int .i64 12)),(.raw (.int .i64 0)),(.raw (.string ⟨⟨[]⟩⟩)),(.raw (.string ⟨⟨[]⟩⟩)),(.sl 5 [[(.raw (.int .i64 1)),(.raw (.int .i64 0)),(.raw (.string ⟨⟨[]⟩⟩)),(.raw (.string ⟨⟨[109,97,115,115]⟩⟩)),.zc],[(.raw (.int .i64 1)),(.raw (.int .i64 0)),(.raw (.string ⟨⟨[]⟩⟩)),(.raw (.string ⟨⟨[109,97,115,115]⟩⟩)),.zc]])]])]) (CallsD.fv (N:=1000) (n:=60) OkD.none (by kernel_rfl)) (by kernel_rfl)
end Go.Hp.T

namespace Go.Hp.T
open Go Go.RowKit Go.Slot Go.Hp
open Go.Proofs.Tryz (prog)
set_option maxRecDepth 100000
theorem par8:CallsD Gs prog 35 [zqd sx8] (parR ex8):=
 CallsD.uzE 5 (cs:=[(.raw (.int .i64 5)),(.raw (.int .i64 0)),(.raw (.string ⟨⟨[]⟩⟩)),(.raw (.string ⟨⟨[]⟩⟩)),(.sl 5 [[(.raw (.int .i64 12)),(.raw (.int .i64 0)),(.raw (.string ⟨⟨[]⟩⟩)),(.raw (.string ⟨⟨[]⟩⟩)),(.sl 5 [[(.raw (.int .i64 1)),(.raw (.int .i64 0)),(.raw (.string ⟨⟨[]⟩⟩)),(.raw (.string ⟨⟨[109,97,115,115]⟩⟩)),.zc],[(.raw (.int .i64 0)),(.raw (.int .i64 1)),(.raw (.string ⟨⟨[116]⟩⟩)),(.raw (.string ⟨⟨[]⟩⟩)),.zc]])],[(.raw (.int .i64 1)),(.raw (.int .i64 0)),(.raw (.string ⟨⟨[]⟩⟩)),(.raw (.string ⟨⟨[119,97,121]⟩⟩)),.zc],[(.raw (.int .i64 0)),(.raw (.int .i64 5)),(.raw (.string ⟨⟨[109]⟩⟩)),(.raw (.string ⟨⟨[]⟩⟩)),.zc]])]) (CallsD.fv (N:=1000) (n:=60) OkD.none (by kernel_rfl)) (by kernel_rfl)
end Go.Hp.T

namespace Go.Hp.T
open Go Go.RowKit Go.Slot Go.Hp
open Go.Proofs.Tryz (prog)
set_option maxRecDepth 100000
theorem par9:CallsD Gs prog 35 [zqd sx9] (parR ex9):=
 CallsD.uzE 5 (cs:=[(.raw (.int .i64 14)),(.raw (.int .i64 0)),(.raw (.string ⟨⟨[]⟩⟩)),(.raw (.string ⟨⟨[]⟩⟩)),(.sl 5 [[(.raw (.int .i64 12)),(.raw (.int .i64 0)),(.raw (.string ⟨⟨[]⟩⟩)),(.raw (.string ⟨⟨[]⟩⟩)),(.sl 5 [[(.raw (.int .i64 1)),(.raw (.int .i64 0)),(.raw (.string ⟨⟨[]⟩⟩)),(.raw (.string ⟨⟨[109,97,115,115]⟩⟩)),.zc],[(.raw (.int .i64 1)),(.raw (.int .i64 0)),(.raw (.string ⟨⟨[]⟩⟩)),(.raw (.string ⟨⟨[119,97,121]⟩⟩)),.zc]])],[(.raw (.int .i64 1)),(.raw (.int .i64 0)),(.raw (.string ⟨⟨[]⟩⟩)),(.raw (.string ⟨⟨[104,111,117,114]⟩⟩)),.zc]])]) (CallsD.fv (N:=1000) (n:=60) OkD.none (by kernel_rfl)) (by kernel_rfl)
end Go.Hp.T

namespace Go.Hp.T
open Go Go.RowKit Go.Slot Go.Hp Go.Slot.T
open Go.Proofs.Tryz (prog)
set_option maxRecDepth 100000
set_option maxHeartbeats 4000000
mutual
def Ex.smB:Ex->Bool
 | .mk _ _ u s l=>Nat.ble l.length 1073741824&&Nat.ble u.size 1073741824&&Nat.ble s.size 1073741824&&Ex.smBL l
def Ex.smBL:List Ex->Bool
 | []=>true
 | x::l=>Ex.smB x&&Ex.smBL l
end
theorem Ex.zzd:∀ l:List Ex,Ex.smBL l=l.all Ex.smB
 | []=>by rw [Ex.smBL];rfl
 | x::l=>by rw [Ex.smBL,Ex.zzd l];rfl
theorem Ex.Sm.of:∀ x:Ex,x.smB=true->x.Sm:=by
 refine Ex.ind ?_
 intro x ih h
 cases x with
 | mk o n u s l=>
  rw [Ex.smB,Ex.zzd] at h
  simp only [Bool.and_eq_true,Nat.ble_eq,List.all_eq_true] at h
  obtain ⟨⟨⟨h1,h2⟩,h3⟩,h4⟩:=h
  exact .mk _ h1 h2 h3 (fun y hy=>ih y hy (h4 y hy))
theorem sn0:CallsD Gs prog 17 [.one (cS ⟨⟨[109,97,115,115,32,42,32,119,97,121]⟩⟩),.one (cB false),.agg [cI 1,cI 1,cI 0,cI 0,cI 0,cI 0]] (.one (cB true)):=by
 have e:isF (ofF ex0 vs15 ms15) false ⟨1,1,0,0,0,0⟩=true:=by kernel_rfl
 have h:=cIs ⟨⟨sx0⟩⟩ ex0 par0 (Ex.Sm.of _ (by kernel_rfl)) false ⟨1,1,0,0,0,0⟩
 rw [e] at h
 exact h
theorem sn1:CallsD Gs prog 17 [.one (cS ⟨⟨[109,97,115,115,32,43,32,50,32,34,107,103,34]⟩⟩),.one (cB false),.agg [cI 1,cI 0,cI 0,cI 0,cI 0,cI 0]] (.one (cB true)):=by
 have e:isF (ofF ex5 vs15 ms15) false ⟨1,0,0,0,0,0⟩=true:=by kernel_rfl
 have h:=cIs ⟨⟨sx5⟩⟩ ex5 par5 (Ex.Sm.of _ (by kernel_rfl)) false ⟨1,0,0,0,0,0⟩
 rw [e] at h
 exact h
theorem sn2:CallsD Gs prog 18 [.one (cS ⟨⟨[109,97,115,115,32,43,32,50]⟩⟩),.one (cI 14)] (.one (cB true)):=by
 have e:zmt (ofF ex1 vs15 ms15) 14=true:=by kernel_rfl
 have h:=zrh ⟨⟨sx1⟩⟩ ex1 par1 (Ex.Sm.of _ (by kernel_rfl)) 14
 rw [e] at h
 exact h
theorem sn3:CallsD Gs prog 17 [.one (cS ⟨⟨[108,111,111,107,40,103,114,105,100,44,32,104,111,117,114,41,32,42,32,51,32,34,107,87,104,34]⟩⟩),.one (cB false),.agg [cI 1,cI 0,cI 0,cI 0,cI 0,cI 0]] (.one (cB true)):=by
 have e:isF (ofF ex6 vs15 ms15) false ⟨1,0,0,0,0,0⟩=true:=by kernel_rfl
 have h:=cIs ⟨⟨sx6⟩⟩ ex6 par6 (Ex.Sm.of _ (by kernel_rfl)) false ⟨1,0,0,0,0,0⟩
 rw [e] at h
 exact h
theorem sn4:CallsD Gs prog 18 [.one (cS ⟨⟨[108,111,111,107,40,103,114,105,100,44,32,109,97,115,115,41]⟩⟩),.one (cI 14)] (.one (cB true)):=by
 have e:zmt (ofF ex2 vs15 ms15) 14=true:=by kernel_rfl
 have h:=zrh ⟨⟨sx2⟩⟩ ex2 par2 (Ex.Sm.of _ (by kernel_rfl)) 14
 rw [e] at h
 exact h
theorem sn5:CallsD Gs prog 18 [.one (cS ⟨⟨[108,111,111,107,40,103,114,105,100,44,32,109,97,115,115,32,60,32,109,97,115,115,41]⟩⟩),.one (cI 13)] (.one (cB true)):=by
 have e:zmt (ofF ex7 vs15 ms15) 13=true:=by kernel_rfl
 have h:=zrh ⟨⟨sx7⟩⟩ ex7 par7 (Ex.Sm.of _ (by kernel_rfl)) 13
 rw [e] at h
 exact h
theorem sn6:CallsD Gs prog 18 [.one (cS ⟨⟨[108,111,111,107,40,109,97,115,115,44,32,104,111,117,114,41]⟩⟩),.one (cI 11)] (.one (cB true)):=by
 have e:zmt (ofF ex3 vs15 ms15) 11=true:=by kernel_rfl
 have h:=zrh ⟨⟨sx3⟩⟩ ex3 par3 (Ex.Sm.of _ (by kernel_rfl)) 11
 rw [e] at h
 exact h
theorem sn7:CallsD Gs prog 17 [.one (cS ⟨⟨[105,102,32,40,109,97,115,115,32,60,32,49,32,34,116,34,41,32,116,104,101,110,32,119,97,121,32,101,108,115,101,32,53,32,34,109,34]⟩⟩),.one (cB false),.agg [cI 0,cI 1,cI 0,cI 0,cI 0,cI 0]] (.one (cB true)):=by
 have e:isF (ofF ex8 vs15 ms15) false ⟨0,1,0,0,0,0⟩=true:=by kernel_rfl
 have h:=cIs ⟨⟨sx8⟩⟩ ex8 par8 (Ex.Sm.of _ (by kernel_rfl)) false ⟨0,1,0,0,0,0⟩
 rw [e] at h
 exact h
theorem sn8:CallsD Gs prog 18 [.one (cS ⟨⟨[105,102,32,109,97,115,115,32,116,104,101,110,32,119,97,121,32,101,108,115,101,32,119,97,121]⟩⟩),.one (cI 13)] (.one (cB true)):=by
 have e:zmt (ofF ex4 vs15 ms15) 13=true:=by kernel_rfl
 have h:=zrh ⟨⟨sx4⟩⟩ ex4 par4 (Ex.Sm.of _ (by kernel_rfl)) 13
 rw [e] at h
 exact h
theorem sn9:CallsD Gs prog 18 [.one (cS ⟨⟨[40,109,97,115,115,32,60,32,119,97,121,41,32,97,110,100,32,104,111,117,114]⟩⟩),.one (cI 14)] (.one (cB true)):=by
 have e:zmt (ofF ex9 vs15 ms15) 14=true:=by kernel_rfl
 have h:=zrh ⟨⟨sx9⟩⟩ ex9 par9 (Ex.Sm.of _ (by kernel_rfl)) 14
 rw [e] at h
 exact h
theorem yop:CallsD Gs prog 7 [] (.one (cB true)):=by
 refine CallsD.run [] Go.Proofs.Tryz.func7 rfl rfl rfl ?_;simp only [Go.Proofs.Tryz.f7];refine hgR ?_
 repeat' ((first | refine hfk ?_ ?_<;>intros | refine hik ?_ | with_reducible first | refine za3 (sn0) ?_ | refine za0 (sn0) ?_ | refine za3 (sn1) ?_ | refine za0 (sn1) ?_ | refine za3 (sn2) ?_ | refine za0 (sn2) ?_ | refine za3 (sn3) ?_ | refine za0 (sn3) ?_ | refine za3 (sn4) ?_ | refine za0 (sn4) ?_ | refine za3 (sn5) ?_ | refine za0 (sn5) ?_ | refine za3 (sn6) ?_ | refine za0 (sn6) ?_ | refine za3 (sn7) ?_ | refine za0 (sn7) ?_ | refine za3 (sn8) ?_ | refine za0 (sn8) ?_ | refine za3 (sn9) ?_ | refine za0 (sn9) ?_)<;>refine hgS ?_)
 all_goals (refine RLe.ofEq ?_;conv=>simp only [Bool.and_true,Bool.true_and,Bool.and_false,Bool.false_and,Bool.or_true,Bool.true_or,Bool.or_false,Bool.false_or,Bool.not_true,Bool.not_false,decide_true,decide_false,not_true_eq_false,not_false_eq_true,za2,if_true,if_false,Bool.and_self,Bool.or_self,cond_true,cond_false,List.length_map,ne_eq,Int.reduceEq,Int.reduceLT,Int.reduceLE, *]);first | exact trivial | rfl
end Go.Hp.T

namespace Go.Hp.T
open Go Go.RowKit Go.Slot Go.Hp Go.Slot.T
open Go.Proofs.Tryz (prog)
set_option maxRecDepth 10000
set_option maxHeartbeats 4000000
theorem zzf {t:Ty} (h:okTy t) (ht:t.t=true):t=⟨true,Dm.zero⟩:=by
 cases t with
 | mk b d=>
  have h1:b=true:=ht
  have h2:d=Dm.zero:=h.2 ht
  rw [h1,h2]
theorem zx1 {p:Prop} [Decidable p]:decide (¬p) = !decide p:=by by_cases h:p<;>simp [h]
theorem z8e (vs:List Vr) (ms:List Tb) (x:Ex) (ts:List Ty) (hx:zd5 x=true) (h3:x.op≠3) (hl:ts.length=x.args.length) (hok:∀ t∈ts,okTy t) :
 zim x.op x.unit x.name ts vs ms=bif decide ((x.args.length:Int)=0) then znf (vs.map fun v=>(v.name,v.d)) x else zjw (ms.map fun t=>(t.name,tval t)) x.op x.name ts:=by
 have hn:∀ o:Int,x.op=o->zd5 x=zd5 (.mk o x.n x.unit x.name x.args):=fun o h=>by cases x;subst h;rfl
 by_cases h0:x.op=0
 · have hz:=hx
   unfold zd5 at hz
   rw [h0,decide_eq_true rfl,cond_true] at hz
   simp only [Bool.and_eq_true,decide_eq_true_eq] at hz
   rw [decide_eq_true hz.2,cond_true]
   unfold znf
   rw [h0]
   rfl
 by_cases h1:x.op=1
 · rw [yac hx h1]
   unfold znf
   rw [h1]
   show (bif decide (idxF (fun v:Vr=>seq v.name x.name) vs<0) then (Ty.zero,(11:Int)) else (⟨false,(vs.getD (idxF (fun v:Vr=>seq v.name x.name) vs).toNat default).d⟩,0))=(match zbc (vs.map fun v=>(v.name,v.d)) x.name with | none=>(Ty.zero,11) | some d=>(⟨false,d⟩,0))
   rw [zkb Vr.name Vr.d]
   cases decide (idxF (fun v:Vr=>seq v.name x.name) vs<0)<;>rfl
 have hne:=zj3 hx h0 h1
 rw [decide_eq_false (show ¬(x.args.length:Int)=0 by omega),cond_false]
 by_cases h2:x.op=2
 · rw [h2]
   show (bif decide (idxF (fun t:Tb=>seq t.name x.name) ms<0) then (Ty.zero,(11:Int)) else bif (ts.getD 0 default).t then (Ty.zero,13) else bif decide (¬(ts.getD 0 default).d=Dm.zero) then (Ty.zero,14) else (⟨false,dmO (zaz (ms.getD (idxF (fun t:Tb=>seq t.name x.name) ms).toNat default).unit).1⟩,0)) =
    (match zbc (ms.map fun t=>(t.name,tval t)) x.name with | none=>(Ty.zero,11) | some d=>bif (ts.getD 0 default).t then (Ty.zero,13) else bif !decide ((ts.getD 0 default).d=Dm.zero) then (Ty.zero,14) else (⟨false,d⟩,0))
   rw [zkb Tb.name tval,zx1]
   cases decide (idxF (fun t:Tb=>seq t.name x.name) ms<0)<;>rfl
 have hlen:=hx
 unfold zd5 at hlen
 rw [decide_eq_false h0,decide_eq_false h1,decide_eq_false h2,decide_eq_false h3,cond_false] at hlen
 cases hb:(decide (¬x.n=0)||decide (¬x.unit.size=0)) with
 | true=>rw [hb] at hlen;cases hlen
 | false=>
 rw [hb] at hlen
 simp only [cond_false] at hlen
 by_cases h4:x.op=4
 · rw [h4] at hlen ⊢
   have hl1:x.args.length=1:=by
    have:(decide (x.name.size=0)&&decide ((x.args.length:Int)=1))=true:=hlen
    simp only [Bool.and_eq_true,decide_eq_true_eq] at this
    omega
   obtain ⟨t0,rfl⟩:∃ t0,ts=[t0]:=by
    match ts,(show ts.length=1 by omega) with
    | [a],_=>exact ⟨a,rfl⟩
   show (bif !t0.t then (Ty.zero,(13:Int)) else (t0,0))=(bif (!t0.t||false) then (Ty.zero,13) else (⟨true,Dm.zero⟩,0))
   rw [Bool.or_false]
   cases ht:t0.t with
   | false=>rfl
   | true=>rw [zzf (hok t0 (by simp)) ht]
 by_cases h5:x.op=5
 · rw [h5]
   show (bif !(ts.getD 0 default).t then (Ty.zero,(13:Int)) else bif decide (¬zia (ts.getD 1 default) (ts.getD 2 default)=0) then (Ty.zero,zia (ts.getD 1 default) (ts.getD 2 default)) else (ts.getD 1 default,0))=(bif !(ts.getD 0 default).t then (Ty.zero,13) else zhu (ts.getD 1 default) (ts.getD 2 default) (ts.getD 1 default))
   rw [zlz]
 have alike:zim x.op x.unit x.name ts vs ms=(bif decide (¬zia (ts.getD 0 default) (ts.getD 1 default)=0) then (Ty.zero,zia (ts.getD 0 default) (ts.getD 1 default)) else (ts.getD 0 default,0))->zjw (ms.map fun t=>(t.name,tval t)) x.op x.name ts=zhu (ts.getD 0 default) (ts.getD 1 default) (ts.getD 0 default)->zim x.op x.unit x.name ts vs ms=zjw (ms.map fun t=>(t.name,tval t)) x.op x.name ts:=fun a b=>by rw [a,b,zlz]
 have alike2:zim x.op x.unit x.name ts vs ms=(bif decide (¬zia (ts.getD 0 default) (ts.getD 1 default)=0) then (Ty.zero,zia (ts.getD 0 default) (ts.getD 1 default)) else (⟨true,Dm.zero⟩,0))->zjw (ms.map fun t=>(t.name,tval t)) x.op x.name ts=zhu (ts.getD 0 default) (ts.getD 1 default) ⟨true,Dm.zero⟩->zim x.op x.unit x.name ts vs ms=zjw (ms.map fun t=>(t.name,tval t)) x.op x.name ts:=fun a b=>by rw [a,b,zlz]
 by_cases h6:x.op=6
 · rw [h6] at alike ⊢;exact alike rfl rfl
 by_cases h7:x.op=7
 · rw [h7] at alike ⊢;exact alike rfl rfl
 by_cases h8:x.op=8
 · rw [h8]
   show (bif (ts.getD 0 default).t||(ts.getD 1 default).t then (Ty.zero,(13:Int)) else bif decide (¬(dMul (ts.getD 0 default).d (ts.getD 1 default).d).2=0) then (Ty.zero,14) else (⟨false,(dMul (ts.getD 0 default).d (ts.getD 1 default).d).1⟩,0))=(bif (ts.getD 0 default).t||(ts.getD 1 default).t then (Ty.zero,13) else bif !decide ((dMul (ts.getD 0 default).d (ts.getD 1 default).d).2=0) then (Ty.zero,14) else (⟨false,(dMul (ts.getD 0 default).d (ts.getD 1 default).d).1⟩,0))
   rw [zx1]
 by_cases h9:x.op=9
 · rw [h9]
   show (bif (ts.getD 0 default).t||(ts.getD 1 default).t then (Ty.zero,(13:Int)) else bif decide (¬(dMul (ts.getD 0 default).d (ts.getD 1 default).d.neg).2=0) then (Ty.zero,14) else (⟨false,(dMul (ts.getD 0 default).d (ts.getD 1 default).d.neg).1⟩,0))=(bif (ts.getD 0 default).t||(ts.getD 1 default).t then (Ty.zero,13) else bif !decide ((dDiv (ts.getD 0 default).d (ts.getD 1 default).d).2=0) then (Ty.zero,14) else (⟨false,(dDiv (ts.getD 0 default).d (ts.getD 1 default).d).1⟩,0))
   rw [zx1,yc4]
 by_cases h10:x.op=10
 · rw [h10] at alike ⊢;exact alike rfl rfl
 by_cases h11:x.op=11
 · rw [h11] at alike ⊢;exact alike rfl rfl
 by_cases h12:x.op=12
 · rw [h12] at alike2 ⊢;exact alike2 rfl rfl
 by_cases h13:x.op=13
 · rw [h13] at alike2 ⊢;exact alike2 rfl rfl
 have two:x.op=14∨x.op=15:=by
  rw [decide_eq_false h4,decide_eq_false h5,decide_eq_false h10,decide_eq_false h11] at hlen
  unfold isOp at hlen
  rw [decide_eq_false h6,decide_eq_false h7,decide_eq_false h8,decide_eq_false h9,decide_eq_false h12,decide_eq_false h13] at hlen
  simp at hlen
  omega
 have hl2:x.args.length=2:=by
  rw [decide_eq_false h4,decide_eq_false h5,decide_eq_false h10,decide_eq_false h11] at hlen
  simp at hlen
  omega
 obtain ⟨t0,t1,rfl⟩:∃ t0 t1,ts=[t0,t1]:=by
  match ts,(show ts.length=2 by omega) with
  | [a,b],_=>exact ⟨a,b,rfl⟩
 have fin:(bif !t0.t||!t1.t then (Ty.zero,(13:Int)) else (t0,0))=(bif (!t0.t||(!t1.t||false)) then (Ty.zero,13) else (⟨true,Dm.zero⟩,0)):=by
  rw [Bool.or_false]
  cases ht:t0.t with
  | false=>rfl
  | true=>
   cases t1.t with
   | false=>rfl
   | true=>rw [zzf (hok t0 (by simp)) ht]
 rcases two with h | h
 · rw [h];exact fin
 · rw [h];exact fin
theorem yoa (x:Ex) (vs:List Vr) (ms:List Tb) (hx:x.Sm) (hv:vs.length<=1073741824) (hm:ms.length<=1073741824) (hvn:∀ v∈vs,v.name.size<=1073741824) (hms:∀ t∈ms,t.Sm) :
 CallsD Gs prog 10 [.agg (exC x),.one (.sl 7 (vs.map Vr.C)),.one (.sl 3 (ms.map Tb.C))] (tyR (ofF x vs ms)):=by
 have c1:=z7m (Γ:=Gs) x hx
 have c2:=yal (Γ:=Gs) x hx
 have c3:=ydb (Γ:=Gs) vs ms hv hm hvn hms
 rw [z3b] at c1
 cases he:zh4 x with
 | false=>
  have e:ofF x vs ms=(Ty.zero,2):=by unfold ofF;rw [he];rfl
  rw [e]
  rw [he] at c1
  refine CallsD.run [] Go.Proofs.Tryz.func10 rfl rfl rfl ?_;simp only [Go.Proofs.Tryz.f10];refine hgR ?_
  repeat' ((first | refine hfk ?_ ?_<;>intros | refine hik ?_ | with_reducible first | refine za3 (c1) ?_ | refine za0 (c1) ?_ | refine za3 (c2) ?_ | refine za0 (c2) ?_)<;>refine hgS ?_)
  all_goals exact RLe.ofEq rfl
 | true=>
  rw [he] at c1
  cases hc:x.zci with
  | true=>
   have e:ofF x vs ms=(Ty.zero,2):=by unfold ofF;rw [he,hc];rfl
   rw [e]
   rw [hc] at c2
   refine CallsD.run [] Go.Proofs.Tryz.func10 rfl rfl rfl ?_;simp only [Go.Proofs.Tryz.f10];refine hgR ?_
   repeat' ((first | refine hfk ?_ ?_<;>intros | refine hik ?_ | with_reducible first | refine za3 (c1) ?_ | refine za0 (c1) ?_ | refine za3 (c2) ?_ | refine za0 (c2) ?_)<;>refine hgS ?_)
   all_goals exact RLe.ofEq rfl
  | false=>
   rw [hc] at c2
   cases hr:rR15 vs ms with
   | false=>
    have e:ofF x vs ms=(Ty.zero,1):=by
     unfold ofF
     rw [he,hc]
     cases hf:zh7 vs ms with
     | none=>rfl
     | some p=>rw [z0d (z1u hf).1] at hr;cases hr
    rw [e]
    rw [hr] at c3
    refine CallsD.run [] Go.Proofs.Tryz.func10 rfl rfl rfl ?_;simp only [Go.Proofs.Tryz.f10];refine hgR ?_
    repeat' ((first | refine hfk ?_ ?_<;>intros | refine hik ?_ | with_reducible first | refine za3 (c1) ?_ | refine za0 (c1) ?_ | refine za3 (c2) ?_ | refine za0 (c2) ?_ | refine za3 (c3) ?_ | refine za0 (c3) ?_)<;>refine hgS ?_)
    all_goals exact RLe.ofEq rfl
   | true=>
    have hR:=z1x hr
    have hsh:x.shaped=true:=by unfold zh4 at he;rw [Bool.and_eq_true] at he;exact he.2
    have e:ofF x vs ms=x.ty (vs.map fun v=>(v.name,v.d)) (ms.map fun t=>(t.name,tval t)):=yk0 (by rw [he,hc];rfl) hR
    have hV:∀ s d,zbc (vs.map fun v=>(v.name,v.d)) s=some d->zaw d=true:=fun s d h=>by
     rw [zkb Vr.name Vr.d] at h
     cases hk:decide (idxF (fun v:Vr=>seq v.name s) vs<0) with
     | true=>rw [hk] at h;cases h
     | false=>
      rw [hk,cond_false] at h
      have hk2:=of_decide_eq_false hk
      have hlt:=zpm (fun v:Vr=>seq v.name s) vs
      have:=hR.v _ (zal (show (idxF (fun v:Vr=>seq v.name s) vs).toNat<vs.length by omega))
      simp only [Bool.or_eq_false_iff,Bool.not_eq_false'] at this
      rw [<-Option.some.inj h];exact this.2
    have hT:∀ s d,zbc (ms.map fun t=>(t.name,tval t)) s=some d->zaw d=true:=fun s d h=>by
     rw [zkb Tb.name tval] at h
     cases hk:decide (idxF (fun t:Tb=>seq t.name s) ms<0) with
     | true=>rw [hk] at h;cases h
     | false=>
      rw [hk,cond_false] at h
      have hk2:=of_decide_eq_false hk
      have hlt:=zpm (fun t:Tb=>seq t.name s) ms
      have:=hR.t _ (zal (show (idxF (fun t:Tb=>seq t.name s) ms).toNat<ms.length by omega))
      unfold tbad at this
      simp only [Bool.or_eq_false_iff,decide_eq_false_iff_not,Decidable.not_not] at this
      rw [<-Option.some.inj h];exact zqu this.1.1.2
    have c4:=ya2 (Γ:=Gs) (vs.map fun v=>(v.name,v.d)) (ms.map fun t=>(t.name,tval t)) vs ms hv hm hms (fun x ts a b c d=>z8e vs ms x ts a b c d) (ynv _ _ hV hT) x hx hsh hc
    rw [<-e] at c4
    rw [hr] at c3
    generalize ofF x vs ms=q at c4 ⊢
    clear e hV hT hR hsh hms hvn
    refine CallsD.run [] Go.Proofs.Tryz.func10 rfl rfl rfl ?_;simp only [Go.Proofs.Tryz.f10];refine hgR ?_
    repeat' ((first | refine hfk ?_ ?_<;>intros | refine hik ?_ | with_reducible first | refine za3 (c1) ?_ | refine za0 (c1) ?_ | refine za3 (c2) ?_ | refine za0 (c2) ?_ | refine za3 (c3) ?_ | refine za0 (c3) ?_ | refine za3 (c4) ?_ | refine za0 (c4) ?_)<;>refine hgS ?_)
    all_goals exact RLe.ofEq rfl
theorem ylv (x:Ex) (vs:List Vr) (ms:List Tb) (hx:x.Sm) (hv:vs.length<=1073741824) (hm:ms.length<=1073741824) (hvn:∀ v∈vs,v.name.size<=1073741824) (hms:∀ t∈ms,t.Sm) :
 CallsD Gs prog 3 [.agg (exC x),.one (.sl 7 (vs.map Vr.C)),.one (.sl 3 (ms.map Tb.C))] (.one (cB true)):=by
 have s1:=yop
 have f1:=ymd (Γ:=Gs) x hx vs ms hv hm
 have o1:=zy4 (Γ:=Gs) x vs ms hx hv hm hvn hms
 have o2:=yoa x vs ms hx hv hm hvn hms
 generalize zwq x vs ms=b1 at f1
 generalize ofF x vs ms=q at o1 o2
 obtain ⟨qt,qe⟩:=q
 clear hms hvn
 refine CallsD.run [] Go.Proofs.Tryz.func3 rfl rfl rfl ?_;simp only [Go.Proofs.Tryz.f3];refine hgR ?_
 repeat' ((first | refine hfk ?_ ?_<;>intros | refine hik ?_ | with_reducible first | refine za3 (s1) ?_ | refine za0 (s1) ?_ | refine za3 (f1) ?_ | refine za0 (f1) ?_ | refine za3 (o1) ?_ | refine za0 (o1) ?_ | refine za3 (o2) ?_ | refine za0 (o2) ?_)<;>refine hgS ?_)
 all_goals first
  | exact RLe.ofEq rfl
  | (refine RLe.ofEq ?_;simp_all;done)
  | (exfalso;simp_all;done)
  | trace_state
end Go.Hp.T
