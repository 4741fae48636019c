/- The proof, part Q39: Qk, Gp, Gq, St, Su, Sl, Sv, Vw. -/
import Derived.Test.YtmegdbbbllffkaaGreatQ38
import Derived.Test.YtmegdbbbllffkaaGreatQ33
import Derived.Test.YtmegdbbbllffkaaGreatQ34
import Derived.Test.YtmegdbbbllffkaaGreatQ37
import Derived.Test.YtmegdbbbllffkaaGreatQ12
import Derived.Test.YtmegdbbbllffkaaGreatQ13
import Derived.Test.YtmegdbbbllffkaaGreatRows
import Derived.JoinedCond
import Derived.Carry
import Derived.ProofKit
namespace Go.Hp.T
open Go Go.RowKit Go.Slot Go.Hp
set_option maxRecDepth 10000
def tbad (V:List (ByteArray×Dm)) (t:Tb):Bool:=(ycr V t.name).isSome||decide (¬(zth t.unit).2=0)||!zi4 (fun s=>(zth s).2) t||isWord t.name
section
variable {α:Type} {bad:α->Bool} {nm:α->ByteArray} {vl:α->Dm}
theorem x68 (s:ByteArray):∀ l:List α,(∀ v∈l,seq s (nm v)=false)->ycr (l.map fun v=>(nm v,vl v)) s=none
 | [],_=>rfl
 | v::l,h=>by
  rw [List.map_cons,ycr,h v (by simp),cond_false];exact x68 s l (fun w hw=>h w (by simp [hw]))
theorem z6k {s:ByteArray}:∀{l:List α},ycr (l.map fun v=>(nm v,vl v)) s=none->∀ v∈l,seq s (nm v)=false
 | [],_,v,hv=>by cases hv
 | w::l,h,v,hv=>by
  rw [List.map_cons,ycr] at h
  cases hs:seq s (nm w) with
  | true=>rw [hs] at h;cases h
  | false=>
   rw [hs,cond_false] at h
   rcases List.mem_cons.1 hv with rfl | hv
   . exact hs
   . exact z6k h v hv
end
structure xn9 (vs:List Vr) (ms:List Tb):Prop where
 v:∀ v∈vs,(!isName v.name||isWord v.name||!zmf v.d)=false
 vp:vs.Pairwise (fun a b=>seq b.name a.name=false)
 t:∀ t∈ms,tbad (vs.map fun v=>(v.name,v.d)) t=false
 tp:ms.Pairwise (fun a b=>seq b.name a.name=false)
theorem w6e {vs vs':List Vr} {t:Tb} (hsub:∀ v∈vs',v∈vs) (h:tbad (vs.map fun v=>(v.name,v.d)) t=false):tbad (vs'.map fun v=>(v.name,v.d)) t=false:=by
 unfold tbad at h ⊢;simp only [Bool.or_eq_false_iff] at h ⊢;refine ⟨⟨⟨?_,h.1.1.2⟩,h.1.2⟩,h.2⟩
 have h1:ycr (vs.map fun v=>(v.name,v.d)) t.name=none:=by
  cases hl:ycr (vs.map fun v=>(v.name,v.d)) t.name with
  | none=>rfl
  | some d=>rw [hl] at h;exact absurd h.1.1.1 (by simp)
 rw [x68 t.name vs' (fun v hv=>z6k h1 v (hsub v hv))];rfl
theorem xn9.less {vs vs':List Vr} {ms ms':List Tb} (h:xn9 vs ms) (hv:vs'.Sublist vs) (ht:ms'.Sublist ms):xn9 vs' ms':=
 ⟨fun v hv'=>h.v v (hv.subset hv'),h.vp.sublist hv,fun t ht'=>w6e (fun _ hv'=>hv.subset hv') (h.t t (ht.subset ht')),h.tp.sublist ht⟩
theorem w5e {x:Ex} {bs:List Bd} {ms:List Tb} {V:Vq} {T:Vt} (h1:xub x=true) (h2:x.xi4=false) (h3:entF bs ms=some (V,T)):valF x bs ms=x.cal V T:=by
 unfold valF;rw [h1,h2,h3];rfl
def FitV (k:Ty) (r:Rs×Int):Prop:=(r.2=0/\r.1.t=k.t/\r.1.v.isSome = !k.t)\/((r.2=15\/r.2=4)/\r.1=Rs.zero)
theorem FitV.ok {k:Ty} {r:Rs×Int} (h:FitV k r) (he:r.2=0):r.1.t=k.t/\r.1.v.isSome = !k.t:=by
 rcases h with h | h
 . exact h.2
 . rcases h.1 with h | h<;>rw [he] at h<;>cases h
theorem xpi {α:Type} [Inhabited α] {l:List α} {x:α} (h:x∈l):∃ i,i<l.length/\l.getD i default=x:=by
 obtain ⟨i,hi,rfl⟩:=List.getElem_of_mem h;exact ⟨i,hi,by simp [hi]⟩
end Go.Hp.T
namespace Go.Hp.T
open Go Go.RowKit Go.Slot Go.Hp Go.Slot.T
set_option maxRecDepth 10000
end Go.Hp.T
namespace Go.Hp.T
open Go Go.RowKit Go.Slot Go.Hp Go.Slot.T
set_option maxRecDepth 10000
set_option maxHeartbeats 4000000
def isPl (o:Int):Bool:=decide (o=0)||decide (o=1)||(decide (6<=o)&&decide (o<=11))
mutual
def Ex.pl (s:ByteArray):Ex->Int
 | .mk o _ _ nm l=>bif isPl o then (bif decide (o=1)&&seq nm s then 1 else 0)+Ex.plL s l else -1000000
def Ex.plL (s:ByteArray):List Ex->Int
 | []=>0
 | y::l=>Ex.pl s y+Ex.plL s l
end
theorem Ex.v0n (s:ByteArray) (x:Ex):x.pl s=bif isPl x.op then (bif decide (x.op=1)&&seq x.name s then 1 else 0)+Ex.plL s x.args else -1000000:=by cases x;rw [Ex.pl];rfl
mutual
def Ex.xhr:Ex->Bool
 | .mk o _ _ _ l=>isPl o&&Ex.w7s l
def Ex.w7s:List Ex->Bool
 | []=>true
 | y::l=>Ex.xhr y&&Ex.w7s l
end
theorem Ex.vwk:∀ l:List Ex,Ex.w7s l=l.all Ex.xhr
 | []=>by rw [Ex.w7s];rfl
 | y::l=>by rw [Ex.w7s,Ex.vwk l];rfl
theorem Ex.zr2 (x:Ex):x.xhr=(isPl x.op&&x.args.all Ex.xhr):=by cases x;rw [Ex.xhr,Ex.vwk];rfl
theorem vui {s:ByteArray}:∀{l:List Ex},(∀ y∈l,(y.pl s<=y.nd/\-1000000*(y.nd:Int)<=y.pl s)/\(y.xhr=true->0<=y.pl s)/\(y.xhr=false->y.pl s<=(y.nd:Int)-1000000))->
 (Ex.plL s l<=Ex.ndL l/\-1000000*(Ex.ndL l:Int)<=Ex.plL s l)/\(l.all Ex.xhr=true->0<=Ex.plL s l)/\(l.all Ex.xhr=false->Ex.plL s l<=(Ex.ndL l:Int)-1000000)
 | [],_=>⟨⟨by rw [Ex.plL,Ex.ndL];exact Int.le_refl _,by rw [Ex.plL,Ex.ndL];exact Int.le_refl _⟩,fun _=>by rw [Ex.plL];exact Int.le_refl _,fun h=>by cases h⟩
 | y::l,h=>by
  obtain ⟨⟨h1,h2⟩,h3,h4⟩:=h y List.mem_cons_self;obtain ⟨⟨g1,g2⟩,g3,g4⟩:=vui (fun z hz=>h z (List.mem_cons_of_mem _ hz));rw [Ex.plL,Ex.ndL,List.all_cons];refine ⟨⟨by omega,by omega⟩,fun h=>?_,fun h=>?_⟩
  . rw [Bool.and_eq_true] at h
    have:=h3 h.1;have:=g3 h.2
    omega
  . rw [Bool.and_eq_false_iff] at h
    rcases h with h | h
    . have:=h4 h;omega
    . have:=g4 h;omega
theorem wmg (s:ByteArray):∀ x:Ex,(x.pl s<=x.nd/\-1000000*(x.nd:Int)<=x.pl s)/\(x.xhr=true->0<=x.pl s)/\(x.xhr=false->x.pl s<=(x.nd:Int)-1000000):=by
 refine Ex.ind (fun x ih=>?_);obtain ⟨⟨h1,h2⟩,h3,h4⟩:=vui ih;rw [Ex.v0n,Ex.zr2,Ex.yuy]
 cases isPl x.op with
 | false=>exact ⟨⟨by show (-1000000:Int)<=_;omega,by show _<=(-1000000:Int);omega⟩,fun h=>by simp at h,fun _=>by show (-1000000:Int)<=_;omega⟩
 | true=>
  rw [cond_true,Bool.true_and]
  have hb:0<=(bif decide (x.op=1)&&seq x.name s then 1 else 0:Int)/\(bif decide (x.op=1)&&seq x.name s then 1 else 0:Int)<=1:=by
   cases decide (x.op=1)&&seq x.name s<;>simp
  exact ⟨⟨by omega,by omega⟩,fun h=>by have:=h3 h;omega,fun h=>by have:=h4 h;omega⟩
theorem znt {x:Ex} {s:ByteArray} (hnd:x.nd<=200) (h:0<=x.pl s):x.xhr=true:=by
 cases ha:x.xhr with
 | true=>rfl
 | false=>have:=(wmg s x).2.2 ha;omega
theorem xkf {V V' : Vq} {T : Vt} : ∀ x : Ex, (∀ s, 0 < x.pl s → ycr V s = ycr V' s) → x.xhr = true → x.cal V T = x.cal V' T := by
 refine Ex.ind (fun x ih h ha=>?_);rw [Ex.zr2,Bool.and_eq_true,List.all_eq_true] at ha
 have harg:∀ y∈x.args,y.cal V T=y.cal V' T:=fun y hy=>ih y hy (fun s hs=>h s (by
  rw [Ex.v0n,ha.1,cond_true]
  have hle:∀{l:List Ex},(∀ z∈l,z.xhr=true)->y∈l->y.pl s<=Ex.plL s l:=by
   intro l hl hm
   induction l with
   | nil=>cases hm
   | cons z l ihl=>
    rw [Ex.plL];have hz:=(wmg s z).2.1 (hl z List.mem_cons_self);have hL:0<=Ex.plL s l:=(vui (fun w _=>wmg s w)).2.1 (List.all_eq_true.2 (fun w hw=>hl w (List.mem_cons_of_mem _ hw)))
    rcases List.mem_cons.1 hm with rfl | hm
    . omega
    . have:=ihl (fun w hw=>hl w (List.mem_cons_of_mem _ hw)) hm
      omega
  have:=hle ha.2 hy
  have hb:0<=(bif decide (x.op=1)&&seq x.name s then 1 else 0:Int):=by cases decide (x.op=1)&&seq x.name s<;>simp
  omega)) (ha.2 y hy)
 have hm:x.args.map (Ex.cal V T)=x.args.map (Ex.cal V' T):=List.map_congr_left harg;rw [Ex.vwm,Ex.vwm V' T x,hm];by_cases h0:x.op=0
 . rw [decide_eq_true h0];rfl
 rw [decide_eq_false h0,cond_false,cond_false];by_cases h1:x.op=1
 . rw [decide_eq_true h1,cond_true,cond_true];unfold ztc
   rw [h x.name (by
    rw [Ex.v0n,ha.1,decide_eq_true h1,vw8];have hL:0<=Ex.plL x.name x.args:=(vui (fun w _=>wmg x.name w)).2.1 (List.all_eq_true.2 ha.2);show 0<(1:Int)+_
    omega)]
 . rw [decide_eq_false h1];rfl
def EndV (σ:ByteArray->Bool) (V:Vq) (Ie:Vi):Prop:=∀ s,ycr V s=(ycr Ie s).map fun v=>bif σ s then v.hi else v.lo
def endv (σ:Bool) (v:Iv):Rat:=bif σ then v.hi else v.lo
theorem v8e (ρ:ByteArray->Bool):∀ Ie:Vi,∃ W:Vq,EndV ρ W Ie
 | []=>⟨[],fun s=>rfl⟩
 | (nm,iv)::Ie=>by
  obtain ⟨W,hW⟩:=v8e ρ Ie;refine ⟨(nm,bif ρ nm then iv.hi else iv.lo)::W,fun s=>?_⟩;show (bif seq s nm then some (bif ρ nm then iv.hi else iv.lo) else ycr W s)=Option.map _ (bif seq s nm then some iv else ycr Ie s)
  cases hs:seq s nm with
  | true=>rw [xjh hs];rfl
  | false=>exact hW s
def Reach (Ie:Vi) (x:Ex) (q:Rat):Prop:=∃ σ:ByteArray->Bool,∀ V:Vq,EndV σ V Ie->x.cal V []=(⟨false,false,some q⟩,0)
theorem wg7 {o:Int} (ho:6<=o/\o<=11) {a b v:Iv} (h:numH o a b=.inr (.num v)):∀ e:Bool,∃ p q:Bool,ariV o ⟨false,false,some (endv p a)⟩ ⟨false,false,some (endv q b)⟩=(⟨false,false,some (endv e v)⟩,0):=by
 have four:∀(f:Rat->Rat->Rat) (w:Iv),w=Iv.round (f a.lo b.lo) (f a.lo b.hi) (f a.hi b.lo) (f a.hi b.hi)->∀ e:Bool,∃ p q:Bool,endv e w=f (endv p a) (endv q b):=by
  rintro f w rfl e
  cases e with
  | false=>
   show ∃ p q:Bool,mn4 _ _ _ _=_
   rcases xv8 (f a.lo b.lo) (f a.lo b.hi) (f a.hi b.lo) (f a.hi b.hi) with h | h | h | h
   . exact ⟨false,false,h⟩
   . exact ⟨false,true,h⟩
   . exact ⟨true,false,h⟩
   . exact ⟨true,true,h⟩
  | true=>
   show ∃ p q:Bool,mx4 _ _ _ _=_
   rcases y66 (f a.lo b.lo) (f a.lo b.hi) (f a.hi b.lo) (f a.hi b.hi) with h | h | h | h
   . exact ⟨false,false,h⟩
   . exact ⟨false,true,h⟩
   . exact ⟨true,false,h⟩
   . exact ⟨true,true,h⟩
 intro e;unfold numH at h;unfold ariV;simp only [Bool.or_self,cond_false]
 have:o=6\/o=7\/o=8\/o=9\/o=10\/o=11:=by omega
 rcases this with rfl | rfl | rfl | rfl | rfl | rfl<;>simp only [Int.reduceEq,decide_true,decide_false,cond_true,cond_false] at h ⊢
 . cases h;exact ⟨e,e,by cases e<;>rfl⟩
 . cases h;refine ⟨e,!e,?_⟩
   cases e
   . show numV (some (a.lo-b.hi)) 0=(⟨false,false,some (a.lo + -b.hi)⟩,0);rw [Rat.sub_eq_add_neg];rfl
   . show numV (some (a.hi-b.lo)) 0=(⟨false,false,some (a.hi + -b.lo)⟩,0);rw [Rat.sub_eq_add_neg];rfl
 . cases h;obtain ⟨p,q,h⟩:=four (· * ·) _ rfl e;have h:endv e (a.mul b)=_:=h;exact ⟨p,q,by rw [h];rfl⟩
 . cases h0:b.has 0 with
   | true=>rw [h0,cond_true] at h;cases h
   | false=>
    rw [h0,cond_false] at h;cases h;obtain ⟨n1,n2⟩:=vk8 h0;have ei:b.inv=⟨1 / b.hi,1 / b.lo,Iv.xap h0⟩:=dif_pos h0
    have e4:a.mul b.inv=Iv.round (a.lo / b.hi) (a.lo / b.lo) (a.hi / b.hi) (a.hi / b.lo):=by
     rw [ei];show Iv.round (a.lo*(1 / b.hi)) (a.lo*(1 / b.lo)) (a.hi*(1 / b.hi)) (a.hi*(1 / b.lo))=_
     have e5:∀ x y:Rat,x*(1 / y)=x / y:=fun x y=>by rw [Rat.div_def 1,Rat.one_mul,<-Rat.div_def]
     rw [e5,e5,e5,e5]
    have hd:∀ x y:Rat,y≠0->numV (divO (some x) (some y)) (divE (some x) (some y))=(⟨false,false,some (x / y)⟩,0):=fun x y hy=>by
     rw [show divO (some x) (some y)=some (x / y) by simp only [divO,hy,decide_false,cond_false],show divE (some x) (some y)=0 by simp only [divE,hy,decide_false,cond_false]];rfl
    rw [e4]
    have hq:∀ q,endv q b≠0:=fun q=>by cases q<;>assumption
    have key:∃ p q:Bool,endv e (Iv.round (a.lo / b.hi) (a.lo / b.lo) (a.hi / b.hi) (a.hi / b.lo))=endv p a / endv q b:=by
     cases e with
     | false=>
      show ∃ p q:Bool,mn4 _ _ _ _=_
      rcases xv8 (a.lo / b.hi) (a.lo / b.lo) (a.hi / b.hi) (a.hi / b.lo) with h | h | h | h
      . exact ⟨false,true,h⟩
      . exact ⟨false,false,h⟩
      . exact ⟨true,true,h⟩
      . exact ⟨true,false,h⟩
     | true=>
      show ∃ p q:Bool,mx4 _ _ _ _=_
      rcases y66 (a.lo / b.hi) (a.lo / b.lo) (a.hi / b.hi) (a.hi / b.lo) with h | h | h | h
      . exact ⟨false,true,h⟩
      . exact ⟨false,false,h⟩
      . exact ⟨true,true,h⟩
      . exact ⟨true,false,h⟩
    obtain ⟨p,q,h⟩:=key;exact ⟨p,q,by rw [hd _ _ (hq q),h]⟩
 . cases h;exact ⟨e,e,by cases e<;>rfl⟩
 . cases h;exact ⟨e,e,by cases e<;>rfl⟩
theorem x8v {Ie:Vi}:∀ x:Ex,x.shaped=true->x.xhr=true->(∀ s,(ycr Ie s).isSome=true->x.pl s<=1)->∀ k,x.hul Ie []=.inr k->∃ v,k=.num v/\Reach Ie x v.lo/\Reach Ie x v.hi:=by
 refine Ex.ind (fun x ih hsh hpl hocc k h=>?_);rw [Ex.xg3,Bool.and_eq_true,List.all_eq_true] at hsh;obtain ⟨hnode,hargs⟩:=hsh;have hpl':=hpl;rw [Ex.zr2,Bool.and_eq_true,List.all_eq_true] at hpl';obtain ⟨hop,hpa⟩:=hpl'
 have hop':x.op=0\/x.op=1\/(6<=x.op/\x.op<=11):=by
  unfold isPl at hop;simp only [Bool.or_eq_true,Bool.and_eq_true,decide_eq_true_eq] at hop;omega
 rw [Ex.y5j] at h;by_cases h0:x.op=0
 . rw [decide_eq_true h0,cond_true] at h;unfold vlw at h
   have hc:∀ q,k=.num (Iv.pt q)->(∀ V:Vq,x.cal V []=(⟨false,false,some q⟩,0))->∃ v,k=.num v/\Reach Ie x v.lo/\Reach Ie x v.hi:=fun q hk hc=>⟨Iv.pt q,hk,⟨fun _=>false,fun V _=>hc V⟩,⟨fun _=>false,fun V _=>hc V⟩⟩
   rcases v4u x.unit with ⟨u,hu,hq⟩ | ⟨e,he,hu⟩
   . unfold facO at h;rw [hu] at h
     cases h;refine hc _ rfl (fun V=>?_);rw [Ex.vwm,decide_eq_true h0,cond_true];unfold v43 facO;rw [hu];rfl
   . rw [hu,show decide (¬e=0)=true from decide_eq_true he,cond_true] at h;cases h
 rw [decide_eq_false h0,cond_false] at h;by_cases h1:x.op=1
 . rw [decide_eq_true h1, cond_true] at h;unfold yy3 at h
   cases hl:ycr Ie x.name with
   | none=>rw [hl] at h;cases h
   | some v=>
    rw [hl] at h;cases h
    have hr:∀ e:Bool,Reach Ie x (endv e v):=fun e=>⟨fun _=>e,fun V hV=>by
     rw [Ex.vwm,decide_eq_false h0,decide_eq_true h1,cond_false,cond_true];unfold ztc;rw [hV x.name,hl];show numV (some (endv e v+((0:Int):Rat))) 0=_
     rw [show endv e v+((0:Int):Rat)=endv e v from Rat.add_zero _];rfl⟩
    exact ⟨v,rfl,hr false,hr true⟩
 rw [decide_eq_false h1,cond_false,decide_eq_false (show ¬x.op=5 by omega),cond_false] at h;obtain ⟨o1,o2,a1,a2,a3⟩:=xab hnode (by omega) h0 h1;have hl:=a3 (by omega) (by omega) (by omega);have e2:=vpm hl;have m0:=w4t (show 0<x.args.length by omega);have m1:=w4t (show 1<x.args.length by omega)
 have hsum:∀ s,x.pl s=(x.args.getD 0 default).pl s+(x.args.getD 1 default).pl s:=fun s=>by
  rw [Ex.v0n,hop,cond_true,decide_eq_false h1]
  have:Ex.plL s x.args=Ex.plL s [x.args.getD 0 default,x.args.getD 1 default]:=congrArg _ e2
  rw [this,Ex.plL,Ex.plL,Ex.plL];show (0:Int)+_=_;omega
 have p0:=fun s=>(wmg s (x.args.getD 0 default)).2.1 (hpa _ m0)
 have p1:=fun s=>(wmg s (x.args.getD 1 default)).2.1 (hpa _ m1)
 have i0:=ih _ m0 (hargs _ m0) (hpa _ m0) (fun s hs=>by have:=hocc s hs;have:=hsum s;have:=p1 s;omega);have i1:=ih _ m1 (hargs _ m1) (hpa _ m1) (fun s hs=>by have:=hocc s hs;have:=hsum s;have:=p0 s;omega)
 have c0:=fun V V'=>xkf (V:=V) (V':=V') (T:=[]) (x.args.getD 0 default)
 have c1:=fun V V'=>xkf (V:=V) (V':=V') (T:=[]) (x.args.getD 1 default)
 have q0:=hpa _ m0;have q1:=hpa _ m1
 have hmap:∀{β:Type} (f:Ex->β),x.args.map f=[f (x.args.getD 0 default),f (x.args.getD 1 default)]:=fun f=>(congrArg (List.map f) e2).trans rfl
 rw [hmap] at h
 have hcal:∀ V,x.cal V []=xem [] x.op x.name (seqV [(x.args.getD 0 default).cal V [],(x.args.getD 1 default).cal V []]):=fun V=>by
  rw [Ex.vwm,decide_eq_false h0,decide_eq_false h1,decide_eq_false (show ¬x.op=5 by omega),hmap];rfl
 generalize x.args.getD 0 default=y0 at *;generalize x.args.getD 1 default=y1 at *
 cases hy0:y0.hul Ie [] with
 | inl e=>rw [hy0,seqH] at h;cases h
 | inr k0 => cases hy1 : y1.hul Ie [] with
  | inl e=>rw [hy0,hy1,seqH,seqH] at h;cases h
  | inr k1=>
   rw [hy0,hy1,seqH,seqH,seqH] at h;obtain ⟨a,rfl,ra0,ra1⟩:=i0 k0 hy0;obtain ⟨b,rfl,rb0,rb1⟩:=i1 k1 hy1;have h:opH [] x.op x.name [.num a,.num b]=.inr k:=h;unfold opH at h
   have hlg:ze4 x.op=false:=by
    cases hq:ze4 x.op with
    | false=>rfl
    | true=>have:=v6i.1 hq;omega
   rw [decide_eq_false (show ¬x.op=2 by omega),hlg] at h;have h:numH x.op a b=.inr k:=h
   obtain ⟨v,rfl⟩:∃ v,k=.num v:=by
    unfold numH at h
    have:x.op=6\/x.op=7\/x.op=8\/x.op=9\/x.op=10\/x.op=11:=by omega
    rcases this with e | e | e | e | e | e<;>rw [e] at h<;>simp only [Int.reduceEq,decide_true,decide_false,cond_true,cond_false] at h
    all_goals first
     | (cases h;exact ⟨_,rfl⟩)
     | (cases hh:b.has 0<;>rw [hh] at h<;>cases h;exact ⟨_,rfl⟩)
   have ra:∀ e:Bool,Reach Ie y0 (endv e a):=fun e=>by cases e<;>assumption
   have rb:∀ e:Bool,Reach Ie y1 (endv e b):=fun e=>by cases e<;>assumption
   have hr:∀ e:Bool,Reach Ie x (endv e v):=fun e=>by
    obtain ⟨p,q,hpq⟩:=wg7 (by omega) h e;obtain ⟨σ,hσ⟩:=ra p;obtain ⟨τ,hτ⟩:=rb q;refine ⟨fun s=>bif decide (0<y0.pl s) then σ s else τ s,fun V hV=>?_⟩;obtain ⟨W0,hW0⟩:=v8e σ Ie;obtain ⟨W1,hW1⟩:=v8e τ Ie;have e0:y0.cal V []=y0.cal W0 []:=c0 V W0 (fun s hs=>by rw [hV s,hW0 s];simp only [decide_eq_true hs,cond_true]) q0
    have e1:y1.cal V []=y1.cal W1 []:=c1 V W1 (fun s hs=>by
     rw [hV s,hW1 s]
     cases hI:ycr Ie s with
     | none=>rfl
     | some w=>
      have:=hocc s (by rw [hI];rfl)
      have:=hsum s
      simp only [decide_eq_false (show ¬0<y0.pl s by omega),cond_false]) q1
    rw [hcal,e0,e1,hσ W0 hW0,hτ W1 hW1];show opV [] x.op x.name [⟨false,false,some (endv p a)⟩,⟨false,false,some (endv q b)⟩]=_;unfold opV;have hlg':(decide (x.op=4)||decide (x.op=14)||decide (x.op=15))=false:=hlg;rw [decide_eq_false (show ¬x.op=2 by omega),hlg'];exact hpq
   exact ⟨v,rfl,hr false,hr true⟩
end Go.Hp.T
namespace Go.Hp.T
open Go Go.RowKit Go.Slot Go.Hp Go.Slot.T
set_option maxRecDepth 10000
theorem xc3 {x:Ex} (h:xub x=true):x.shaped=true:=by unfold xub at h;rw [Bool.and_eq_true] at h;exact h.2
theorem zvu (x:Ex) (zs:List Zn) (ms:List Tb):((!xub x||x.xi4)=true/\hulF x zs ms=.inl 2)\/((xub x=true/\x.xi4=false)/\((entZ zs ms=none/\hulF x zs ms=.inl 1)\/∃ V T,entZ zs ms=some (V,T)/\hulF x zs ms=x.hul V T)):=by
 unfold hulF
 cases h1:xub x with
 | false=>exact .inl ⟨rfl,rfl⟩
 | true=>cases h2:x.xi4 with
  | true=>exact .inl ⟨rfl,rfl⟩
  | false=>
   refine .inr ⟨⟨rfl,rfl⟩,?_⟩
   cases h3:entZ zs ms with
   | none=>exact .inl ⟨rfl,rfl⟩
   | some p=>obtain ⟨V,T⟩:=p;exact .inr ⟨V,T,rfl,rfl⟩
theorem vdp {x:Ex} {zs:List Zn} {ms:List Tb} {k:Kn} (h:hulF x zs ms=.inr k):xub x=true/\x.xi4=false/\∃ V T,entZ zs ms=some (V,T)/\x.hul V T=.inr k:=by
 rcases zvu x zs ms with ⟨_,e⟩ | ⟨⟨h1,h2⟩,⟨_,e⟩ | ⟨V,T,h3,e⟩⟩
 . rw [e] at h;cases h
 . rw [e] at h;cases h
 . exact ⟨h1,h2,V,T,h3,by rw [<-e];exact h⟩
def endZ (σ:ByteArray->Bool) (z:Zn):Bd:=⟨z.name,bif σ z.name then z.s.high else z.s.low⟩
theorem zvd (σ:ByteArray->Bool) (s:ByteArray):∀ zs:List Zn,fnd Bd.name (zs.map (endZ σ)) s=(fnd Zn.name zs s).map (endZ σ)
 | []=>rfl
 | z::zs=>by
  rw [List.map_cons,yik,yik,zvd σ s zs];show (bif seq s z.name then _ else _)=_
  cases seq s z.name<;>rfl
theorem vsm {z:Zn} (h:z.s.ok) (σ:ByteArray->Bool):(endZ σ z).v.ok/\(endZ σ z).v.val=bif σ z.name then (ivOf z.s).hi else (ivOf z.s).lo:=by
 obtain ⟨nm,s⟩:=z;obtain ⟨v,rfl⟩:=x6c h;rw [xjv];unfold endZ
 cases σ nm with
 | true=>exact ⟨Fc.zaw _,Fc.w2h _⟩
 | false=>exact ⟨Fc.zaw _,Fc.w2h _⟩
theorem yu5 {x:Ex} {zs:List Zn} {V:Vi} {T:Vt} {q:Rat} (h1:xub x=true) (h2:x.xi4=false) (h3:entZ zs []=some (V,T)) (h:Reach V x q):∃ σ,valF x (zs.map (endZ σ)) []=(⟨false,false,some q⟩,0):=by
 obtain ⟨σ,h⟩:=h;obtain ⟨e1,e2,e3,e4,e5⟩:=y36 h3
 have hn:(zs.map (endZ σ)).map Bd.name=zs.map Zn.name:=by rw [List.map_map];rfl
 rw [<-hn] at e3
 obtain ⟨⟨V',T'⟩,h5⟩:=w1q (nm:=Bd.name) (ok:=fun b=>decide b.v.ok) (val:=fun b=>b.v.val) (tok:=tbOk) (bs:=zs.map (endZ σ)) (ms:=[]) (fun b hb=>by
  obtain ⟨z,hz,rfl⟩:=List.mem_map.1 hb
  exact decide_eq_true (vsm (of_decide_eq_true (e1 z hz)) σ).1) e2 e3
 obtain ⟨_,_,_,f4,f5⟩:=y36 h5
 have hT:T'=[]:=by
  have:=h5
  unfold entG at this
  cases h6:gE Bd.name (fun b=>decide b.v.ok) (fun b=>b.v.val) (fun _=>false) [] (zs.map (endZ σ)) with
  | none=>rw [h6] at this;cases this
  | some W=>rw [h6] at this;cases this;rfl
 subst hT;refine ⟨σ,?_⟩;rw [w5e h1 h2 h5];refine h V' (fun s=>?_);rw [f4,zvd,e4]
 cases hf:fnd Zn.name zs s with
 | none=>rfl
 | some z=>
  obtain ⟨hz,rfl⟩:=wud hf;exact congrArg some (vsm (of_decide_eq_true (e1 z hz)) σ).2
theorem xn0 {x:Ex} {zs:List Zn} {k:Kn} (h:hulF x zs []=.inr k) (hp:x.xhr=true) (hl:∀ z∈zs,x.pl z.name<=1):∃ v,k=.num v/\(∃ σ,valF x (zs.map (endZ σ)) []=(⟨false,false,some v.lo⟩,0))/\∃ σ,valF x (zs.map (endZ σ)) []=(⟨false,false,some v.hi⟩,0):=by
 obtain ⟨h1,h2,V,T,h3,h4⟩:=vdp h;obtain ⟨e1,e2,e3,e4,e5⟩:=y36 h3
 have hT:T=[]:=by
  have:=h3
  unfold entZ entG at this
  cases h6:gE Zn.name (fun b=>decide b.s.ok) (fun b=>ivOf b.s) (fun _=>false) [] zs with
  | none=>rw [h6] at this;cases this
  | some W=>rw [h6] at this;cases this;rfl
 subst hT
 obtain ⟨v,rfl,r1,r2⟩:=x8v (Ie:=V) x (xc3 h1) hp (fun s hs=>by
  rw [e4,Option.isSome_map,vu0] at hs;obtain ⟨z,hz,rfl⟩:=List.mem_map.1 hs
  exact hl z hz) k h4
 exact ⟨v,rfl,yu5 h1 h2 h3 r1,yu5 h1 h2 h3 r2⟩
end Go.Hp.T
namespace Go.Hp.T
open Go Go.RowKit Go.Slot Go.Hp Go.Slot.T
open Go.Proofs.Tryz (prog)
set_option maxRecDepth 10000
set_option maxHeartbeats 4000000
variable {Γ:List (Nat×List Cell)}
def genL {α:Type} (f:Nat->α):Nat->List α
 | 0=>[]
 | n+1=>genL f n++[f n]
theorem zqu {α:Type} (f:Nat->α):∀ n,(genL f n).length=n
 | 0=>rfl
 | n+1=>by rw [genL,List.length_append,zqu f n];rfl
theorem v5o {α:Type} {f:Nat->α} {b:α}:∀{n},b∈genL f n->∃ i,i<n/\b=f i
 | 0,h=>by cases h
 | n+1,h=>by
  rw [genL,List.mem_append,List.mem_singleton] at h
  rcases h with h | h
  . obtain ⟨i,hi,e⟩:=v5o h;exact ⟨i,by omega,e⟩
  . exact ⟨n,by omega,h⟩
theorem z6a {α β:Type} (g:α->β) (f:Nat->α):∀ n,(genL f n).map g=genL (fun i=>g (f i)) n
 | 0=>rfl
 | n+1=>by rw [genL,List.map_append,z6a g f n];rfl
theorem wbx {α:Type} [Inhabited α] (l:List α):genL (fun i=>l.getD i default) l.length=l:=by
 have h:∀ n,n<=l.length->genL (fun i=>l.getD i default) n=l.take n:=by
  intro n
  induction n with
  | zero=>intro _;rfl
  | succ n ih=>intro h;rw [genL,ih (by omega),z4f (by omega)]
 rw [h _ (Nat.le_refl _),List.take_length]
structure Zn.Sm (b:Zn):Prop where
 n:b.name.size<=1073741824
 s:b.s.sz<=1048576
def Dm.C (d:Dm):List Cell:=dmC d
theorem Dm.C_eq (d:Dm):d.C=dmC d:=rfl
attribute [go_sem] Dm.C_eq
structure Ar17 (x:Ex) (zs:List Zn) (ms:List Tb):Prop where
 x:x.Sm
 b:zs.length<=1048576
 m:ms.length<=1048576
 bs:∀ b∈zs,b.Sm
 ms:∀ t∈ms,t.Sm
def w9d (b:Zn):Bool:=decide ((b.name.size:Int)<=40)&&decide (b.s.sz<=4)
def wsk (x:Ex) (zs:List Zn) (ms:List Tb):Bool:=(zs.take 9).all w9d&&(wjp x [] ms&&decide ((zs.length:Int)<=8))
theorem vtj {x:Ex} {zs:List Zn} {ms:List Tb} (h:wsk x zs ms=true):(∀ b∈zs,b.s.sz<=4)/\zs.length<=8:=by
 unfold wsk at h;simp only [Bool.and_eq_true,decide_eq_true_eq] at h
 have hl:zs.length<=8:=by omega
 refine ⟨fun b hb=>?_,hl⟩
 have:=h.1
 rw [List.take_of_length_le (by omega),List.all_eq_true] at this
 have:=this b hb
 unfold w9d at this;simp only [Bool.and_eq_true,decide_eq_true_eq] at this;exact this.2
theorem CallsD.argN {f:FuncId} {args args':List AV} {res:AV} (h:CallsD Γ prog f args' res) (hle:LeS args args'):CallsD Γ prog f args res:=⟨h.1,fun M w vs hM hg hr=>h.2 M w vs hM hg (RdBL.le hle hr)⟩
theorem yin (x:Ex) (zs:List Zn) (ms:List Tb) (h:Ar17 x zs ms):CallsD Γ prog 10 [.agg (exC x),.one (.sl 9 (zs.map Zn.C)),.one (.sl 3 (ms.map Tb.C))] (.one (cB (wsk x zs ms))):=by
 have f1:=wc3 (Γ:=Γ) x [] ms h.x (by decide) (fun b hb=>by cases hb) (by have:=h.m;omega) h.ms;have f1:CallsD Γ prog 38 [.agg (exC x),.one (.raw (.slice none 0 0)),.one (.sl 3 (ms.map Tb.C))] (.one (cB (wjp x [] ms))):=CallsD.argN f1 (.cons (.refl _) (.cons (.one (.nilSl _)) (.cons (.refl _) .nil)));have hl:=h.b;unfold wsk;generalize wjp x [] ms=b1 at f1;generalize hR:((zs.take 9).all w9d&&(b1&&decide ((zs.length:Int)<=8)))=R;refine CallsD.run [] Go.Proofs.Tryz.func10 rfl rfl rfl ?_;simp only [Go.Proofs.Tryz.f10];refine hgR ?_;refine y55 [1,2,3] (fun n:Nat=>[(7,.one (.dat (cI n)))]) (fun _=>[.box ((exC x).map .dat) (some 24)]) (fun n=>n<=zs.length/\n<=9/\∀ j,j<n->w9d (zs.getD j default)=true) (fun n=>zs.length-n) 0 ⟨Nat.zero_le _,by omega,fun j hj=>by omega⟩ ?_ ?_
 . refine hg ?_;exact StH.same svl rfl
 rintro n ⟨hn,hn9,hj⟩
 have hc:n<zs.length->CallsD Γ prog 16 [.agg (scC (zs.getD n default).s),.one (cI 4)] (.one (cB (decide ((zs.getD n default).s.sz<=4)))):=fun h'=>toD (xmj _ (by have:=(h.bs _ (w4t h')).s;omega))
 refine hg ?_
 repeat' ((first | refine hfk ?_ ?_<;>intros | refine hik ?_ | with_reducible first | refine v6l (hc (by omega)) ?_ | refine vgi (hc (by omega)) ?_ | refine v6l (f1) ?_ | refine vgi (f1) ?_)<;>refine hgS ?_)
 all_goals first
  | exact ⟨n+1,⟨by omega,by omega,xf4 hj (by unfold w9d;simp only [Bool.and_eq_true,decide_eq_true_eq];omega)⟩,by omega,StH.same svl rfl⟩
  | (rw [<-hR,vep (n:=9) (i:=n) (by omega) (by omega) (by unfold w9d;simp only [Bool.and_eq_false_iff,decide_eq_false_iff_not];omega)];exact RLe.ofEq rfl)
  | (rw [<-hR,zpv hj (by omega)];refine lfE ?_;first | exact trivial | rfl)
end Go.Hp.T
namespace Go.Slot
open Go Go.RowKit Go.ChangeShapes Go.WideShapes
section
variable {P:Program} {H:Type} {enc:TypeId×Value->H} {w:World} {spare:Nat->Bool} {held:Bool} {bk:DataW H->Nat} {N:Nat} {r:Reach} {b0:Nat}
theorem zx9 (hB:Bulk bk) {L:List TypeId} (hL:wgl P L=true) {t:TypeId} (htL:t∈L) {v:Value} {d:DataW H} {p:List MemPlace} {fs:Array Field} (ht:P.underlying t=some (.struct fs))
 (hval:Value.okWide P w r b0 t v) (hd:DataW.Trod enc P w 0 spare held t v d p) (hb:bk d<=N):∃ cells,FitT P N t cells/\RdB M0 w v (.agg cells):=by
 obtain ⟨cs,rfl,_⟩:=okWide_struct ht hval;obtain ⟨fuel,hf⟩:=hd;obtain ⟨cells,h1,h2⟩:=w7d hB hL fuel t htL _ (d,p) hf hb;exact ⟨cells,h2,⟨cs.toList,by simp,h1⟩⟩
theorem yfe (hB:Bulk bk) {L:List TypeId} (hL:wgl P L=true) {t:TypeId} (htL:t∈L) {v:Value} {d:DataW H} {p:List MemPlace} (hv:v.cells=#[v])
 (hd:DataW.Trod enc P w 0 spare held t v d p) (hb:bk d<=N):∃ c,FitT P N t [c]/\RdB M0 w v (.one c):=by
 obtain ⟨fuel,hf⟩:=hd;obtain ⟨cells,h1,h2⟩:=w7d hB hL fuel t htL _ (d,p) hf hb;rw [hv] at h1
 match cells,h1,h2 with
 | [c],h1,h2=>exact ⟨c,h2,h1.1⟩
theorem yqq (hB:Bulk bk) {L:List TypeId} (hL:wgl P L=true) {t e:TypeId} (htL:t∈L) {v:Value} {d:DataW H} {p:List MemPlace} (ht:P.underlying t=some (.slice e))
 (hval:Value.okWide P w r b0 t v) (hd:DataW.Trod enc P w 0 spare held t v d p) (hb:bk d<=N):∃ c,FitT P N t [c]/\RdB M0 w v (.one c):=by
 obtain ⟨a,len,cap,rfl⟩:=okWide_slice ht hval;exact yfe hB hL htL rfl hd hb
end
end Go.Slot
namespace Go.Proofs.YtmegdbbbllffkaaGreat
set_option maxRecDepth 100000
open Go Go.Slot Go.Hp Go.Hp.T Go.ChangeShapes Go.WideShapes Go.RowKit
theorem y56:ownKnob Tryz.prog.godebug=none:=by kernel_rfl
theorem wi8:laidOutB Tryz.prog=true:=by kernel_rfl
theorem wsz {H:Type} (d:DataW H):1<=Rows.uptoBulk d:=by
 cases d with
 | lit l=>cases l<;>simp [Rows.uptoBulk]
 | nil=>simp [Rows.uptoBulk]
 | ptr d=>simp [Rows.uptoBulk]
 | slice elems spare=>simp [Rows.uptoBulk]
 | agg parts=>simp [Rows.uptoBulk]
 | iface t d=>simp [Rows.uptoBulk]
 | map entries=>simp [Rows.uptoBulk]
 | held h=>simp [Rows.uptoBulk]
theorem vtu {H:Type} {d:DataW H} {l:List (DataW H)} (h:d∈l):Rows.uptoBulk d<=Rows.uptoBulkAll l:=by
 induction l with
 | nil=>cases h
 | cons x r ih=>
  simp only [Rows.uptoBulkAll]
  cases List.mem_cons.1 h with
  | inl e=>subst e;omega
  | inr e=>have:=ih e;omega
theorem w7w {H:Type} (l:List (DataW H)):l.length<=Rows.uptoBulkAll l:=by
 induction l with
 | nil=>simp [Rows.uptoBulkAll]
 | cons x r ih=>have:=wsz x;simp only [Rows.uptoBulkAll,List.length_cons];omega
theorem bulk {H:Type}:Bulk (H:=H) Rows.uptoBulk where
 str b:=by simp [Rows.uptoBulk]
 elems l r:=by
  have:=w7w l
  simp only [Rows.uptoBulk];omega
 elem l r d h:=by
  have:=vtu h
  simp only [Rows.uptoBulk];omega
 part l d h:=by
  have:=vtu h
  simp only [Rows.uptoBulk];omega
theorem w8i {H:Type} {l:List (DataW H)} (hk:Rows.uptoSmall H l=true):∀ d∈l,Rows.uptoBulk d<=1048576:=fun d hd=>by
 have h:=vtu hd;have h2:Rows.uptoBulkAll l<=1048576:=of_decide_eq_true hk;omega
def argTypes:List TypeId:=[24,22,53,48,122,26,119,120,51,3,9,64,60,33,59,31,29,47,35,42,45,25]
theorem zvc:wgl Tryz.prog argTypes=true:=by kernel_rfl
theorem xs1:Tryz.prog.cellsOf 24=5:=by kernel_rfl
theorem yvn:Tryz.prog.cellsOf 45=9:=by kernel_rfl
theorem v5a {t:TypeId} {d:TypeDesc} (h:Tryz.prog.underlying t=some d) (hd:∀ k,d≠.int k):∀ k,Tryz.prog.underlying t≠some (.int k):=fun k hk=>by
 rw [h] at hk;cases hk;exact hd k rfl
theorem vnj {α:Type} {C:α->List Cell} {Q:α->Prop}:∀ rows:List (List Cell),(∀ r∈rows,∃ x,r=C x/\Q x)->∃ xs:List α,rows=xs.map C/\∀ x∈xs,Q x
 | [],_=>⟨[],rfl,fun x hx=>by cases hx⟩
 | r::rows,h=>by
  obtain ⟨x,hx,hq⟩:=h r (by simp);obtain ⟨xs,hxs,hqs⟩:=vnj rows (fun r' hr'=>h r' (by simp [hr']))
  exact ⟨x::xs,by rw [hx,hxs];rfl,fun y hy=>by
   rcases List.mem_cons.1 hy with rfl | hy
   . exact hq
   . exact hqs y hy⟩
theorem len2 {α:Type} {l:List α} (h:l.length=2):∃ a b,l=[a,b]:=by
 match l,h with
 | [a,b],_=>exact ⟨a,b,rfl⟩
theorem len5 {α:Type} {l:List α} (h:l.length=5):∃ a b c d e,l=[a,b,c,d,e]:=by
 match l,h with
 | [a,b,c,d,e],_=>exact ⟨a,b,c,d,e,rfl⟩
theorem x9z:∀(t:TypeId) (cs:List Cell),FitT Tryz.prog 1048576 t cs->(t=24->∃ x:Ex,cs=exC x/\x.Sm)/\(t=22->∃ l:List Ex,cs=[.sl 5 (l.map Ex.cells)]/\l.length<=1048576/\∀ y∈l,y.Sm):=by
 intro t cs h
 induction h with
 | int ht=>exact ⟨fun e=>(by subst e;rw [Tryz.underlying24] at ht;cases ht),fun e=>(by subst e;rw [Tryz.underlying22] at ht;cases ht)⟩
 | bool ht=>exact ⟨fun e=>(by subst e;rw [Tryz.underlying24] at ht;cases ht),fun e=>(by subst e;rw [Tryz.underlying22] at ht;cases ht)⟩
 | str ht=>exact ⟨fun e=>(by subst e;rw [Tryz.underlying24] at ht;cases ht),fun e=>(by subst e;rw [Tryz.underlying22] at ht;cases ht)⟩
 | ints ht he=>exact ⟨fun e=>(by subst e;rw [Tryz.underlying24] at ht;cases ht),fun e=>(by subst e;rw [Tryz.underlying22] at ht;cases ht;rw [Tryz.underlying24] at he;cases he)⟩
 | array ht=>exact ⟨fun e=>(by subst e;rw [Tryz.underlying24] at ht;cases ht),fun e=>(by subst e;rw [Tryz.underlying22] at ht;cases ht)⟩
 | sl ht he hl h ih=>
  refine ⟨fun e=>(by subst e;rw [Tryz.underlying24] at ht;cases ht),fun e=>?_⟩;subst e;rw [Tryz.underlying22] at ht
  cases ht
  obtain ⟨xs,rfl,hxs⟩:=vnj (C:=Ex.cells) (Q:=Ex.Sm) _ (fun r hr=>by
   obtain ⟨x,h1,h2⟩:=(ih r hr).1 rfl
   exact ⟨x,by rw [h1,Ex.vle],h2⟩)
  exact ⟨xs,by rw [xs1],by simpa using hl,hxs⟩
 | struct ht hl h ih=>
  refine ⟨fun e=>?_,fun e=>(by subst e;rw [Tryz.underlying22] at ht;cases ht)⟩;subst e;rw [Tryz.underlying24] at ht
  cases ht;obtain ⟨r0,r1,r2,r3,r4,rfl⟩:=len5 hl;obtain ⟨o,rfl,_⟩:=(h 0 _ r0 rfl rfl).yny (Tryz.underlying3);obtain ⟨n,rfl,_⟩:=(h 1 _ r1 rfl rfl).yny (Tryz.underlying3);obtain ⟨u,rfl,hu⟩:=(h 2 _ r2 rfl rfl).x0a (Tryz.underlying9);obtain ⟨s,rfl,hs⟩:=(h 3 _ r3 rfl rfl).x0a (Tryz.underlying9);obtain ⟨l,rfl,hll,hls⟩:=(ih 4 _ r4 rfl rfl).2 rfl;exact ⟨.mk o n u s l,rfl,.mk _ (Nat.le_trans hll (by decide)) (Nat.le_trans hu (by decide)) (Nat.le_trans hs (by decide)) hls⟩
theorem vem {cs:List Cell} (h:FitT Tryz.prog 1048576 31 cs):∃(s:Int) (L:List Int),cs=[.raw (.int .i64 s),.ints .i64 L]/\L.length<=1048576:=by
 obtain ⟨rows,rfl,hl,hr⟩:=h.vtw Tryz.underlying31;obtain ⟨r0,r1,rfl⟩:=len2 hl;obtain ⟨s,rfl,_⟩:=(hr 0 _ r0 rfl rfl).yny (Tryz.underlying3);obtain ⟨L,rfl,hL,_⟩:=(hr 1 _ r1 rfl rfl).wtu (Tryz.underlying29) (Tryz.underlying3);exact ⟨s,L,rfl,hL⟩
theorem wme {cs:List Cell} (h:FitT Tryz.prog 1048576 33 cs):∃ f:Fc,cs=f.C/\f.sz<=1048576:=by
 obtain ⟨rows,rfl,hl,hr⟩:=h.vtw Tryz.underlying33;obtain ⟨r0,r1,rfl⟩:=len2 hl;obtain ⟨s,L,rfl,hL⟩:=vem (hr 0 _ r0 rfl rfl);obtain ⟨t,M,rfl,hM⟩:=vem (hr 1 _ r1 rfl rfl);exact ⟨⟨s,L,t,M⟩,rfl,Nat.max_le.2 ⟨hL,hM⟩⟩
theorem xc4 {cs:List Cell} (h:FitT Tryz.prog 1048576 35 cs):∃ s:Sc,cs=s.C/\s.sz<=1048576:=by
 obtain ⟨rows,rfl,hl,hr⟩:=h.vtw Tryz.underlying35;obtain ⟨r0,r1,rfl⟩:=len2 hl;obtain ⟨⟨s,L,t,M⟩,rfl,h1⟩:=wme (hr 0 _ r0 rfl rfl);obtain ⟨⟨s',L',t',M'⟩,rfl,h2⟩:=wme (hr 1 _ r1 rfl rfl);exact ⟨⟨⟨s,L,t,M⟩,⟨s',L',t',M'⟩⟩,rfl,Nat.max_le.2 ⟨h1,h2⟩⟩
theorem zb5 {cs:List Cell} (h:FitT Tryz.prog 1048576 45 cs):∃ x:Zn,cs=x.C/\x.Sm:=by
 obtain ⟨rows,rfl,hl,hr⟩:=h.vtw Tryz.underlying45;obtain ⟨r0,r1,rfl⟩:=len2 hl;obtain ⟨s,rfl,hs⟩:=(hr 0 _ r0 rfl rfl).x0a (Tryz.underlying9);obtain ⟨c,rfl,hc⟩:=xc4 (hr 1 _ r1 rfl rfl);exact ⟨⟨s,c⟩,rfl,⟨Nat.le_trans hs (by decide),hc⟩⟩
section
variable {H:Type} {enc:TypeId×Value->H} {W:World} {v:Value} {d:DataW H} {p:List MemPlace} {b:Nat}
theorem v80 (hval:Value.okWide Tryz.prog W .any b 24 v) (hd:DataW.Trod enc Tryz.prog W 0 (fun _=>true) true 24 v d p) (hb:Rows.uptoBulk d<=1048576) :
 ∃ x:Ex,RdB M0 W v (.agg (exC x))/\x.Sm:=by
 obtain ⟨cells,h1,h2⟩:=zx9 bulk zvc (by decide) Tryz.underlying24 hval hd hb;obtain ⟨x,rfl,h3⟩:=(x9z _ _ h1).1 rfl;exact ⟨x,h2,h3⟩
theorem y93 (hval:Value.okWide Tryz.prog W .any b 25 v) (hd:DataW.Trod enc Tryz.prog W 0 (fun _=>true) true 25 v d p) (hb:Rows.uptoBulk d<=1048576) :
 ∃ l:List Zn,RdB M0 W v (.one (.sl 9 (l.map Zn.C)))/\l.length<=1048576/\∀ x∈l,x.Sm:=by
 obtain ⟨c,h1,h2⟩:=yqq bulk zvc (by decide) Tryz.underlying25 hval hd hb;obtain ⟨rows,e,hl,hr⟩:=h1.z1z (Tryz.underlying25) (v5a Tryz.underlying45 (fun k h=>by cases h));obtain ⟨xs,rfl,hx⟩:=vnj (C:=Zn.C) (Q:=Zn.Sm) _ (fun r hr'=>zb5 (hr r hr'))
 cases e;rw [yvn] at h2;exact ⟨xs,h2,by simpa using hl,hx⟩
end
theorem ended {f:FuncId} {args:List AV} {vs:List Value} {W:World} (hc:Go.Hp.CallsD [] Tryz.prog f args (.one (cB true))) (hr:RdBL M0 W vs args):Calls Tryz.prog f vs.toArray W fun e W'=>e=.returned (.bool true)/\Below W.heap.size W W':=
 (hc.2 M0 W vs (fun b o h=>h.elim) (fun g cs h=>by cases h) hr).mono (fun e W' ⟨v,he,hb,hr',_⟩=>by
   have hv:v=.bool true:=RdC.zb6 hr';rw [hv] at he
   exact ⟨he,hb⟩)
def zE:Value:=.agg #[.int .i64 0,.int .i64 0,.string ⟨#[]⟩,.string ⟨#[]⟩,.slice none 0 0]
def dI {H:Type}:DataW H:=.lit (.int .i64 0)
def dS {H:Type}:DataW H:=.lit (.string [])
def dE {H:Type}:DataW H:=.agg [dI,dI,dS,dS,.nil]
end Go.Proofs.YtmegdbbbllffkaaGreat
