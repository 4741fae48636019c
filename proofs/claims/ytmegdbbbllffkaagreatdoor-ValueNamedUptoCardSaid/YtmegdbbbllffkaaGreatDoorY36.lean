/- The proof, part Y36: Gd, Qc, Qd, Xb, Lg, Sa, Rm, Gt, Xd. -/
import Derived.Test.YtmegdbbbllffkaaGreatDoorY35
import Derived.Test.YtmegdbbbllffkaaGreatDoorY33
import Derived.Test.YtmegdbbbllffkaaGreatDoorY31
namespace Go.Hp.T
open Go Go.RowKit Go.Slot Go.Hp Go.Slot.T
set_option maxRecDepth 10000
set_option maxHeartbeats 4000000
structure Bd where
 name:ByteArray
 v:Fc
instance:Inhabited Bd:=⟨⟨⟨#[]⟩,Fc.zero⟩⟩
def Bd.C (x:Bd):List Cell:=[cS x.name,.raw (.int .i64 x.v.s),.ints .i64 x.v.L,.raw (.int .i64 x.v.t),.ints .i64 x.v.M]
abbrev bdC (x:Bd):List Cell:=[cS x.name,.raw (.int .i64 x.v.s),.ints .i64 x.v.L,.raw (.int .i64 x.v.t),.ints .i64 x.v.M]
theorem Bd.C_eq (x:Bd):x.C=bdC x:=rfl
attribute [go_sem] Bd.C_eq
abbrev Vq:=List (ByteArray×Rat)
abbrev Vt:=List (ByteArray×Tb)
def envQ (l:Vq):List (Value×SV):=envM (fun q=>.agg ((qC (some q)).map .dat)) l
def envB (l:Vt):List (Value×SV):=envM (fun t=>.agg ((tbC t).map .dat)) l
theorem w2y {T:Vq} {s:ByteArray}:x1q (envQ T) (.string s)=some ((y4u T s).map fun q=>.agg ((qC (some q)).map .dat)):=z1u
theorem zed {T:Vt} {s:ByteArray}:x1q (envB T) (.string s)=some ((y4u T s).map fun t=>.agg ((tbC t).map .dat)):=z1u
theorem zsy {T:Vq} {s:ByteArray} {q:Rat}:updM (envQ T) (.string s) (.agg [.dat (.raw (.int .i64 (qF (some q)).s)),.dat (.ints .i64 (qF (some q)).L),.dat (.raw (.int .i64 (qF (some q)).t)),.dat (.ints .i64 (qF (some q)).M)])=some (envQ (updF T s q)):=zxo (C:=fun q=>.agg ((qC (some q)).map .dat))
theorem x4l {T:Vt} {s:ByteArray} {t:Tb}:updM (envB T) (.string s) (.agg [.dat (cS t.name),.dat (cS t.unit),.dat (.sl 2 (t.rows.map Rw.C))])=some (envB (updF T s t)):=zxo (C:=fun t=>.agg ((tbC t).map .dat))
attribute [go_sem] w2y zed zsy x4l
abbrev tbOk (t:Tb):Bool:=wlo (fun s=>(wrt s).2) t
abbrev rB (V:Vq) (l:List Bd):Option Vq:=gE Bd.name (fun b=>decide b.v.ok) (fun b=>b.v.val) (fun _=>false) V l
abbrev rTb (V:Vq) (T:Vt) (l:List Tb):Option Vt:=gE Tb.name tbOk id (fun s=>(y4u V s).isSome) T l
abbrev entF (bs:List Bd) (ms:List Tb):Option (Vq×Vt):=entG Bd.name (fun b=>decide b.v.ok) (fun b=>b.v.val) tbOk bs ms
def y9e (n:Int) (u:ByteArray):Rs×Int:=bif decide (¬(wrt u).2=0) then (Rs.zero,14) else numV (mulO (some (n:Rat)) (facO u)) (erO (some (n:Rat)) (facO u))
def vom (V:Vq) (s:ByteArray):Rs×Int:=match y4u V s with
 | none=>(Rs.zero,11)
 | some q=>numV (addO (some q) (some ((0:Int):Rat))) 0
def w2w (T:Vt) (s:ByteArray) (k:Rs):Rs×Int:=match y4u T s with
 | none=>(Rs.zero,11)
 | some t=>bif k.t then (Rs.zero,13) else numV (z78 t k.v).1 (z78 t k.v).2
def chV (rs:List (Rs×Int)):Rs×Int:=bif decide (¬(rs.getD 0 default).2=0) then (Rs.zero,(rs.getD 0 default).2) else
 bif !(rs.getD 0 default).1.t then (Rs.zero,13) else bif (rs.getD 0 default).1.i then rs.getD 1 default else rs.getD 2 default
def seqV:List (Rs×Int)->Int ⊕ List Rs
 | []=>.inr []
 | (r,e)::l=>bif decide (¬e=0) then .inl e else match seqV l with
  | .inl e=>.inl e
  | .inr rs=>.inr (r::rs)
def opV (T:Vt) (o:Int) (s:ByteArray) (rs:List Rs):Rs×Int:=bif decide (o=2) then w2w T s (rs.getD 0 default) else
 bif decide (o=4)||decide (o=14)||decide (o=15) then logV o rs else ariV o (rs.getD 0 default) (rs.getD 1 default)
def x76 (T:Vt) (o:Int) (s:ByteArray) (q:Int ⊕ List Rs):Rs×Int:=match q with
 | .inl e=>(Rs.zero,e)
 | .inr rs=>opV T o s rs
mutual
def Ex.cal (V:Vq) (T:Vt):Ex->Rs×Int
 | .mk o n u s l=>bif decide (o=0) then y9e n u else bif decide (o=1) then vom V s else
  bif decide (o=5) then chV (Ex.calA V T l) else x76 T o s (seqV (Ex.calA V T l))
def Ex.calA (V:Vq) (T:Vt):List Ex->List (Rs×Int)
 | []=>[]
 | y::l=>Ex.cal V T y::Ex.calA V T l
end
theorem Ex.w4k (V:Vq) (T:Vt):∀ l:List Ex,Ex.calA V T l=l.map (Ex.cal V T)
 | []=>by rw [Ex.calA];rfl
 | y::l=>by rw [Ex.calA,Ex.w4k V T l];rfl
theorem Ex.y8i (V:Vq) (T:Vt) (x:Ex):x.cal V T=bif decide (x.op=0) then y9e x.n x.unit else bif decide (x.op=1) then vom V x.name else
 bif decide (x.op=5) then chV (x.args.map (Ex.cal V T)) else x76 T x.op x.name (seqV (x.args.map (Ex.cal V T))):=by cases x;rw [Ex.cal,Ex.w4k];rfl
def valF (x:Ex) (bs:List Bd) (ms:List Tb):Rs×Int:=bif !vsf x||x.wqc then (Rs.zero,2) else match entF bs ms with
 | none=>(Rs.zero,1)
 | some p=>x.cal p.1 p.2
mutual
def Ex.nd:Ex->Nat
 | .mk _ _ _ _ l=>Ex.ndL l+1
def Ex.ndL:List Ex->Nat
 | []=>0
 | y::l=>Ex.nd y+Ex.ndL l
end
theorem Ex.z43 (x:Ex):x.nd=Ex.ndL x.args+1:=by cases x;rw [Ex.nd];rfl
theorem Ex.y1l:∀{l:List Ex} {y:Ex},y∈l->y.nd<=Ex.ndL l
 | z::l,y,h=>by
  rw [Ex.ndL]
  rcases List.mem_cons.1 h with rfl | h
  . omega
  . have:=Ex.y1l h;omega
theorem Ex.nd2 {l:List Ex} (h:2<=l.length):(l.getD 0 default).nd+(l.getD 1 default).nd<=Ex.ndL l:=by
 match l,h with
 | a::b::l,_=>rw [Ex.ndL,Ex.ndL];simp only [List.getD_cons_zero,List.getD_cons_succ];omega
theorem Ex.znw:∀(x:Ex) (n lv k:Int),x.cnt n lv=(true,k)->k=n+x.nd:=by
 have hL:∀ l:List Ex,(∀ y∈l,∀(n lv k:Int),y.cnt n lv=(true,k)->k=n+y.nd)->∀ n lv k:Int,Ex.cntL l n lv=(true,k)->k=n+Ex.ndL l:=by
  intro l
  induction l with
  | nil=>intro _ n lv k h;rw [Ex.cntL] at h;cases h;rw [Ex.ndL];omega
  | cons y l ih=>
   intro hy n lv k h;rw [Ex.cntL] at h;split at h
   . cases h
   . rename_i m hm;have h1:=hy y (by simp) _ _ _ hm;have h2:=ih (fun z hz=>hy z (by simp [hz])) _ _ _ h;rw [Ex.ndL];omega
 refine Ex.ind (fun x ih n lv k h=>?_);rw [Ex.w8w] at h;by_cases h1:200<n+1
 . simp [h1] at h
 . by_cases h2:20<lv
   . simp [h2] at h
   . simp only [h1,h2,decide_false,Bool.or_self,cond_false] at h
     have:=hL x.args ih _ _ _ h
     rw [Ex.z43];omega
theorem v52 {x:Ex} (h:vsf x=true):x.nd<=200:=by
 unfold vsf at h;rw [Bool.and_eq_true] at h
 have h1:x.cnt 0 1=(true,(x.cnt 0 1).2):=by rw [<-h.1]
 have h2:=Ex.znw _ _ _ _ h1;have h3:=Ex.vie _ _ _ _ h1;omega
theorem vv7 (v:Option Rat) (e:Int):qz (numV v e).1.v<=qz v:=by
 unfold numV
 cases decide (¬e=0) with
 | true=>exact Nat.zero_le _
 | false=>exact Nat.le_refl _
theorem ycv {c:Bool} {a b:Rs×Int} {n:Nat} (h1:qz a.1.v<=n) (h2:qz b.1.v<=n):qz (bif c then a else b).1.v<=n:=by cases c<;>assumption
theorem xkd (o:Int) (l:List Rs):qz (logV o l).1.v<=0:=
 ycv (Nat.le_refl _) (ycv (Nat.le_refl _) (ycv (Nat.le_refl _) (Nat.le_refl _)))
theorem w1o (o:Int) (a b:Rs):qz (ariV o a b).1.v<=qz a.v+qz b.v+1:=by
 have h1:=z80 a.v b.v;have h2:=xxj a.v b.v;have h3:=wg5 a.v b.v;have h4:=zcv a.v b.v;have h5:=znv a.v b.v;have h6:=y4v a.v b.v
 have n:∀(v:Option Rat) (e:Int),qz v<=qz a.v+qz b.v+1->qz (numV v e).1.v<=qz a.v+qz b.v+1:=fun v e h=>Nat.le_trans (vv7 v e) h
 exact ycv (Nat.zero_le _) (ycv (n _ _ h1) (ycv (n _ _ h2) (ycv (n _ _ (by omega)) (ycv (n _ _ h4) (ycv (n _ _ (by omega)) (ycv (n _ _ (by omega)) (ycv (Nat.zero_le _) (Nat.zero_le _))))))))
theorem w7w (t:Tb) {n:Int} (h:inI n):qz (w8g t n)<=4204:=by
 have h1:=wg5 (some (n:Rat)) (facO t.unit);have h2:=wkd h;have h3:=x7a t.unit;unfold w8g;omega
theorem w0f (t:Tb) (v:Option Rat):qz (z78 t v).1<=4204:=by
 unfold z78
 cases ht:wlo (fun s=>(wrt s).2) t with
 | false=>exact Nat.zero_le _
 | true=>
  cases v with
  | none=>exact Nat.zero_le _
  | some q=>
   simp only [Bool.not_true,cond_false];by_cases h0:aft q t.rows=0
   . rw [decide_eq_true h0];exact Nat.zero_le _
   . rw [decide_eq_false h0];obtain ⟨_,_,hl,hrows⟩:=z8a ht;have hle:=z8w q t.rows;have hn:=vdp (hrows (aft q t.rows-1) (by omega)).2.1;exact w7w t (by unfold inI;omega)
def Vsm (B:Nat) (V:Vq):Prop:=∀ s q,y4u V s=some q->qs q+10<=B
theorem vri {x:Ex} (h:z3f x=true) (h0:x.op=0):0<=x.n/\x.n<=1099511627776:=by
 unfold z3f at h;rw [decide_eq_true h0] at h;simp only [cond_true,Bool.and_eq_true,decide_eq_true_eq] at h;omega
theorem yjg : ∀ {l : List (Rs × Int)} {rs : List Rs}, seqV l = .inr rs → rs.length = l.length ∧ ∀ i, i < l.length → l.getD i default = (rs.getD i default, 0)
 | [],rs,h=>by rw [seqV] at h;cases h;exact ⟨rfl,fun i hi=>by simp at hi⟩
 | (r, e) :: l, rs, h => by
  rw [seqV] at h;by_cases he:e=0
  . subst he;simp only [not_true_eq_false,decide_false,cond_false] at h
    cases hs:seqV l with
    | inl e=>rw [hs] at h;cases h
    | inr r2=>
     rw [hs] at h;cases h;obtain ⟨h1,h2⟩:=yjg hs;refine ⟨by simp [h1],fun i hi=>?_⟩
     cases i with
     | zero=>rfl
     | succ i=>simpa using h2 i (by simpa using hi)
  . rw [decide_eq_true he] at h;cases h
theorem zc9 {V:Vq} {T:Vt} {B:Nat} (hB:4300<=B) (hV:Vsm B V):∀ x:Ex,x.shaped=true->x.wqc=false->qz (x.cal V T).1.v<=B*x.nd:=by
 refine Ex.ind (fun x ih hsh hcl=>?_);rw [Ex.yaj,Bool.and_eq_true,List.all_eq_true] at hsh;rw [Ex.zs3,Bool.or_eq_false_iff,decide_eq_false_iff_not,List.any_eq_false] at hcl;obtain ⟨hnode,hargs⟩:=hsh;have hnd:=Ex.z43 x;have h1:B<=B*x.nd:=Nat.le_mul_of_pos_right _ (by omega)
 have hmem:∀ i,i<x.args.length->qz (((x.args.map (Ex.cal V T)).getD i default)).1.v<=B*(x.args.getD i default).nd:=fun i hi=>by
  have hm:=zkt hi;rw [getD_map hi];exact ih _ hm (hargs _ hm) (by simpa using hcl.2 _ hm)
 have hle:∀ i,i<x.args.length->B*(x.args.getD i default).nd<=B*x.nd:=fun i hi=>Nat.mul_le_mul_left _ (by have:=Ex.y1l (zkt hi);omega)
 rw [Ex.y8i];by_cases h0:x.op=0
 . rw [decide_eq_true h0,cond_true];have hn:=vri hnode h0;unfold y9e
   cases decide (¬(wrt x.unit).2=0) with
   | true=>exact Nat.zero_le _
   | false=>
    have:=vv7 (mulO (some (x.n:Rat)) (facO x.unit)) (erO (some (x.n:Rat)) (facO x.unit))
    have h2:=wg5 (some (x.n:Rat)) (facO x.unit);have h3:=wkd (n:=x.n) (by unfold inI;omega);have h4:=x7a x.unit;rw [cond_false];omega
 rw [decide_eq_false h0,cond_false];by_cases h01:x.op=1
 . rw [decide_eq_true h01,cond_true];unfold vom
   cases hl:y4u V x.name with
   | none=>exact Nat.zero_le _
   | some q=>
    have:=hV _ _ hl
    have h2:=vv7 (addO (some q) (some ((0:Int):Rat))) 0;have h3:=z80 (some q) (some ((0:Int):Rat));have h4:=wkd (n:=0) (by decide);simp only;have h5:qz (some q)=qs q:=rfl;omega
 rw [decide_eq_false h01,cond_false]
 have hne:x.args.length≠0:=fun h=>by
  unfold z3f at hnode;rw [decide_eq_false h0,decide_eq_false h01,h] at hnode;simp at hnode
 obtain ⟨hl2,hl3⟩:=vbi hnode hcl.1 hne;by_cases h5:x.op=5
 . rw [decide_eq_true h5, cond_true];have hl:=hl3 h5;unfold chV
   cases decide (¬((x.args.map (Ex.cal V T)).getD 0 default).2=0) with
   | true=>exact Nat.zero_le _
   | false=>
    cases ((x.args.map (Ex.cal V T)).getD 0 default).1.t with
    | false=>exact Nat.zero_le _
    | true=>
     cases ((x.args.map (Ex.cal V T)).getD 0 default).1.i with
     | true=>exact Nat.le_trans (hmem 1 (by omega)) (hle 1 (by omega))
     | false=>exact Nat.le_trans (hmem 2 (by omega)) (hle 2 (by omega))
 rw [decide_eq_false h5,cond_false]
 cases hs:seqV (x.args.map (Ex.cal V T)) with
 | inl e=>exact Nat.zero_le _
 | inr rs=>
  obtain ⟨hlen,hget⟩:=yjg hs;rw [List.length_map] at hlen hget;show qz (opV T x.op x.name rs).1.v<=_;unfold opV;by_cases h2:x.op=2
  . rw [decide_eq_true h2, cond_true];unfold w2w
    cases y4u T x.name with
    | none=>exact Nat.zero_le _
    | some t=>
     simp only
     cases (rs.getD 0 default).t with
     | true=>exact Nat.zero_le _
     | false=>
      have h3:=vv7 (z78 t (rs.getD 0 default).v).1 (z78 t (rs.getD 0 default).v).2;have h4:=w0f t (rs.getD 0 default).v;rw [cond_false];omega
  rw [decide_eq_false h2,cond_false]
  cases hlg:decide (x.op=4)||decide (x.op=14)||decide (x.op=15) with
  | true=>exact Nat.le_trans (xkd _ _) (Nat.zero_le _)
  | false=>
   rw [cond_false]
   have h4:x.op≠4:=fun h=>by rw [decide_eq_true h] at hlg;simp at hlg
   have hl:=hl2 h2 h4;have ha:=w1o x.op (rs.getD 0 default) (rs.getD 1 default);have m0:=hmem 0 (by omega);have m1:=hmem 1 (by omega);rw [hget 0 (by omega)] at m0;rw [hget 1 (by omega)] at m1;have hn2:=Ex.nd2 hl;have hd:=Nat.mul_add B (x.args.getD 0 default).nd (x.args.getD 1 default).nd;have he:B*((x.args.getD 0 default).nd+(x.args.getD 1 default).nd+1)<=B*x.nd:=Nat.mul_le_mul_left _ (by omega);rw [Nat.mul_add,hd] at he;simp only at m0 m1;omega
theorem yu8 {B:Nat} {bs:List Bd} {ms:List Tb} {V:Vq} {T:Vt} (h:entF bs ms=some (V,T)) (hb:∀ b∈bs,b.v.sz+10<=B):Vsm B V:=fun s q hq=>by
 obtain ⟨h1,_,_,h4,_⟩:=yks h;rw [h4 s] at hq
 cases hf:fnd Bd.name bs s with
 | none=>rw [hf] at hq;cases hq
 | some b=>
  rw [hf] at hq;cases hq;have hm:=(ybj hf).1;have e:=Fc.xca (of_decide_eq_true (h1 b hm));have h2:=hb b hm;rw [e] at h2;exact h2
theorem vc9 {bs:List Bd} {ms:List Tb} {V:Vq} {T:Vt} (h:entF bs ms=some (V,T)) (hb:∀ t∈ms,t.Sm):∀ s t,y4u T s=some t->t.Sm/\tbOk t=true:=fun s t ht=>by
 obtain ⟨_,h2,_,_,h5⟩:=yks h;rw [h5 s] at ht;have hm:=(ybj ht).1;exact ⟨hb t hm,h2 t hm⟩
end Go.Hp.T
namespace Go.Hp.T
open Go Go.RowKit Go.Slot Go.Hp Go.Slot.T
open Go.Proofs.Tryz (prog)
set_option maxRecDepth 10000
set_option maxHeartbeats 4000000
variable {Γ:List (Nat×List Cell)}
theorem yau {α:Type} [Inhabited α] {p:α->Bool} {l:List α} {n i:Nat} (h1:i<n) (h2:i<l.length) (h:p (l.getD i default)=false):(l.take n).all p=false:=by
 cases e:(l.take n).all p with
 | false=>rfl
 | true=>
  have hm:l.getD i default∈l.take n:=by
   rw [show l.getD i default=l[i] from by simp [h2]];exact List.mem_take_iff_getElem.2 ⟨i,by omega,rfl⟩
  rw [List.all_eq_true.1 e _ hm] at h;cases h
theorem yzp {α:Type} [Inhabited α] {p:α->Bool} {l:List α} {n i:Nat} (hj:∀ j,j<i->p (l.getD j default)=true) (h:i=n\/i=l.length):(l.take n).all p=true:=by
 rw [List.all_eq_true];intro y hy;obtain ⟨j,hj2,rfl⟩:=List.mem_take_iff_getElem.1 hy
 have:=hj j (by omega)
 rwa [show l.getD j default=l[j] from by simp [show j<l.length by omega]] at this
mutual
def Ex.has (op:Int) (nm:ByteArray):Ex->Bool
 | .mk o _ _ s l=>Ex.hasL op nm l||(decide (o=op)&&seq s nm)
def Ex.hasL (op:Int) (nm:ByteArray):List Ex->Bool
 | []=>false
 | y::l=>Ex.has op nm y||Ex.hasL op nm l
end
end Go.Hp.T
namespace Go.Slot
open Go Go.RowKit Go.Slot.T
structure Sc where
 low:Fc
 high:Fc
namespace Sc
def C (s:Sc):List Cell:=[.raw (.int .i64 s.low.s),.ints .i64 s.low.L,.raw (.int .i64 s.low.t),.ints .i64 s.low.M,.raw (.int .i64 s.high.s),.ints .i64 s.high.L,.raw (.int .i64 s.high.t),.ints .i64 s.high.M]
theorem C_eq {s:Sc}:s.C=[.raw (.int .i64 s.low.s),.ints .i64 s.low.L,.raw (.int .i64 s.low.t),.ints .i64 s.low.M,.raw (.int .i64 s.high.s),.ints .i64 s.high.L,.raw (.int .i64 s.high.t),.ints .i64 s.high.M]:=_root_.id rfl
def ok (s:Sc):Prop:=s.low.ok/\s.high.ok/\Fc.cmp s.low s.high<=0
instance (s:Sc):Decidable s.ok:=inferInstanceAs (Decidable (_/\_))
def zero:Sc:=⟨Fc.zero,Fc.zero⟩
instance:DecidableEq Sc:=fun a b=>decidable_of_iff (a.low=b.low/\a.high=b.high) ⟨fun h=>by cases a;cases b;simp at h;simp [h],fun h=>by rw [h];exact ⟨rfl,rfl⟩⟩
def has (s:Sc) (f:Fc):Prop:=s.ok/\f.ok/\Fc.cmp s.low f<=0/\Fc.cmp f s.high<=0
instance (s:Sc) (f:Fc):Decidable (s.has f):=inferInstanceAs (Decidable (_/\_))
def inside (a b:Sc):Prop:=a.ok/\b.ok/\Fc.cmp b.low a.low<=0/\Fc.cmp a.high b.high<=0
instance (a b:Sc):Decidable (a.inside b):=inferInstanceAs (Decidable (_/\_))
def add (a b:Sc):Sc:=if a.ok/\b.ok then ⟨Fc.add a.low b.low,Fc.add a.high b.high⟩ else zero
end Sc
attribute [go_sem] Sc.C_eq
end Go.Slot
namespace Go.Slot.T
open Go Go.RowKit Go.Slot
open Go.Proofs.Tryz (prog)
set_option maxRecDepth 10000
set_option maxHeartbeats 4000000
theorem w2f {α:Type} {l:List α} {i:Nat} (d:α) (h:i<l.length):l.take (i+1)=l.take i++[l.getD i d]:=by
 rw [List.take_add_one];simp [h]
theorem rFew (f:Fc) (n:Int) (_h1:f.L.length<=1099511627776) (_h2:f.M.length<=1099511627776) :
 zkh prog 25 [.agg f.C,.one (.raw (.int .i64 n))] (.one (.raw (.bool (decide ((f.sz:Int)<=n))))):=by
 have e:((f.sz:Nat):Int)=max (f.L.length:Int) f.M.length:=by unfold Fc.sz;omega
 refine zkh.run [] Go.Proofs.Tryz.func25 rfl rfl ?_;conv=>simp (maxSteps:=2000000) (disch:=omega) only [go_sem,Nat.reduceAdd,Nat.reduceSub,Nat.reduceMul,Int.reduceToNat,Nat.reduceEqDiff,Nat.reduceBEq,Nat.reduceBneDiff,Go.Proofs.Tryz.f25,List.replicate]
 refine v9r (fun h=>?_) (fun h=>?_)
 . have h':=decide_eq_true h
   conv=>simp (maxSteps:=2000000) (disch:=omega) only [go_sem,Nat.reduceAdd,Nat.reduceSub,Nat.reduceMul,Int.reduceToNat,Nat.reduceEqDiff,Nat.reduceBEq,Nat.reduceBneDiff,h']
   exact ⟨_,rfl,by rw [show decide ((f.sz:Int)<=n)=decide ((f.M.length:Int)<=n) from decide_eq_decide.2 (by omega)];exact .one (.refl _)⟩
 . have h':=decide_eq_false h
   conv=>simp (maxSteps:=2000000) (disch:=omega) only [go_sem,Nat.reduceAdd,Nat.reduceSub,Nat.reduceMul,Int.reduceToNat,Nat.reduceEqDiff,Nat.reduceBEq,Nat.reduceBneDiff,h']
   exact ⟨_,rfl,by rw [decide_eq_false (by omega)];exact .one (.refl _)⟩
theorem v1q (f:Fc) (h1:f.L.length<=1099511627776) (h2:f.M.length<=1099511627776) :
 zkh prog 25 [.agg f.C,.one (.raw (.int .i64 4))] (.one (.raw (.bool (decide (f.sz<=4))))):=by
 have:=rFew f 4 h1 h2
 rwa [decide_eq_decide.2 (show (f.sz:Int)<=4↔f.sz<=4 by omega)] at this
theorem zwp (s:Int) (L:List Int) (s':Int) (M:List Int) (lL:L.length<=1073741824) (_lM:M.length<=1073741824) :
 zkh prog 80 [.agg [.raw (.int .i64 s),.ints .i64 L],.agg [.raw (.int .i64 s'),.ints .i64 M]] (.one (.raw (.bool (decide (s=s'/\L=M))))):=by
 obtain ⟨r,hr⟩:∃ r,r=decide (s=s'/\L=M):=⟨_,rfl⟩;rw [<-hr]
 have bad:¬(s=s'/\L=M)->false=r:=fun h=>by rw [hr,decide_eq_false h]
 by_cases h1:s=s'
 . subst h1;by_cases h2:(L.length:Int)=M.length
   . have hl:L.length=M.length:=by omega
     have h2':¬((L.length:Int)≠M.length):=fun h=>h h2
     refine zkh.run [] Go.Proofs.Tryz.func80 rfl rfl ?_;conv=>simp (maxSteps:=2000000) (disch:=omega) only [go_sem,Nat.reduceAdd,Nat.reduceSub,Nat.reduceMul,Int.reduceToNat,Nat.reduceEqDiff,Nat.reduceBEq,Nat.reduceBneDiff,Go.Proofs.Tryz.f80,List.replicate]
     refine zs6 (fun h=>absurd h h2') (fun _=>?_);refine rg ?_;refine vu2 [] (fun i:Nat=>[(5,.one (.raw (.int .i64 i)))]) (fun i=>i<=L.length/\L.take i=M.take i) (fun i=>L.length-i) 0 ⟨Nat.zero_le _,rfl⟩ ?_ ?_
     . refine rg ?_;exact StLe.weaken (by repeat' first | exact .nil | refine .cons (by first | exact .refl _ | exact .any _) ?_) rfl
     rintro i ⟨hi,he⟩;refine rg ?_;refine zs6 (fun h1=>?_) (fun h1=>?_)
     . have hg:∀(l:List Int),i<l.length->l.take (i+1)=l.take i++[l.getD i 0]:=fun l h=>w2f 0 h
       refine rg ?_;refine indk (by kernel_rfl) ?_;refine rg ?_;refine zs6 (fun h2=>?_) (fun h2=>?_)
       . refine rg ?_;exact ⟨_,rfl,by rw [bad (fun e=>h2 (by rw [e.2]))];exact .one (.refl _)⟩
       . have h2:L.getD i 0=M.getD i 0:=by omega
         refine rg ?_;refine ⟨i+1,⟨by omega,?_⟩,by omega,StLe.weaken (by repeat' first | exact .nil | refine .cons (by first | exact .refl _ | exact .any _) ?_) rfl⟩;rw [hg L (by omega),hg M (by omega),he,h2]
     . have hi:i=L.length:=by omega
       subst hi;rw [List.take_length,hl,List.take_length] at he
       have e:true=r:=by rw [hr,decide_eq_true ⟨rfl,he⟩]
       refine rg ?_;exact ⟨_,rfl,by rw [e];exact .one (.refl _)⟩
   . have h2:(L.length:Int)≠M.length:=h2
     refine zkh.run [] Go.Proofs.Tryz.func80 rfl rfl ?_;conv=>simp (maxSteps:=2000000) (disch:=omega) only [go_sem,Nat.reduceAdd,Nat.reduceSub,Nat.reduceMul,Int.reduceToNat,Nat.reduceEqDiff,Nat.reduceBEq,Nat.reduceBneDiff,Go.Proofs.Tryz.f80,List.replicate]
     refine zs6 (fun _=>?_) (fun h=>absurd h2 h);refine rg ?_;exact ⟨_,rfl,by rw [bad (fun e=>h2 (by rw [e.2]))];exact .one (.refl _)⟩
 . have h1':=decide_eq_true (show s≠s' from h1)
   refine zkh.run [] Go.Proofs.Tryz.func80 rfl rfl ?_;conv=>simp (maxSteps:=2000000) (disch:=omega) only [go_sem,Nat.reduceAdd,Nat.reduceSub,Nat.reduceMul,Int.reduceToNat,Nat.reduceEqDiff,Nat.reduceBEq,Nat.reduceBneDiff,Go.Proofs.Tryz.f80,List.replicate]
   refine v0c (fun h=>absurd h1 h) (fun h=>?_)
   conv=>simp (maxSteps:=2000000) (disch:=omega) only [go_sem,Nat.reduceAdd,Nat.reduceSub,Nat.reduceMul,Int.reduceToNat,Nat.reduceEqDiff,Nat.reduceBEq,Nat.reduceBneDiff,h1']
   exact ⟨_,rfl,by rw [bad (fun e=>h1 e.1)];exact .one (.refl _)⟩
theorem yqn (a b:Fc) (ha:a.sz<=67108864) (hb:b.sz<=67108864):zkh prog 37 [.agg a.C,.agg b.C] (.one (.raw (.bool (decide (a=b))))):=by
 have la:=szL ha;have lb:=szL hb;obtain ⟨r,hr⟩:∃ r,r=decide (a=b):=⟨_,rfl⟩;rw [<-hr];by_cases h:a.s=b.s/\a.L=b.L
 . have h1:=zwp a.s a.L b.s b.L (by omega) (by omega);rw [decide_eq_true h] at h1;have h2:=zwp a.t a.M b.t b.M (by omega) (by omega)
   have e:decide (a.t=b.t/\a.M=b.M)=r:=by
    rw [hr];apply decide_eq_decide.2;constructor
    . intro h';cases a;cases b;simp at h h';simp [h,h']
    . intro h';rw [h'];exact ⟨rfl,rfl⟩
   rw [e] at h2
   refine zkh.run [] Go.Proofs.Tryz.func37 rfl rfl ?_;conv=>simp (maxSteps:=2000000) (disch:=omega) only [go_sem,Nat.reduceAdd,Nat.reduceSub,Nat.reduceMul,Int.reduceToNat,Nat.reduceEqDiff,Nat.reduceBEq,Nat.reduceBneDiff,Go.Proofs.Tryz.f37,List.replicate]
   refine vmb h1 ?_;refine rg ?_;refine vmb h2 ?_;refine rg ?_;exact ⟨_,rfl,.one (.refl _)⟩
 . have h1:=zwp a.s a.L b.s b.L (by omega) (by omega);rw [decide_eq_false h] at h1
   have e:r=false:=by rw [hr,decide_eq_false (fun e=>h (by rw [e];exact ⟨rfl,rfl⟩))]
   subst e
   refine zkh.run [] Go.Proofs.Tryz.func37 rfl rfl ?_;conv=>simp (maxSteps:=2000000) (disch:=omega) only [go_sem,Nat.reduceAdd,Nat.reduceSub,Nat.reduceMul,Int.reduceToNat,Nat.reduceEqDiff,Nat.reduceBEq,Nat.reduceBneDiff,Go.Proofs.Tryz.f37,List.replicate]
   refine vmb h1 ?_;refine rg ?_;exact ⟨_,rfl,.one (.refl _)⟩
end Go.Slot.T
namespace Go.Hp.T
open Go Go.RowKit Go.Slot Go.Hp
set_option maxRecDepth 10000
theorem nc0:((0:Nat):Int)=0:=rfl
theorem nc1:((1:Nat):Int)=1:=rfl
theorem nc2:((2:Nat):Int)=2:=rfl
theorem nc3:((3:Nat):Int)=3:=rfl
attribute [go_sem] decide_true decide_false nc0 nc1 nc2 nc3
end Go.Hp.T
namespace Go.Hp.T
open Go Go.RowKit Go.Slot Go.Hp Go.Slot.T
open Go.Proofs.Tryz (prog)
set_option maxRecDepth 10000
set_option maxHeartbeats 4000000
variable {Γ:List (Nat×List Cell)}
theorem v3a {B : Nat} (hB : 4300 ≤ B) {x : Ex} {bs : List Bd} {ms : List Tb} (hb : ∀ b ∈ bs, b.v.sz + 10 ≤ B) : qz (valF x bs ms).1.v ≤ B * 200 := by
 unfold valF
 cases h1:vsf x with
 | false=>exact Nat.zero_le _
 | true=>cases h2:x.wqc with
  | true=>exact Nat.zero_le _
  | false=>cases h3:entF bs ms with
   | none=>exact Nat.zero_le _
   | some p=>
    have hsh:x.shaped=true:=by unfold vsf at h1;rw [Bool.and_eq_true] at h1;exact h1.2
    have h4:=zc9 (V:=p.1) (T:=p.2) hB (yu8 (V:=p.1) (T:=p.2) h3 hb) x hsh h2;have h5:=v52 h1;exact Nat.le_trans h4 (Nat.mul_le_mul_left _ h5)
theorem zuj (a b:Option Rat) (ha:qz a<=67108864) (hb:qz b<=67108864):CallsD Γ prog 37 [.agg (qC a),.agg (qC b)] (.one (cB (decide (a=b)))):=by
 have h:=toD (Γ:=Γ) (yqn (qF a) (qF b) ha hb);rw [show decide (qF a=qF b)=decide (a=b) from decide_eq_decide.2 ⟨wvl,fun h=>by rw [h]⟩] at h;exact h
theorem z2o (a b:Rs) (ha:qz a.v<=67108864) (hb:qz b.v<=67108864):CallsD Γ prog 13 [.agg (rsC a),.agg (rsC b)] (.one (cB (decide (a=b)))):=by
 have h:=zuj (Γ:=Γ) a.v b.v ha hb;obtain ⟨t,i,v⟩:=a;obtain ⟨u,j,w⟩:=b;simp only at h
 have e:decide ((⟨t,i,v⟩:Rs)=⟨u,j,w⟩)=(t==u&&(i==j&&decide (v=w))):=by
  apply Bool.eq_iff_iff.2;simp only [Rs.mk.injEq,decide_eq_true_eq,Bool.and_eq_true,beq_iff_eq]
 rw [e];generalize decide (v=w)=r at h
 cases t<;>cases u<;>cases i<;>cases j
 all_goals
  refine CallsD.run [] Go.Proofs.Tryz.func13 rfl rfl rfl ?_;simp only [Go.Proofs.Tryz.f13];refine hgR ?_
  repeat' ((first | refine hfk ?_ ?_<;>intros | refine hik ?_ | with_reducible first | refine y5m (h) ?_ | refine vtc (h) ?_)<;>refine hgS ?_)
  all_goals (refine RLe.ofEq ?_;conv=>simp only [Bool.and_true,Bool.true_and,Bool.and_false,Bool.false_and,Bool.or_true,Bool.true_or,Bool.or_false,Bool.false_or,Bool.not_true,Bool.not_false,decide_true,decide_false,not_true_eq_false,not_false_eq_true,x9k,if_true,if_false,Bool.and_self,Bool.or_self,cond_true,cond_false,List.length_map,ne_eq,Int.reduceEq,Int.reduceLT,Int.reduceLE, *]);first | exact trivial | rfl
def wm3 (t:Tb):Bool:=decide ((t.rows.length:Int)<=110)&&(decide ((t.name.size:Int)<=40)&&decide ((t.unit.size:Int)<=40))
theorem x5d (t:Tb) (_h3:t.rows.length<=1073741824):CallsD Γ prog 62 [.agg (tbC t)] (.one (cB (wm3 t))):=by
 refine CallsD.run [] Go.Proofs.Tryz.func62 rfl rfl rfl ?_;simp only [Go.Proofs.Tryz.f62];refine hgR ?_
 repeat' ((first | refine hfk ?_ ?_<;>intros | refine hik ?_)<;>refine hgS ?_)
 all_goals (refine RLe.ofEq ?_;conv=>simp only [Bool.and_true,Bool.true_and,Bool.and_false,Bool.false_and,Bool.or_true,Bool.true_or,Bool.or_false,Bool.false_or,Bool.not_true,Bool.not_false,decide_true,decide_false,not_true_eq_false,not_false_eq_true,x9k,if_true,if_false,Bool.and_self,Bool.or_self,cond_true,cond_false,List.length_map,ne_eq,Int.reduceEq,Int.reduceLT,Int.reduceLE, *,wm3]);first | exact trivial | rfl
def wnu (ms:List Tb):Bool:=(ms.take 7).all wm3&&decide ((ms.length:Int)<=6)
theorem z9m (ms:List Tb) (_hm:ms.length<=1073741824) (hms:∀ t∈ms,t.Sm):CallsD Γ prog 31 [.one (.sl 3 (ms.map Tb.C))] (.one (cB (wnu ms))):=by
 refine CallsD.run [] Go.Proofs.Tryz.func31 rfl rfl rfl ?_;simp only [Go.Proofs.Tryz.f31];refine hgR ?_;refine y31 [0] (fun n:Nat=>[(3,.one (.dat (cI n)))]) (fun _=>[]) (fun n=>n<=ms.length/\n<=7/\∀ j,j<n->wm3 (ms.getD j default)=true) (fun n=>ms.length-n) 0 ⟨Nat.zero_le _,by omega,fun j hj=>by omega⟩ ?_ ?_
 . refine hg ?_;exact StH.same svl rfl
 rintro n ⟨hn,hn7,hj⟩
 have hc:n<ms.length->CallsD Γ prog 62 [.agg (tbC (ms.getD n default))] (.one (cB (wm3 (ms.getD n default)))):=fun h=>x5d _ (hms _ (zkt h)).r
 refine hg ?_
 repeat' ((first | refine hfk ?_ ?_<;>intros | refine hik ?_ | with_reducible first | refine y5m (hc (by omega)) ?_ | refine vtc (hc (by omega)) ?_)<;>refine hgS ?_)
 . rename_i h;exact RLe.ofEq (by unfold wnu;rw [yau (n:=7) (i:=n) (by omega) (by omega) h];rfl)
 . rename_i h;exact ⟨n+1,⟨by omega,by omega,x84 hj h⟩,by omega,StH.same svl rfl⟩
 . have e:wnu ms=decide ((ms.length:Int)<=6):=by unfold wnu;rw [yzp hj (by omega)];rfl
   rw [e];exact RLe.ofEq rfl
 . have e:wnu ms=decide ((ms.length:Int)<=6):=by unfold wnu;rw [yzp hj (by omega)];rfl
   rw [e];exact RLe.ofEq rfl
def xfb (b:Bd):Bool:=decide ((b.name.size:Int)<=40)&&decide (b.v.sz<=4)
def wp3 (x:Ex):Bool:=decide (0<=x.rsz 40 9)||(!decide (0<=x.rsz 200 20)&&decide (0<=x.rsz 260 30))
def vxr (x:Ex) (bs:List Bd) (ms:List Tb):Bool:=wp3 x&&((bs.take 13).all xfb&&(decide ((bs.length:Int)<=12)&&wnu ms))
structure Bd.Sm (b:Bd):Prop where
 n:b.name.size<=1073741824
 l:b.v.L.length<=1073741824
 m:b.v.M.length<=1073741824
theorem y17 (x:Ex) (bs:List Bd) (ms:List Tb) (hx:x.Sm) (hb:bs.length<=1073741824) (hbs:∀ b∈bs,b.Sm) (hm:ms.length<=1073741824) (hms:∀ t∈ms,t.Sm):CallsD Γ prog 10 [.agg (exC x),.one (.sl 5 (bs.map Bd.C)),.one (.sl 3 (ms.map Tb.C))] (.one (cB (vxr x bs ms))):=by
 have f1:=rFew (Γ:=Γ) x hx 40 9 (by decide) (by decide) (by decide) (by decide);have f2:=rFew (Γ:=Γ) x hx 200 20 (by decide) (by decide) (by decide) (by decide);have f3:=rFew (Γ:=Γ) x hx 260 30 (by decide) (by decide) (by decide) (by decide);have f4:=z9m (Γ:=Γ) ms hm hms;unfold vxr wp3;generalize decide (0<=x.rsz 40 9)=b1 at f1;generalize decide (0<=x.rsz 200 20)=b2 at f2;generalize decide (0<=x.rsz 260 30)=b3 at f3;generalize wnu ms=b4 at f4;clear hms hx
 have main:∀ R:Bool,((bs.take 13).all xfb&&(decide ((bs.length:Int)<=12)&&b4))=R->(b1||(!b2&&b3))=true->CallsD Γ prog 10 [.agg (exC x),.one (.sl 5 (bs.map Bd.C)),.one (.sl 3 (ms.map Tb.C))] (.one (cB R)):=by
  intro R hR hb1;refine CallsD.run [] Go.Proofs.Tryz.func10 rfl rfl rfl ?_;simp only [Go.Proofs.Tryz.f10];refine hgR ?_
  repeat' ((first | refine hfk ?_ ?_<;>intros | refine hik ?_ | with_reducible first | refine y5m (f1) ?_ | refine vtc (f1) ?_ | refine y5m (f2) ?_ | refine vtc (f2) ?_ | refine y5m (f3) ?_ | refine vtc (f3) ?_)<;>refine hgS ?_)
  all_goals try (exfalso;simp_all;done)
  all_goals
   clear hb1;refine y31 [1,2,3] (fun n:Nat=>[(7,.one (.dat (cI n)))]) (fun _=>[.box ((exC x).map .dat) (some 24)]) (fun n=>n<=bs.length/\n<=13/\∀ j,j<n->xfb (bs.getD j default)=true) (fun n=>bs.length-n) 0 ⟨Nat.zero_le _,by omega,fun j hj=>by omega⟩ ?_ ?_
   . refine hg ?_;exact StH.same svl rfl
   rintro n ⟨hn,hn13,hj⟩
   have hc:n<bs.length->CallsD Γ prog 25 [.agg [.raw (.int .i64 (bs.getD n default).v.s),.ints .i64 (bs.getD n default).v.L,.raw (.int .i64 (bs.getD n default).v.t),.ints .i64 (bs.getD n default).v.M],.one (cI 4)] (.one (cB (decide ((bs.getD n default).v.sz<=4)))):=fun h=>toD (v1q _ (by have:=(hbs _ (zkt h)).l;omega) (by have:=(hbs _ (zkt h)).m;omega))
   refine hg ?_
   repeat' ((first | refine hfk ?_ ?_<;>intros | refine hik ?_ | with_reducible first | refine y5m (hc (by omega)) ?_ | refine vtc (hc (by omega)) ?_ | refine y5m (f4) ?_ | refine vtc (f4) ?_)<;>refine hgS ?_)
   all_goals first
    | exact ⟨n+1,⟨by omega,by omega,x84 hj (by unfold xfb;simp only [Bool.and_eq_true,decide_eq_true_eq];omega)⟩,by omega,StH.same svl rfl⟩
    | (rw [<-hR,yau (n:=13) (i:=n) (by omega) (by omega) (by unfold xfb;simp only [Bool.and_eq_false_iff,decide_eq_false_iff_not];omega)];exact RLe.ofEq rfl)
    | (rw [<-hR,yzp hj (by omega)];(refine RLe.ofEq ?_;conv=>simp only [Bool.and_true,Bool.true_and,Bool.and_false,Bool.false_and,Bool.or_true,Bool.true_or,Bool.or_false,Bool.false_or,Bool.not_true,Bool.not_false,decide_true,decide_false,not_true_eq_false,not_false_eq_true,x9k,if_true,if_false,Bool.and_self,Bool.or_self,cond_true,cond_false,List.length_map,ne_eq,Int.reduceEq,Int.reduceLT,Int.reduceLE, *]);first | exact trivial | rfl)
 cases h:(b1||(!b2&&b3)) with
 | true=>exact main _ rfl h
 | false=>
  refine CallsD.run [] Go.Proofs.Tryz.func10 rfl rfl rfl ?_;simp only [Go.Proofs.Tryz.f10];refine hgR ?_
  repeat' ((first | refine hfk ?_ ?_<;>intros | refine hik ?_ | with_reducible first | refine y5m (f1) ?_ | refine vtc (f1) ?_ | refine y5m (f2) ?_ | refine vtc (f2) ?_ | refine y5m (f3) ?_ | refine vtc (f3) ?_)<;>refine hgS ?_)
  all_goals first
   | exact RLe.ofEq rfl
   | (exfalso;simp_all;done)
end Go.Hp.T
