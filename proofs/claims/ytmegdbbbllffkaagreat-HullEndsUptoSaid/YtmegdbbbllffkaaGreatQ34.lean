/- The proof, part Q34: Se, Sp, Sq. -/
import Derived.Test.YtmegdbbbllffkaaGreatQ32
import Derived.Test.YtmegdbbbllffkaaGreatQ33
namespace Go.Hp.T
open Go Go.RowKit Go.Slot Go.Hp Go.Slot.T
set_option maxRecDepth 10000
set_option maxHeartbeats 4000000
inductive Kn where
 | tru (c d:Bool)
 | num (v:Iv)
deriving DecidableEq
instance:Inhabited Kn:=⟨.tru false false⟩
def Kn.t:Kn->Bool
 | .tru _ _=>true
 | .num _=>false
def Kn.c:Kn->Bool
 | .tru c _=>c
 | .num _=>false
def Kn.d:Kn->Bool
 | .tru _ d=>d
 | .num _=>false
def Kn.s:Kn->Sc
 | .tru _ _=>Sc.zero
 | .num v=>ivS v
def Kn.v:Kn->Iv
 | .tru _ _=>default
 | .num v=>v
def Kn.C (k:Kn):List Cell:=cB k.t::cB k.c::cB k.d::scC k.s
abbrev knC (k:Kn):List Cell:=[cB k.t,cB k.c,cB k.d,.raw (.int .i64 k.s.low.s),.ints .i64 k.s.low.L,.raw (.int .i64 k.s.low.t),.ints .i64 k.s.low.M,.raw (.int .i64 k.s.high.s),.ints .i64 k.s.high.L,.raw (.int .i64 k.s.high.t),.ints .i64 k.s.high.M]
theorem Kn.C_eq (k:Kn):k.C=knC k:=_root_.id rfl
theorem Kn.yoz {c d:Bool}:(Kn.tru c d).t=true:=_root_.id rfl
theorem Kn.ykm {c d:Bool}:(Kn.tru c d).c=c:=_root_.id rfl
theorem Kn.zqa {c d:Bool}:(Kn.tru c d).d=d:=_root_.id rfl
theorem Kn.v89 {c d:Bool}:(Kn.tru c d).s=Sc.zero:=_root_.id rfl
theorem Kn.xoj {v:Iv}:(Kn.num v).t=false:=_root_.id rfl
theorem Kn.vni {v:Iv}:(Kn.num v).c=false:=_root_.id rfl
theorem Kn.xaf {v:Iv}:(Kn.num v).d=false:=_root_.id rfl
theorem Kn.xdd {v:Iv}:(Kn.num v).s.low=qF (some v.lo):=_root_.id rfl
theorem Kn.xki {v:Iv}:(Kn.num v).s.high=qF (some v.hi):=_root_.id rfl
abbrev Kr:=Int ⊕ Kn
instance:Inhabited Kr:=⟨.inl 0⟩
def krE:Kr->Int
 | .inl e=>e
 | .inr _=>0
def krK:Kr->Kn
 | .inl _=>.tru false false
 | .inr k=>k
def krT:Kr->Bool
 | .inl _=>false
 | .inr k=>k.t
theorem whl {e:Int}:krE (.inl e)=e:=_root_.id rfl
theorem yoi {k:Kn}:krE (.inr k)=0:=_root_.id rfl
theorem yrv {e:Int}:krT (.inl e)=false:=_root_.id rfl
theorem vcf {k:Kn}:krT (.inr k)=k.t:=_root_.id rfl
theorem xgn {e:Int}:krK (.inl e)=.tru false false:=_root_.id rfl
theorem wb4 {k:Kn}:krK (.inr k)=k:=_root_.id rfl
attribute [go_sem] Kn.C_eq Kn.yoz Kn.ykm Kn.zqa Kn.v89 Kn.xoj Kn.vni Kn.xaf Kn.xdd Kn.xki whl yoi yrv vcf xgn wb4
abbrev krC (r:Kr):List Cell:=[cB (krT r),cB (krK r).c,cB (krK r).d,.raw (.int .i64 (krK r).s.low.s),.ints .i64 (krK r).s.low.L,.raw (.int .i64 (krK r).s.low.t),.ints .i64 (krK r).s.low.M,.raw (.int .i64 (krK r).s.high.s),.ints .i64 (krK r).s.high.L,.raw (.int .i64 (krK r).s.high.t),.ints .i64 (krK r).s.high.M]
abbrev krR (r:Kr):AV:=.tup [.agg (krC r),.one (cI (krE r))]
abbrev krV (r:Kr):SV:=.tup [.agg ((krC r).map .dat),.one (.dat (cI (krE r)))]
abbrev Vi:=List (ByteArray×Iv)
def envI (l:Vi):List (Value×SV):=envM (fun v=>.agg ((ivC v).map .dat)) l
theorem v4h {T:Vi} {s:ByteArray}:zgw (envI T) (.string s)=some ((ycr T s).map fun v=>.agg ((ivC v).map .dat)):=vi5
theorem wdx {T:Vi} {s:ByteArray} {v:Iv}:updM (envI T) (.string s) (.agg [.dat (.raw (.int .i64 (qF (some v.lo)).s)),.dat (.ints .i64 (qF (some v.lo)).L),.dat (.raw (.int .i64 (qF (some v.lo)).t)),.dat (.ints .i64 (qF (some v.lo)).M),.dat (.raw (.int .i64 (qF (some v.hi)).s)),.dat (.ints .i64 (qF (some v.hi)).L),.dat (.raw (.int .i64 (qF (some v.hi)).t)),.dat (.ints .i64 (qF (some v.hi)).M)])=some (envI (updF T s v)):=z6j (C:=fun v=>.agg ((ivC v).map .dat))
attribute [go_sem] v4h wdx
structure Zn where
 name:ByteArray
 s:Sc
instance:Inhabited Zn:=⟨⟨⟨#[]⟩,Sc.zero⟩⟩
def Zn.C (x:Zn):List Cell:=cS x.name::scC x.s
abbrev znC (x:Zn):List Cell:=[cS x.name,.raw (.int .i64 x.s.low.s),.ints .i64 x.s.low.L,.raw (.int .i64 x.s.low.t),.ints .i64 x.s.low.M,.raw (.int .i64 x.s.high.s),.ints .i64 x.s.high.L,.raw (.int .i64 x.s.high.t),.ints .i64 x.s.high.M]
theorem Zn.C_eq (x:Zn):x.C=znC x:=_root_.id rfl
attribute [go_sem] Zn.C_eq
def ivOf (s:Sc):Iv:=if h:s.low.val<=s.high.val then ⟨s.low.val,s.high.val,h⟩ else default
theorem xjv (v:Iv):ivOf (ivS v)=v:=by
 unfold ivOf;have e1:(ivS v).low.val=v.lo:=Fc.w2h _;have e2:(ivS v).high.val=v.hi:=Fc.w2h _;rw [dif_pos (by rw [e1,e2];exact v.h)];exact Iv.ext' e1 e2
abbrev rZ (V:Vi) (l:List Zn):Option Vi:=gE Zn.name (fun b=>decide b.s.ok) (fun b=>ivOf b.s) (fun _=>false) V l
abbrev rTi (V:Vi) (T:Vt) (l:List Tb):Option Vt:=gE Tb.name tbOk id (fun s=>(ycr V s).isSome) T l
abbrev entZ (zs:List Zn) (ms:List Tb):Option (Vi×Vt):=entG Zn.name (fun b=>decide b.s.ok) (fun b=>ivOf b.s) tbOk zs ms
def vlw (n:Int) (u:ByteArray):Kr:=bif decide (¬(zth u).2=0) then .inl 14 else match mulO (some (n:Rat)) (facO u) with
 | some q=>.inr (.num (Iv.pt q))
 | none=>.inl 14
def yy3 (V:Vi) (s:ByteArray):Kr:=match ycr V s with
 | none=>.inl 11
 | some v=>.inr (.num v)
def xx9:Kn->Kn->Kr
 | .tru c d,.tru c' d'=>.inr (.tru (c||c') (d||d'))
 | .num a,.num b=>.inr (.num (a.hull b))
 | _,_=>.inl 13
def chH (r0 r1 r2:Kr):Kr:=match r0 with
 | .inl e=>.inl e
 | .inr (.num _)=>.inl 13
 | .inr (.tru c d)=>bif !c then r2 else match r1 with
  | .inl e=>.inl e
  | .inr a=>bif !d then .inr a else match r2 with
   | .inl e=>.inl e
   | .inr b=>xx9 a b
def truH (o:Int) (a b:Kn):Kn:=bif decide (o=4) then .tru a.d a.c else bif decide (o=14) then .tru (a.c&&b.c) (a.d||b.d) else .tru (a.c||b.c) (a.d&&b.d)
def numH (o:Int) (a b:Iv):Kr:=
 bif decide (o=6) then .inr (.num (a.add b)) else
 bif decide (o=7) then .inr (.num (a.sub b)) else
 bif decide (o=8) then .inr (.num (a.mul b)) else
 bif decide (o=9) then (bif b.has 0 then .inl 15 else .inr (.num (a.mul b.inv))) else
 bif decide (o=10) then .inr (.num (a.minI b)) else
 bif decide (o=11) then .inr (.num (a.maxI b)) else
 bif decide (o=12) then .inr (.tru (decide (a.lo<b.hi)) (decide (b.lo<=a.hi))) else
 .inr (.tru (a.meets b) (!(decide (a=b)&&decide (a.lo=a.hi))))
def yk1 (t:Tb) (k:Iv):List Rw->Iv->Iv
 | [],v=>v
 | r::l,v=>yk1 t k l (bif k.has (r.k:Rat) then v.hull (Iv.pt ((wyo t (some (r.k:Rat))).1.getD 0)) else v)
def x7a (t:Tb) (k:Iv):Kr:=bif decide ((wyo t (some k.lo)).2=0) then .inr (.num (yk1 t k t.rows (Iv.pt ((wyo t (some k.lo)).1.getD 0)))) else .inl (wyo t (some k.lo)).2
def ze4 (o:Int):Bool:=decide (o=4)||decide (o=14)||decide (o=15)
def opH (T:Vt) (o:Int) (s:ByteArray) (l:List Kn):Kr:=
 bif decide (o=2)&&!(ycr T s).isSome then .inl 11 else
 bif l.any (fun k=>!(k.t==ze4 o)) then .inl 13 else
 bif ze4 o then .inr (truH o (l.getD 0 default) (l.getD 1 default)) else
 bif decide (o=2) then x7a ((ycr T s).getD default) (l.getD 0 default).v else
 numH o (l.getD 0 default).v (l.getD 1 default).v
def seqH:List Kr->Int ⊕ List Kn
 | []=>.inr []
 | .inl e::_=>.inl e
 | .inr k::l=>match seqH l with
  | .inl e=>.inl e
  | .inr ks=>.inr (k::ks)
def zj9 (T:Vt) (o:Int) (s:ByteArray) (q:Int ⊕ List Kn):Kr:=match q with
 | .inl e=>.inl e
 | .inr ks=>opH T o s ks
mutual
def Ex.hul (V:Vi) (T:Vt):Ex->Kr
 | .mk o n u s l=>bif decide (o=0) then vlw n u else bif decide (o=1) then yy3 V s else
  bif decide (o=5) then chH ((Ex.hulA V T l).getD 0 default) ((Ex.hulA V T l).getD 1 default) ((Ex.hulA V T l).getD 2 default) else zj9 T o s (seqH (Ex.hulA V T l))
def Ex.hulA (V:Vi) (T:Vt):List Ex->List Kr
 | []=>[]
 | y::l=>Ex.hul V T y::Ex.hulA V T l
end
theorem Ex.wos (V:Vi) (T:Vt):∀ l:List Ex,Ex.hulA V T l=l.map (Ex.hul V T)
 | []=>by rw [Ex.hulA];rfl
 | y::l=>by rw [Ex.hulA,Ex.wos V T l];rfl
theorem Ex.y5j (V:Vi) (T:Vt) (x:Ex):x.hul V T=bif decide (x.op=0) then vlw x.n x.unit else bif decide (x.op=1) then yy3 V x.name else
 bif decide (x.op=5) then chH ((x.args.map (Ex.hul V T)).getD 0 default) ((x.args.map (Ex.hul V T)).getD 1 default) ((x.args.map (Ex.hul V T)).getD 2 default) else zj9 T x.op x.name (seqH (x.args.map (Ex.hul V T))):=by
 cases x with
 | mk o n u s l=>rw [Ex.hul,Ex.wos];rfl
def hulF (x:Ex) (zs:List Zn) (ms:List Tb):Kr:=bif !xub x||x.xi4 then .inl 2 else match entZ zs ms with
 | none=>.inl 1
 | some p=>x.hul p.1 p.2
def zq3 (t:Bool):Kr->Kr
 | .inl e=>.inl e
 | .inr k=>bif k.t==t then .inr k else .inl 13
theorem wym:∀{l:List Kr} {ks:List Kn},seqH l=.inr ks->ks.length=l.length/\∀ i,i<l.length->l.getD i default=.inr (ks.getD i default)
 | [],ks,h=>by rw [seqH] at h;cases h;exact ⟨rfl,fun i hi=>by simp at hi⟩
 | .inl e::l,ks,h=>by rw [seqH] at h;cases h
 | .inr k::l,ks,h=>by
  rw [seqH] at h
  cases hs:seqH l with
  | inl e=>rw [hs] at h;cases h
  | inr r2=>
   rw [hs] at h;cases h;obtain ⟨h1,h2⟩:=wym hs;refine ⟨by simp [h1],fun i hi=>?_⟩
   cases i with
   | zero=>rfl
   | succ i=>simpa using h2 i (by simpa using hi)
theorem v56:∀{l:List Kr} {e:Int},seqH l=.inl e->Sum.inl e∈l
 | [],e,h=>by rw [seqH] at h;cases h
 | .inl e'::l,e,h=>by rw [seqH] at h;cases h;exact List.mem_cons_self
 | .inr k::l,e,h=>by
  rw [seqH] at h
  cases hs:seqH l with
  | inl e'=>rw [hs] at h;cases h;exact List.mem_cons_of_mem _ (v56 hs)
  | inr r2=>rw [hs] at h;cases h
def Kok (n:Nat):Kr->Prop
 | .inl e=>e≠0
 | .inr (.tru _ _)=>True
 | .inr (.num v)=>ivZ v<=n
theorem Kok.mono {n m:Nat} (h:n<=m):∀{r:Kr},Kok n r->Kok m r
 | .inl _,q=>q
 | .inr (.tru _ _),_=>trivial
 | .inr (.num _),q=>Nat.le_trans q h
theorem yp5 (q:Rat):ivZ (Iv.pt q)=qs q:=Nat.max_self _
theorem wsl {a b c d:Rat} {n:Nat} (h1:qs a<=n) (h2:qs b<=n) (h3:qs c<=n) (h4:qs d<=n):qs (mn4 a b c d)<=n/\qs (mx4 a b c d)<=n:=by
 constructor
 . rcases xv8 a b c d with e | e | e | e<;>rw [e]<;>assumption
 . rcases y66 a b c d with e | e | e | e<;>rw [e]<;>assumption
theorem wtw (v:Iv):qs v.lo<=ivZ v:=Nat.le_max_left _ _
theorem vin (v:Iv):qs v.hi<=ivZ v:=Nat.le_max_right _ _
theorem whn {a b c d:Rat} {n:Nat} (h1:qs a<=n) (h2:qs b<=n) (h3:qs c<=n) (h4:qs d<=n):ivZ (Iv.round a b c d)<=n:=by
 have:=wsl h1 h2 h3 h4
 exact Nat.max_le.2 this
theorem z0f (a b:Iv):ivZ (a.add b)<=ivZ a+ivZ b+1:=by
 have h1:qs (a.lo+b.lo)<=qs a.lo+qs b.lo+1:=Fc.va3 a.lo b.lo;have h2:qs (a.hi+b.hi)<=qs a.hi+qs b.hi+1:=Fc.va3 a.hi b.hi
 have:=wtw a;have:=wtw b;have:=vin a;have:=vin b
 exact Nat.max_le.2 ⟨by show qs (a.lo+b.lo)<=_;omega,by show qs (a.hi+b.hi)<=_;omega⟩
theorem zro (a b:Iv):ivZ (a.sub b)<=ivZ a+ivZ b+1:=by
 have:=z0f a b.neg
 rw [za4] at this;exact this
theorem vl3 (a b:Iv):ivZ (a.mul b)<=ivZ a+ivZ b:=by
 have:=wtw a;have:=wtw b;have:=vin a;have:=vin b
 have h1:=yfd a.lo b.lo;have h2:=yfd a.lo b.hi;have h3:=yfd a.hi b.lo;have h4:=yfd a.hi b.hi;exact whn (by omega) (by omega) (by omega) (by omega)
theorem ysj {a b:Iv} {n:Nat} (ha:ivZ a<=n) (hb:ivZ b<=n):ivZ (a.hull b)<=n:=by
 have:=wtw a;have:=wtw b;have:=vin a;have:=vin b
 exact whn (by omega) (by omega) (by omega) (by omega)
theorem xx0 {a b:Iv} {n:Nat} (ha:ivZ a<=n) (hb:ivZ b<=n):ivZ (a.minI b)<=n:=by
 have:=wtw a;have:=wtw b;have:=vin a;have:=vin b
 refine Nat.max_le.2 ⟨?_,?_⟩
 . show qs (min a.lo b.lo)<=n
   rcases vdq a.lo b.lo with e | e<;>rw [e]<;>omega
 . show qs (min a.hi b.hi)<=n
   rcases vdq a.hi b.hi with e | e<;>rw [e]<;>omega
theorem yqv {a b:Iv} {n:Nat} (ha:ivZ a<=n) (hb:ivZ b<=n):ivZ (a.maxI b)<=n:=by
 have:=wtw a;have:=wtw b;have:=vin a;have:=vin b
 refine Nat.max_le.2 ⟨?_,?_⟩
 . show qs (max a.lo b.lo)<=n
   rcases yqy a.lo b.lo with e | e<;>rw [e]<;>omega
 . show qs (max a.hi b.hi)<=n
   rcases yqy a.hi b.hi with e | e<;>rw [e]<;>omega
theorem xfj (b:Iv):ivZ b.inv<=ivZ b+5:=by
 unfold Iv.inv
 have:=wtw b;have:=vin b
 split
 . have s1:qs (1 / b.hi)<=_:=x3x ((1:Int):Rat) b.hi;have s2:qs (1 / b.lo)<=_:=x3x ((1:Int):Rat) b.lo
   have:=wse
   exact Nat.max_le.2 ⟨by show qs (1 / b.hi)<=_;omega,by show qs (1 / b.lo)<=_;omega⟩
 . omega
theorem yqt {t:Tb} (ht:tbOk t=true) (q:Rat):((wyo t (some q)).2=0/\∃ w,(wyo t (some q)).1=some w/\qs w<=4204)\/((wyo t (some q)).2=4/\(wyo t (some q)).1=none):=by
 obtain ⟨⟨u,hu,hq⟩,_,_,hr⟩:=yun ht;have hz:=xbu t (some q);unfold wyo at hz ⊢;rw [show zi4 (fun s=>(zth s).2) t=true from ht] at hz ⊢;simp only [Bool.not_true,cond_false] at hz ⊢
 cases h0:decide (aft q t.rows=0) with
 | true=>exact .inr ⟨rfl,rfl⟩
 | false=>
  rw [h0] at hz;refine .inl ⟨rfl,((t.rows.getD (aft q t.rows-1) default).v:Rat)*u.f,?_,?_⟩
  . simp only [cond_false];unfold zxd facO;rw [hu];rfl
  . have:qz (zxd t (t.rows.getD (aft q t.rows-1) default).v)<=4204:=hz
    unfold zxd facO at this;rw [hu] at this;exact this
theorem zy9 {t:Tb} (ht:tbOk t=true) (k:Iv):∀(l:List Rw) (v:Iv),ivZ v<=4204->ivZ (yk1 t k l v)<=4204
 | [],v,h=>h
 | r::l,v,h=>by
  refine zy9 ht k l _ ?_
  cases k.has (r.k:Rat) with
  | false=>exact h
  | true=>
   refine ysj h ?_;rw [yp5]
   rcases yqt ht (r.k:Rat) with ⟨_,w,hw,hq⟩ | ⟨_,hw⟩<;>rw [hw]
   . exact hq
   . have:=wtn (n:=0) (by unfold inI;omega)
     exact Nat.le_trans this (by decide)
theorem xgq {t:Tb} (ht:tbOk t=true) (k:Iv):Kok 4204 (x7a t k):=by
 unfold x7a
 rcases yqt ht k.lo with ⟨h,w,hw,hq⟩ | ⟨h,hw⟩
 . rw [h,decide_eq_true rfl,cond_true,hw];exact zy9 ht k _ _ (by rw [yp5];exact hq)
 . rw [h];exact (by decide:(4:Int)≠0)
theorem xeg (o:Int) (a b:Iv):Kok (ivZ a+ivZ b+5) (numH o a b):=by
 have h1:=z0f a b;have h2:=zro a b;have h3:=vl3 a b;have h4:=vl3 a b.inv;have h5:=xfj b;have h6:=xx0 (a:=a) (b:=b) (n:=ivZ a+ivZ b+5) (by omega) (by omega);have h7:=yqv (a:=a) (b:=b) (n:=ivZ a+ivZ b+5) (by omega) (by omega);unfold numH
 repeat' first
  | exact trivial
  | (show ivZ _<=_;omega)
  | (show (15:Int)≠0;decide)
  | (cases decide (o=_)<;>simp only [cond_true,cond_false])
  | (cases b.has 0<;>simp only [cond_true,cond_false])
def Ism (B:Nat) (V:Vi):Prop:=∀ s v,ycr V s=some v->ivZ v+10<=B
theorem zfk {V:Vi} {T:Vt} {B:Nat} (hB:4300<=B) (hV:Ism B V) (hT:∀ s t,ycr T s=some t->t.Sm/\tbOk t=true):∀ x:Ex,x.shaped=true->x.xi4=false->Kok (B*x.nd) (x.hul V T):=by
 refine Ex.ind (fun x ih hsh hcl=>?_);rw [Ex.xg3,Bool.and_eq_true,List.all_eq_true] at hsh;rw [Ex.wd9,Bool.or_eq_false_iff,decide_eq_false_iff_not,List.any_eq_false] at hcl;obtain ⟨hnode,hargs⟩:=hsh;have hnd:=Ex.yuy x;have h1:B<=B*x.nd:=Nat.le_mul_of_pos_right _ (by omega)
 have hmem:∀ i,i<x.args.length->Kok (B*(x.args.getD i default).nd) ((x.args.map (Ex.hul V T)).getD i default):=fun i hi=>by
  have hm:=w4t hi;rw [getD_map hi];exact ih _ hm (hargs _ hm) (by simpa using hcl.2 _ hm)
 have hle:∀ i,i<x.args.length->B*(x.args.getD i default).nd<=B*x.nd:=fun i hi=>Nat.mul_le_mul_left _ (by have:=Ex.xks (w4t hi);omega)
 rw [Ex.y5j];by_cases h0:x.op=0
 . rw [decide_eq_true h0,cond_true];have hn:=zta hnode h0;unfold vlw
   rcases v4u x.unit with ⟨u,h,hq⟩ | ⟨e,he,h⟩
   . unfold facO;rw [h];show ivZ (Iv.pt ((x.n:Rat)*u.f))<=_;rw [yp5];have h2:=yfd (x.n:Rat) u.f;have h3:qs (x.n:Rat)<=4:=wtn (n:=x.n) (by unfold inI;omega);omega
   . rw [h,show decide (¬e=0)=true from decide_eq_true he];exact (by decide:(14:Int)≠0)
 rw [decide_eq_false h0,cond_false];by_cases h01:x.op=1
 . rw [decide_eq_true h01,cond_true];unfold yy3
   cases hl:ycr V x.name with
   | none=>exact (by decide:(11:Int)≠0)
   | some v=>
    have:=hV _ _ hl
    show ivZ v<=_;omega
 rw [decide_eq_false h01,cond_false]
 have hne:x.args.length≠0:=fun h=>by
  unfold yxn at hnode;rw [decide_eq_false h0,decide_eq_false h01,h] at hnode;simp at hnode
 obtain ⟨hl2,hl3⟩:=x6z hnode hcl.1 hne;by_cases h5:x.op=5
 . rw [decide_eq_true h5,cond_true];have hl:=hl3 h5;have k0:=hmem 0 (by omega);have k1:=(hmem 1 (by omega)).mono (hle 1 (by omega));have k2:=(hmem 2 (by omega)).mono (hle 2 (by omega));generalize (x.args.map (Ex.hul V T)).getD 0 default=r0 at k0;generalize (x.args.map (Ex.hul V T)).getD 1 default=r1 at k1;generalize (x.args.map (Ex.hul V T)).getD 2 default=r2 at k2;unfold chH
   rcases r0 with e | ⟨c,d⟩ | v
   . exact k0
   . cases c
     . exact k2
     . rcases r1 with e | a
       . exact k1
       . cases d
         . exact k1
         . rcases r2 with e | b
           . exact k2
           . rcases a with ⟨c,d⟩ | a<;>rcases b with ⟨c',d'⟩ | b
             . exact trivial
             . exact (by decide:(13:Int)≠0)
             . exact (by decide:(13:Int)≠0)
             . exact ysj k1 k2
   . exact (by decide:(13:Int)≠0)
 rw [decide_eq_false h5,cond_false]
 cases hs:seqH (x.args.map (Ex.hul V T)) with
 | inl e=>
  obtain ⟨i,hi,he⟩:=List.getElem_of_mem (v56 hs);rw [List.length_map] at hi
  have:=hmem i hi
  rw [show (x.args.map (Ex.hul V T)).getD i default=.inl e from by rw [<-he];simp [hi]] at this;exact this
 | inr ks=>
  obtain ⟨hlen,hget⟩:=wym hs;rw [List.length_map] at hlen hget;show Kok _ (opH T x.op x.name ks);unfold opH
  cases hA:decide (x.op=2)&&!(ycr T x.name).isSome with
  | true=>exact (by decide:(11:Int)≠0)
  | false=>
   rw [cond_false]
   cases hany:ks.any (fun k=>!(k.t==ze4 x.op)) with
   | true=>exact (by decide:(13:Int)≠0)
   | false=>
    rw [cond_false]
    cases hlg:ze4 x.op with
    | true=>
     rw [cond_true];unfold truH
     cases decide (x.op=4)<;>cases decide (x.op=14)<;>exact trivial
    | false=>
     rw [cond_false];by_cases h2:x.op=2
     . rw [decide_eq_true h2] at hA ⊢;rw [cond_true]
       cases hl:ycr T x.name with
       | none=>rw [hl] at hA;cases hA
       | some t=>exact (xgq (hT _ _ hl).2 _).mono (by omega)
     . rw [decide_eq_false h2,cond_false]
       have h4:x.op≠4:=fun h=>by unfold ze4 at hlg;rw [decide_eq_true h] at hlg;simp at hlg
       have hl:=hl2 h2 h4;have ha:=xeg x.op (ks.getD 0 default).v (ks.getD 1 default).v;have m0:=hmem 0 (by omega);have m1:=hmem 1 (by omega);rw [hget 0 (by omega)] at m0;rw [hget 1 (by omega)] at m1
       have hv:∀(k:Kn) (n:Nat),Kok n (.inr k)->B<=n->ivZ k.v<=n:=fun k n h hn=>by
        cases k with
        | tru c d=>
         show ivZ (Iv.pt 0)<=n;rw [yp5]
         have:qs (0:Rat)<=4:=wtn (n:=0) (by unfold inI;omega)
         omega
        | num v=>exact h
       have b0:B<=B*(x.args.getD 0 default).nd:=Nat.le_mul_of_pos_right _ (by have:=Ex.yuy (x.args.getD 0 default);omega);have b1:B<=B*(x.args.getD 1 default).nd:=Nat.le_mul_of_pos_right _ (by have:=Ex.yuy (x.args.getD 1 default);omega);have m0:=hv _ _ m0 b0;have m1:=hv _ _ m1 b1;have hn2:=Ex.nd2 hl;have hd:=Nat.mul_add B (x.args.getD 0 default).nd (x.args.getD 1 default).nd;have he:B*((x.args.getD 0 default).nd+(x.args.getD 1 default).nd+1)<=B*x.nd:=Nat.mul_le_mul_left _ (by omega);rw [Nat.mul_add,hd] at he;exact ha.mono (by omega)
theorem vlg {B:Nat} {zs:List Zn} {ms:List Tb} {V:Vi} {T:Vt} (h:entZ zs ms=some (V,T)) (hb:∀ b∈zs,b.s.sz+10<=B):Ism B V:=fun s v hv=>by
 obtain ⟨h1,_,_,h4,_⟩:=y36 h;rw [h4] at hv;obtain ⟨b,hb1,rfl⟩:=Option.map_eq_some_iff.1 hv;have hm:=(wud hb1).1;obtain ⟨w,hw⟩:=x6c (of_decide_eq_true (h1 b hm))
 have:=hb b hm
 rw [hw] at this ⊢;rw [xjv];exact this
theorem x3w {zs:List Zn} {ms:List Tb} {V:Vi} {T:Vt} (h:entZ zs ms=some (V,T)) (hb:∀ t∈ms,t.Sm):∀ s t,ycr T s=some t->t.Sm/\tbOk t=true:=fun s t ht=>by
 obtain ⟨_,h2,_,_,h5⟩:=y36 h;rw [h5] at ht;have hm:=(wud ht).1;exact ⟨hb t hm,h2 t hm⟩
def Iv.In (a:Iv) (q:Rat):Prop:=a.lo<=q/\q<=a.hi
def Iv.Le (a b:Iv):Prop:=b.lo<=a.lo/\a.hi<=b.hi
theorem Iv.yuc {a:Iv} {q:Rat}:a.has q=true↔a.In q:=by
 unfold Iv.has Iv.In;rw [Bool.and_eq_true,decide_eq_true_eq,decide_eq_true_eq]
theorem Iv.zi9 {a b:Iv}:a.inside b=true↔a.Le b:=by
 unfold Iv.inside Iv.Le;rw [Bool.and_eq_true,decide_eq_true_eq,decide_eq_true_eq]
theorem Iv.Le.refl (a:Iv):a.Le a:=⟨Rat.le_refl,Rat.le_refl⟩
theorem Iv.Le.trans {a b c:Iv} (h1:a.Le b) (h2:b.Le c):a.Le c:=⟨Rat.le_trans h2.1 h1.1,Rat.le_trans h1.2 h2.2⟩
theorem Iv.Le.in {a b:Iv} {q:Rat} (h:a.Le b) (hq:a.In q):b.In q:=⟨Rat.le_trans h.1 hq.1,Rat.le_trans hq.2 h.2⟩
theorem Iv.v5b {a b:Iv}:a.Le b↔b.In a.lo/\b.In a.hi:=⟨fun h=>⟨⟨h.1,Rat.le_trans a.h h.2⟩,⟨Rat.le_trans h.1 a.h,h.2⟩⟩,fun h=>⟨h.1.1,h.2.2⟩⟩
theorem Iv.y76 (a:Iv):a.In a.lo:=⟨Rat.le_refl,a.h⟩
theorem Iv.y4t {q r:Rat}:(Iv.pt q).In r↔r=q:=⟨fun h=>Rat.le_antisymm h.2 h.1,fun h=>by rw [h];exact ⟨Rat.le_refl,Rat.le_refl⟩⟩
theorem Iv.xib {q:Rat} {a:Iv}:(Iv.pt q).Le a↔a.In q:=Iff.rfl
theorem v7y {a:Iv} {x:Rat} (h:a.In x):a.neg.In (-x):=⟨Rat.neg_le_neg h.2,Rat.neg_le_neg h.1⟩
theorem xbn {a b:Iv} {x y:Rat} (h:a.In x) (h':b.In y):(a.add b).In (x+y):=⟨x1r h.1 h'.1,x1r h.2 h'.2⟩
theorem x80 {a b:Iv} {x y:Rat} (h:a.In x) (h':b.In y):(a.sub b).In (x-y):=by
 rw [Rat.sub_eq_add_neg];exact xbn h (v7y h')
theorem vke {c y l u:Rat} (h1:l<=y) (h2:y<=u):(c*l<=c*y/\c*y<=c*u)\/(c*u<=c*y/\c*y<=c*l):=by
 rcases Rat.le_total (a:=0) (b:=c) with hc | hc
 . exact .inl ⟨Rat.mul_le_mul_of_nonneg_left h1 hc,Rat.mul_le_mul_of_nonneg_left h2 hc⟩
 . have hc':0<=-c:=by have:=Rat.neg_le_neg hc;rwa [Rat.neg_zero] at this
   have e:∀ a b:Rat,a<=b->c*b<=c*a:=fun a b h=>by
    have:=Rat.neg_le_neg (Rat.mul_le_mul_of_nonneg_left h hc')
    rwa [Rat.neg_mul,Rat.neg_mul,Rat.neg_neg,Rat.neg_neg] at this
   exact .inr ⟨e _ _ h2,e _ _ h1⟩
theorem v12 {a b:Iv} {x y:Rat} (h:a.In x) (h':b.In y):(a.mul b).In (x*y):=by
 obtain ⟨m1,m2,m3,m4⟩:=x3q (a.lo*b.lo) (a.lo*b.hi) (a.hi*b.lo) (a.hi*b.hi);obtain ⟨n1,n2,n3,n4⟩:=vxc (a.lo*b.lo) (a.lo*b.hi) (a.hi*b.lo) (a.hi*b.hi);show mn4 _ _ _ _<=x*y/\x*y<=mx4 _ _ _ _;generalize mn4 (a.lo*b.lo) (a.lo*b.hi) (a.hi*b.lo) (a.hi*b.hi)=m at *;generalize mx4 (a.lo*b.lo) (a.lo*b.hi) (a.hi*b.lo) (a.hi*b.hi)=n at *
 have hl:m<=a.lo*y/\a.lo*y<=n:=by
  rcases vke (c:=a.lo) h'.1 h'.2 with ⟨p,q⟩ | ⟨p,q⟩
  . exact ⟨Rat.le_trans m1 p,Rat.le_trans q n2⟩
  . exact ⟨Rat.le_trans m2 p,Rat.le_trans q n1⟩
 have hh:m<=a.hi*y/\a.hi*y<=n:=by
  rcases vke (c:=a.hi) h'.1 h'.2 with ⟨p,q⟩ | ⟨p,q⟩
  . exact ⟨Rat.le_trans m3 p,Rat.le_trans q n4⟩
  . exact ⟨Rat.le_trans m4 p,Rat.le_trans q n3⟩
 rw [Rat.mul_comm a.lo] at hl;rw [Rat.mul_comm a.hi] at hh;rw [Rat.mul_comm x]
 rcases vke (c:=y) h.1 h.2 with ⟨p,q⟩ | ⟨p,q⟩
 . exact ⟨Rat.le_trans hl.1 p,Rat.le_trans q hh.2⟩
 . exact ⟨Rat.le_trans hh.1 p,Rat.le_trans q hl.2⟩
theorem yot {b:Iv} {y:Rat} (h0:b.has 0=false) (h:b.In y):b.inv.In (1 / y)/\y≠0:=by
 have e:b.inv=⟨1 / b.hi,1 / b.lo,Iv.xap h0⟩:=dif_pos h0;rw [e];unfold Iv.has at h0;rw [Bool.and_eq_false_iff] at h0
 rcases h0 with h0 | h0
 . have hl:=Rat.not_le.1 (of_decide_eq_false h0);have hy:=v17 hl h.1;exact ⟨⟨x07 h.2 hy,x07 h.1 hl⟩,Rat.ne_of_gt hy⟩
 . have hl:=Rat.not_le.1 (of_decide_eq_false h0);have hy:=wgr h.2 hl;exact ⟨⟨xao h.2 hl,xao h.1 hy⟩,Rat.ne_of_lt hy⟩
theorem vvl {a b:Iv} {x y:Rat} (h0:b.has 0=false) (h:a.In x) (h':b.In y):(a.mul b.inv).In (x / y)/\y≠0:=by
 obtain ⟨h1,h2⟩:=yot h0 h'
 have:=v12 h h1
 rw [Rat.div_def,Rat.one_mul] at this;rw [Rat.div_def];exact ⟨this,h2⟩
theorem wap {a b c d:Rat} (h1:a<=c) (h2:b<=d):min a b<=min c d:=wm6 (Rat.le_trans (zgf _ _) h1) (Rat.le_trans (xvo _ _) h2)
theorem ygf {a b c d:Rat} (h1:a<=c) (h2:b<=d):max a b<=max c d:=vq9 (Rat.le_trans h1 (wod _ _)) (Rat.le_trans h2 (vbw _ _))
theorem xm6 {a b:Iv} {x y:Rat} (h:a.In x) (h':b.In y):(a.minI b).In (min x y):=⟨wap h.1 h'.1,wap h.2 h'.2⟩
theorem y32 {a b:Iv} {x y:Rat} (h:a.In x) (h':b.In y):(a.maxI b).In (max x y):=⟨ygf h.1 h'.1,ygf h.2 h'.2⟩
theorem z0z (a b:Iv):a.Le (a.hull b):=⟨(x3q _ _ _ _).1,(vxc _ _ _ _).2.1⟩
theorem w7c (a b:Iv):b.Le (a.hull b):=⟨(x3q _ _ _ _).2.2.1,(vxc _ _ _ _).2.2.2⟩
theorem x1d {a b c:Iv} (h1:a.Le c) (h2:b.Le c):(a.hull b).Le c:=
 ⟨xbl h1.1 (Rat.le_trans h1.1 a.h) h2.1 (Rat.le_trans h2.1 b.h),xva (Rat.le_trans a.h h1.2) h1.2 (Rat.le_trans b.h h2.2) h2.2⟩
theorem x9g {a b c d:Iv} (h1:a.Le c) (h2:b.Le d):(a.hull b).Le (c.hull d):=x1d (h1.trans (z0z _ _)) (h2.trans (w7c _ _))
theorem v45 {a b c d:Rat} {v:Iv} (h1:v.In a) (h2:v.In b) (h3:v.In c) (h4:v.In d):(Iv.round a b c d).Le v:=⟨xbl h1.1 h2.1 h3.1 h4.1,xva h1.2 h2.2 h3.2 h4.2⟩
theorem zot {a b c d:Iv} (h1:a.Le c) (h2:b.Le d):(a.add b).Le (c.add d):=⟨x1r h1.1 h2.1,x1r h1.2 h2.2⟩
theorem xq8 {a b:Iv} (h:a.Le b):a.neg.Le b.neg:=⟨Rat.neg_le_neg h.2,Rat.neg_le_neg h.1⟩
theorem zg9 {a b c d:Iv} (h1:a.Le c) (h2:b.Le d):(a.sub b).Le (c.sub d):=zot h1 (xq8 h2)
theorem y4p {a b c d:Iv} (h1:a.Le c) (h2:b.Le d):(a.mul b).Le (c.mul d):=by
 obtain ⟨p,q⟩:=Iv.v5b.1 h1;obtain ⟨r,s⟩:=Iv.v5b.1 h2;exact v45 (v12 p r) (v12 p s) (v12 q r) (v12 q s)
theorem ydq {b d:Iv} (h:b.Le d) (h0:d.has 0=false):b.has 0=false:=by
 cases hb:b.has 0 with
 | false=>rfl
 | true=>rw [Iv.yuc.2 (h.in (Iv.yuc.1 hb))] at h0;cases h0
theorem wfv {b d:Iv} (h:b.Le d) (h0:d.has 0=false):b.inv.Le d.inv:=by
 have hb:=ydq h h0;obtain ⟨r,s⟩:=Iv.v5b.1 h;have e:b.inv=⟨1 / b.hi,1 / b.lo,Iv.xap hb⟩:=dif_pos hb;rw [e];exact ⟨(yot h0 s).1.1,(yot h0 r).1.2⟩
theorem x8g {a b c d:Iv} (h1:a.Le c) (h2:b.Le d):(a.minI b).Le (c.minI d):=⟨wap h1.1 h2.1,wap h1.2 h2.2⟩
theorem v6w {a b c d:Iv} (h1:a.Le c) (h2:b.Le d):(a.maxI b).Le (c.maxI d):=⟨ygf h1.1 h2.1,ygf h1.2 h2.2⟩
theorem wgo {a b:Iv}:a.meets b=true↔∃ q,a.In q/\b.In q:=by
 unfold Iv.meets;rw [decide_eq_true_eq];constructor
 . intro h;exact ⟨max a.lo b.lo,⟨wod _ _,Rat.le_trans h (zgf _ _)⟩,⟨vbw _ _,Rat.le_trans h (xvo _ _)⟩⟩
 . rintro ⟨q,h1,h2⟩;exact vq9 (wm6 (Rat.le_trans h1.1 h1.2 ) (Rat.le_trans h1.1 h2.2)) (wm6 (Rat.le_trans h2.1 h1.2) (Rat.le_trans h2.1 h2.2))
def tw (t:Tb) (i:Nat):Rat:=(zxd t (t.rows.getD i default).v).getD 0
theorem vhj {t:Tb} (ht:tbOk t=true) (i:Nat):zxd t (t.rows.getD i default).v=some (tw t i):=by
 obtain ⟨⟨u,hu,hq⟩,_,_,_⟩:=yun ht;unfold tw zxd facO;rw [hu];rfl
theorem z9a {t:Tb} (ht:tbOk t=true) (q:Rat):wyo t (some q)=bif decide (aft q t.rows=0) then (none,4) else (some (tw t (aft q t.rows-1)),0):=by
 unfold wyo;rw [show zi4 (fun s=>(zth s).2) t=true from ht];simp only [Bool.not_true,cond_false];rw [vhj ht]
theorem vsj (q : Rat) : ∀ (l : List Rw), (∀ j, j < aft q l → (((l.getD j default).k : Rat) ≤ q)) ∧ (aft q l < l.length → ¬ (((l.getD (aft q l) default).k : Rat) ≤ q))
 | []=>⟨fun j h=>absurd h (Nat.not_lt_zero _),fun h=>absurd h (Nat.not_lt_zero _)⟩
 | r::l=>by
  obtain ⟨h1,h2⟩:=vsj q l;unfold aft;by_cases h:(r.k:Rat)<=q
  . rw [decide_eq_true h,cond_true];refine ⟨fun j hj=>?_,fun hj=>?_⟩
    . cases j with
      | zero=>exact h
      | succ j=>exact h1 j (by omega)
    . exact h2 (by simpa using hj)
  . rw [decide_eq_false h,cond_false];exact ⟨fun j hj=>absurd hj (Nat.not_lt_zero _),fun _=>h⟩
theorem vxw {t:Tb} (ht:tbOk t=true) {j:Nat} (hj:j<t.rows.length):aft ((t.rows.getD j default).k:Rat) t.rows=j+1:=by
 have hr:=(yun ht).2.2.2;refine z7c (by omega) (fun i hi=>y6s (hr.mono (by omega) hj)) (fun hlt=>?_)
 have:=(hr (j+1) hlt).2.2 (by omega)
 rw [Nat.add_sub_cancel] at this;exact Rat.not_le.2 (Rat.intCast_lt_intCast.2 this)
theorem wyg {t:Tb} (ht:tbOk t=true) {j:Nat} (hj:j<t.rows.length):wyo t (some ((t.rows.getD j default).k:Rat))=(some (tw t j),0):=by
 rw [z9a ht,vxw ht hj];rfl
theorem v9u (q:Rat) (l:List Rw):aft q l<=l.length:=xds q l
theorem v8i {q q':Rat} (h:q<=q'):∀ l:List Rw,aft q l<=aft q' l
 | []=>Nat.le_refl _
 | r::l=>by
  unfold aft;by_cases hr:(r.k:Rat)<=q
  . rw [decide_eq_true hr,decide_eq_true (Rat.le_trans hr h),cond_true,cond_true];exact Nat.succ_le_succ (v8i h l)
  . rw [decide_eq_false hr,cond_false];exact Nat.zero_le _
theorem zk6 {t:Tb} (k:Iv):∀(l:List Rw) (v:Iv),v.Le (yk1 t k l v)
 | [],v=>Iv.Le.refl v
 | r::l,v=>by
  refine Iv.Le.trans ?_ (zk6 k l _)
  cases k.has (r.k:Rat) with
  | false=>exact Iv.Le.refl v
  | true=>exact z0z _ _
theorem wf9 {t:Tb} (k:Iv):∀(l:List Rw) (v:Iv) (r:Rw),r∈l->k.has (r.k:Rat)=true->(yk1 t k l v).In ((wyo t (some (r.k:Rat))).1.getD 0)
 | r'::l,v,r,hm,hk=>by
  rcases List.mem_cons.1 hm with rfl | hm
  . refine (zk6 k l _).in ?_;rw [hk,cond_true];exact (w7c _ _).in (Iv.y4t.2 rfl)
  . exact wf9 k l _ r hm hk
theorem zb9 {t:Tb} (k:Iv) {u:Iv}:∀(l:List Rw) (v:Iv),v.Le u->(∀ r∈l,k.has (r.k:Rat)=true->u.In ((wyo t (some (r.k:Rat))).1.getD 0))->(yk1 t k l v).Le u
 | [],v,h,_=>h
 | r::l,v,h,hl=>by
  refine zb9 k l _ ?_ (fun s hs=>hl s (List.mem_cons_of_mem _ hs))
  cases hk:k.has (r.k:Rat) with
  | false=>exact h
  | true=>exact x1d h (Iv.xib.2 (hl r List.mem_cons_self hk))
theorem x24 {t:Tb} (ht:tbOk t=true) (k:Iv):(aft k.lo t.rows=0/\x7a t k=.inl 4)\/(aft k.lo t.rows≠0/\x7a t k=.inr (.num (yk1 t k t.rows (Iv.pt (tw t (aft k.lo t.rows-1)))))):=by
 unfold x7a;rw [z9a ht];by_cases h:aft k.lo t.rows=0
 . rw [decide_eq_true h];exact .inl ⟨h,rfl⟩
 . rw [decide_eq_false h];exact .inr ⟨h,rfl⟩
theorem vz4 {t : Tb} (ht : tbOk t = true) {k v : Iv} (h : x7a t k = .inr (.num v)) {q : Rat} (hq : k.In q) : ∃ w, wyo t (some q) = (some w, 0) ∧ v.In w := by
 rcases x24 ht k with ⟨_,e⟩ | ⟨h0,e⟩
 . rw [e] at h;cases h
 . rw [e] at h; cases h;have hm:=v8i hq.1 t.rows;have hlen:=v9u q t.rows;refine ⟨tw t (aft q t.rows-1),?_,?_⟩
   . rw [z9a ht,decide_eq_false (by omega)];rfl
   . by_cases hk:k.lo<=((t.rows.getD (aft q t.rows-1) default).k:Rat)
     . have hj:aft q t.rows-1<t.rows.length:=by omega
       have:=wf9 (t:=t) k t.rows (Iv.pt (tw t (aft k.lo t.rows-1))) _ (w4t hj) (Iv.yuc.2 ⟨hk,Rat.le_trans ((vsj q t.rows).1 _ (by omega)) hq.2⟩)
       rw [wyg ht hj] at this;exact this
     . have e:aft k.lo t.rows=aft q t.rows:=by
        refine z7c hlen (fun j hj=>?_) (fun hlt=>?_)
        . have hr:=(yun ht).2.2.2;exact Rat.le_trans (y6s (hr.mono (show j<=aft q t.rows-1 by omega) (by omega))) (Rat.le_of_lt (Rat.not_le.1 hk))
        . exact fun h=>(vsj q t.rows).2 hlt (Rat.le_trans h hq.1)
       rw [e];exact (zk6 k t.rows _).in (Iv.y4t.2 rfl)
theorem ylq {t:Tb} (ht:tbOk t=true) {k k' v:Iv} (hk:k'.Le k) (h:x7a t k=.inr (.num v)):∃ w,x7a t k'=.inr (.num w)/\w.Le v:=by
 obtain ⟨w0,h1,h2⟩:=vz4 ht h (Iv.v5b.1 hk).1
 rcases x24 ht k' with ⟨h0,_⟩ | ⟨h0,e⟩
 . rw [z9a ht,h0] at h1;cases h1
 . refine ⟨_,e,zb9 _ _ _ ?_ (fun r hr hh=>?_)⟩
   . rw [z9a ht,decide_eq_false h0] at h1
     cases h1;exact Iv.xib.2 h2
   . obtain ⟨w,h3,h4⟩:=vz4 ht h (hk.in (Iv.yuc.1 hh));rw [h3];exact h4
theorem ysk {t:Tb} (ht:tbOk t=true) (q:Rat):x7a t (Iv.pt q)=bif decide (aft q t.rows=0) then .inl 4 else .inr (.num (Iv.pt (tw t (aft q t.rows-1)))):=by
 rcases x24 ht (Iv.pt q) with ⟨h0,e⟩ | ⟨h0,e⟩
 . have h0:aft q t.rows=0:=h0;rw [e,decide_eq_true h0];rfl
 . have h0:aft q t.rows≠0:=h0;rw [e,decide_eq_false h0,cond_false]
   have h1:=zb9 (t:=t) (Iv.pt q) t.rows _ (Iv.Le.refl (Iv.pt (tw t (aft q t.rows-1)))) (fun r hr hh=>by
    have:=Iv.y4t.1 (Iv.yuc.1 hh)
    rw [this,z9a ht,decide_eq_false h0]
    exact Iv.y4t.2 rfl)
   have h2:=zk6 (t:=t) (Iv.pt q) t.rows (Iv.pt (tw t (aft q t.rows-1)));exact congrArg (fun v=>(.inr (.num v):Kr)) (Iv.ext' (Rat.le_antisymm h2.1 h1.1) (Rat.le_antisymm h1.2 h2.2))
theorem xab {x:Ex} (h:yxn x=true) (h3:x.op≠3) (h0:x.op≠0) (h1:x.op≠1):2<=x.op/\x.op<=15/\(x.op=2\/x.op=4->x.args.length=1)/\(x.op=5->x.args.length=3)/\(x.op≠2->x.op≠4->x.op≠5->x.args.length=2):=by
 have hne:x.args.length≠0:=fun h'=>by
  unfold yxn at h;rw [decide_eq_false h0,decide_eq_false h1,h'] at h;simp at h
 obtain ⟨o1,o2⟩:=z3r h hne;refine ⟨o1,o2,?_⟩;unfold yxn at h;rw [decide_eq_false h0,cond_false] at h
 cases hb:(decide (¬x.n=0)||decide (¬x.unit.size=0)) with
 | true=>rw [hb,cond_true] at h;cases h
 | false=>
 rw [hb,cond_false,decide_eq_false h1,cond_false] at h;by_cases a2:x.op=2
 . rw [decide_eq_true a2,cond_true] at h;simp only [Bool.and_eq_true,decide_eq_true_eq] at h;omega
 rw [decide_eq_false a2,cond_false,decide_eq_false h3,cond_false] at h;by_cases a4:x.op=4
 . rw [decide_eq_true a4,cond_true] at h;simp only [Bool.and_eq_true,decide_eq_true_eq] at h;omega
 rw [decide_eq_false a4,cond_false] at h;by_cases a5:x.op=5
 . rw [decide_eq_true a5,cond_true] at h;simp only [Bool.and_eq_true,decide_eq_true_eq] at h;omega
 rw [decide_eq_false a5,cond_false] at h
 cases hc:(decide (x.op=10)||decide (x.op=11)) with
 | true=>rw [hc,cond_true] at h;simp only [Bool.and_eq_true,decide_eq_true_eq] at h;omega
 | false=>rw [hc,cond_false] at h;simp only [Bool.and_eq_true,decide_eq_true_eq] at h;omega
def SndK:Kn->Rs->Prop
 | .tru c d,r=>r.t=true/\(r.i=true->c=true)/\(r.i=false->d=true)
 | .num v,r=>r.t=false/\∃ q,r.v=some q/\v.In q
theorem SndK.t:∀{k:Kn} {r:Rs},SndK k r->r.t=k.t
 | .tru _ _,_,h=>h.1
 | .num _,_,h=>h.1
def vq5 (V:Vq) (Ie:Vi):Prop:=∀ s,(ycr V s=none/\ycr Ie s=none)\/∃ q v,ycr V s=some q/\ycr Ie s=some v/\v.In q
theorem yzn {K:Ex->Kr} {C:Ex->Rs×Int} {R:Kn->Rs->Prop}:∀{l:List Ex} {ks:List Kn},(∀ y∈l,∀ k,K y=.inr k->∃ r,C y=(r,0)/\R k r)->seqH (l.map K)=.inr ks->
 ∃ rs,seqV (l.map C)=.inr rs/\rs.length=ks.length/\∀ i,i<ks.length->R (ks.getD i default) (rs.getD i default)
 | [],ks,_,h=>by rw [List.map_nil,seqH] at h;cases h;exact ⟨[],rfl,rfl,fun i hi=>absurd hi (Nat.not_lt_zero _)⟩
 | y::l,ks,hR,h=>by
  rw [List.map_cons] at h
  cases hy:K y with
  | inl e=>rw [hy,seqH] at h;cases h
  | inr k=>
   rw [hy,seqH] at h
   cases hs:seqH (l.map K) with
   | inl e=>rw [hs] at h;cases h
   | inr ks'=>
    rw [hs] at h;cases h;obtain ⟨r,h1,h2⟩:=hR y List.mem_cons_self k hy;obtain ⟨rs,h3,h4,h5⟩:=yzn (fun z hz=>hR z (List.mem_cons_of_mem _ hz)) hs;refine ⟨r::rs,?_,by simp [h4],fun i hi=>?_⟩
    . rw [List.map_cons,h1,seqV,h3];rfl
    . cases i with
      | zero=>exact h2
      | succ i=>simpa using h5 i (by simpa using hi)
theorem anyF {α:Type} [Inhabited α] {p:α->Bool} {l:List α} (h:l.any p=false) {i:Nat} (hi:i<l.length):p (l.getD i default)=false:=by
 rw [List.any_eq_false] at h;simpa using h _ (w4t hi)
theorem ygp {α:Type} [Inhabited α] {l:List α} (h:l.length=1):l=[l.getD 0 default]:=by
 match l,h with
 | [a],_=>rfl
theorem vpm {α:Type} [Inhabited α] {l:List α} (h:l.length=2):l=[l.getD 0 default,l.getD 1 default]:=by
 match l,h with
 | [a,b],_=>rfl
theorem v6i {o:Int}:ze4 o=true↔o=4\/o=14\/o=15:=by
 unfold ze4;simp only [Bool.or_eq_true,decide_eq_true_eq,or_assoc]
theorem xih {o:Int} (ho:6<=o/\o<=13) {a b:Iv} {r s:Rs} (hr:SndK (.num a) r) (hs:SndK (.num b) s) {k:Kn} (h:numH o a b=.inr k):∃ w,ariV o r s=(w,0)/\SndK k w:=by
 obtain ⟨ht,x,hx,hax⟩:=hr;obtain ⟨hu,y,hy,hby⟩:=hs;obtain ⟨t,i,v⟩:=r;obtain ⟨u,j,w⟩:=s;simp only at ht hu hx hy;subst ht;subst hu;subst hx;subst hy;unfold numH at h;unfold ariV;simp only [Bool.or_self,cond_false];have e0:erO (some x) (some y)=0:=rfl
 have:o=6\/o=7\/o=8\/o=9\/o=10\/o=11\/o=12\/o=13:=by omega
 rcases this with rfl | rfl | rfl | rfl | rfl | rfl | rfl | rfl<;>simp only [Int.reduceEq,decide_true,decide_false,cond_true,cond_false,e0] at h ⊢
 . cases h;exact ⟨_,rfl,rfl,_,rfl,xbn hax hby⟩
 . cases h;exact ⟨_,rfl,rfl,_,rfl,x80 hax hby⟩
 . cases h;exact ⟨_,rfl,rfl,_,rfl,v12 hax hby⟩
 . cases h0:b.has 0 with
   | true=>rw [h0,cond_true] at h;cases h
   | false=>
    rw [h0,cond_false] at h;cases h;obtain ⟨h1,h2⟩:=vvl h0 hax hby;refine ⟨⟨false,false,some (x / y)⟩,?_,rfl,_,rfl,h1⟩;unfold divO divE;simp only [h2,decide_false,cond_false];rfl
 . cases h;exact ⟨_,rfl,rfl,_,rfl,xm6 hax hby⟩
 . cases h;exact ⟨_,rfl,rfl,_,rfl,y32 hax hby⟩
 . cases h;refine ⟨_,rfl,rfl,fun hi=>?_,fun hi=>?_⟩
   . have hi:decide (Fc.ordQ x y<0)=true:=hi;rw [vn7,decide_eq_true_eq] at hi;exact decide_eq_true (wgr hax.1 (v17 hi hby.2))
   . have hi:decide (Fc.ordQ x y<0)=false:=hi;rw [vn7,decide_eq_false_iff_not] at hi;exact decide_eq_true (Rat.le_trans hby.1 (Rat.le_trans (Rat.not_lt.1 hi) hax.2))
 . cases h;refine ⟨_,rfl,rfl,fun hi=>?_,fun hi=>?_⟩
   . have hi:decide (Fc.ordQ x y=0)=true:=hi
     rcases Fc.ygb x y with ⟨q,e⟩ | ⟨q,e⟩ | ⟨q,e⟩
     . rw [e] at hi;cases hi
     . exact wgo.2 ⟨x,hax,q▸hby⟩
     . rw [e] at hi;cases hi
   . have hi:decide (Fc.ordQ x y=0)=false:=hi
     cases hd:decide (a=b)&&decide (a.lo=a.hi) with
     | false=>rfl
     | true=>
      rw [Bool.and_eq_true,decide_eq_true_eq,decide_eq_true_eq] at hd;obtain ⟨rfl,hp⟩:=hd;have e1:x=a.lo:=Rat.le_antisymm (hp▸hax.2) hax.1;have e2:y=a.lo:=Rat.le_antisymm (hp▸hby.2) hby.1;rw [e1,e2] at hi
      rcases Fc.ygb a.lo a.lo with ⟨q,e⟩ | ⟨q,e⟩ | ⟨q,e⟩
      . exact absurd q Rat.lt_irrefl
      . rw [e] at hi;cases hi
      . exact absurd q Rat.lt_irrefl
theorem yxe {T:Vt} (hT:∀ s t,ycr T s=some t->tbOk t=true) {o:Int} {s:ByteArray} {ks:List Kn} {rs:List Rs} (hlen:rs.length=ks.length) (hsnd:∀ i,i<ks.length->SndK (ks.getD i default) (rs.getD i default))
 (ho:2<=o/\o<=15) (h3:o≠3) (h5:o≠5) (l1:o=2\/o=4->ks.length=1) (l2:o≠2->o≠4->ks.length=2) {k:Kn} (h:opH T o s ks=.inr k):∃ r,opV T o s rs=(r,0)/\SndK k r:=by
 unfold opH at h
 cases hA:decide (o=2)&&!(ycr T s).isSome with
 | true=>rw [hA,cond_true] at h;cases h
 | false=>
 rw [hA,cond_false] at h
 cases hany:ks.any (fun k=>!(k.t==ze4 o)) with
 | true=>rw [hany,cond_true] at h;cases h
 | false=>
 rw [hany,cond_false] at h
 have hkt:∀ i,i<ks.length->(ks.getD i default).t=ze4 o:=fun i hi=>by
  have:=anyF hany hi
  simpa using this
 unfold opV;by_cases h2:o=2
 . have hl:=l1 (.inl h2)
   have hlg:ze4 o=false:=by rw [h2];rfl
   rw [decide_eq_true h2] at hA h ⊢;rw [hlg,cond_false,cond_true] at h;rw [cond_true]
   cases hlk:ycr T s with
   | none=>rw [hlk] at hA;cases hA
   | some t=>
    rw [hlk] at h;have hs:=hsnd 0 (by omega);have ht:=hkt 0 (by omega);unfold woh;rw [hlk];generalize ks.getD 0 default=k0 at h hs ht;generalize rs.getD 0 default=r0 at hs
    rcases k0 with ⟨c,d⟩ | v
    . rw [hlg] at ht;cases ht
    . obtain ⟨e1,q,e2,e3⟩:=hs;have h:x7a t v=.inr k:=h
      rcases x24 (hT _ _ hlk) v with ⟨_,e⟩ | ⟨_,e⟩
      . rw [e] at h;cases h
      . rw [e] at h;cases h;obtain ⟨w,h4,h5⟩:=vz4 (hT _ _ hlk) e e3;simp only;rw [e1,e2,h4,cond_false];exact ⟨_,rfl,rfl,_,rfl,h5⟩
 rw [decide_eq_false h2,cond_false] at h;rw [decide_eq_false h2,cond_false]
 cases hlg:ze4 o with
 | true=>
  rw [hlg,cond_true] at h;have hlg':(decide (o=4)||decide (o=14)||decide (o=15))=true:=hlg;rw [hlg',cond_true]
  cases h;unfold logV truH
  rcases v6i.1 hlg with rfl | rfl | rfl
  . have hl:=l1 (.inr rfl);have hs:=hsnd 0 (by omega);have ht:=hkt 0 (by omega);rw [hlg] at ht;rw [ygp (hlen.trans hl)];generalize ks.getD 0 default=k0 at hs ht ⊢;generalize rs.getD 0 default=r0 at hs ⊢
    rcases k0 with ⟨c,d⟩ | v
    . obtain ⟨e1,e2,e3⟩:=hs;refine ⟨⟨true,!r0.i,none⟩,?_,rfl,fun hi=>?_,fun hi=>?_⟩
      . simp [e1,truV]
      . exact e3 (by simpa using hi)
      . exact e2 (by simpa using hi)
    . cases ht
  . have hl:=l2 h2 (by decide);have hs0:=hsnd 0 (by omega);have ht0:=hkt 0 (by omega);have hs1:=hsnd 1 (by omega);have ht1:=hkt 1 (by omega);rw [hlg] at ht0 ht1;rw [vpm (hlen.trans hl)];generalize ks.getD 0 default=k0 at hs0 ht0 ⊢;generalize rs.getD 0 default=r0 at hs0 ⊢;generalize ks.getD 1 default=k1 at hs1 ht1 ⊢;generalize rs.getD 1 default=r1 at hs1 ⊢
    rcases k0 with ⟨c,d⟩ | v
    . rcases k1 with ⟨c',d'⟩ | v'
      . obtain ⟨e1,e2,e3⟩:=hs0;obtain ⟨f1,f2,f3⟩:=hs1;refine ⟨⟨true,r0.i&&r1.i,none⟩,?_,rfl,fun hi=>?_,fun hi=>?_⟩
        . simp [e1,f1,truV]
        . simp only [Bool.and_eq_true] at hi;show (c&&c')=true;rw [e2 hi.1,f2 hi.2];rfl
        . show (d||d')=true;simp only [Bool.and_eq_false_iff] at hi
          rcases hi with hi | hi
          . rw [e3 hi];rfl
          . rw [f3 hi,Bool.or_true]
      . cases ht1
    . cases ht0
  . have hl:=l2 h2 (by decide);have hs0:=hsnd 0 (by omega);have ht0:=hkt 0 (by omega);have hs1:=hsnd 1 (by omega);have ht1:=hkt 1 (by omega);rw [hlg] at ht0 ht1;rw [vpm (hlen.trans hl)];generalize ks.getD 0 default=k0 at hs0 ht0 ⊢;generalize rs.getD 0 default=r0 at hs0 ⊢;generalize ks.getD 1 default=k1 at hs1 ht1 ⊢;generalize rs.getD 1 default=r1 at hs1 ⊢
    rcases k0 with ⟨c,d⟩ | v
    . rcases k1 with ⟨c',d'⟩ | v'
      . obtain ⟨e1,e2,e3⟩:=hs0;obtain ⟨f1,f2,f3⟩:=hs1;refine ⟨⟨true,r0.i||r1.i,none⟩,?_,rfl,fun hi=>?_,fun hi=>?_⟩
        . simp [e1,f1,truV]
        . show (c||c')=true;simp only [Bool.or_eq_true] at hi
          rcases hi with hi | hi
          . rw [e2 hi];rfl
          . rw [f2 hi,Bool.or_true]
        . simp only [Bool.or_eq_false_iff] at hi;show (d&&d')=true;rw [e3 hi.1,f3 hi.2];rfl
      . cases ht1
    . cases ht0
 | false=>
  rw [hlg,cond_false] at h;have hlg':(decide (o=4)||decide (o=14)||decide (o=15))=false:=hlg;rw [hlg',cond_false]
  have hn4:o≠4:=fun e=>by rw [e] at hlg;cases hlg
  have hn14:o≠14:=fun e=>by rw [e] at hlg;cases hlg
  have hn15:o≠15:=fun e=>by rw [e] at hlg;cases hlg
  have hl:=l2 h2 hn4;have hs0:=hsnd 0 (by omega);have ht0:=hkt 0 (by omega);have hs1:=hsnd 1 (by omega);have ht1:=hkt 1 (by omega);rw [hlg] at ht0 ht1;generalize ks.getD 0 default=k0 at hs0 ht0 h;generalize rs.getD 0 default=r0 at hs0 ⊢;generalize ks.getD 1 default=k1 at hs1 ht1 h;generalize rs.getD 1 default=r1 at hs1 ⊢
  rcases k0 with ⟨c,d⟩ | v
  . cases ht0
  . rcases k1 with ⟨c',d'⟩ | v'
    . cases ht1
    . exact xih (by omega) hs0 hs1 h
theorem wqj {a b k:Kn} (h:xx9 a b=.inr k):∀ r,(SndK a r->SndK k r)/\(SndK b r->SndK k r):=fun r=>by
 rcases a with ⟨c,d⟩ | a<;>rcases b with ⟨c',d'⟩ | b
 . cases h;exact ⟨fun h=>⟨h.1,fun hi=>by rw [h.2.1 hi];rfl,fun hi=>by rw [h.2.2 hi];rfl⟩,fun h=>⟨h.1,fun hi=>by rw [h.2.1 hi,Bool.or_true],fun hi=>by rw [h.2.2 hi,Bool.or_true]⟩⟩
 . cases h
 . cases h
 . cases h;exact ⟨fun ⟨h1,q,h2,h3⟩=>⟨h1,q,h2,(z0z _ _).in h3⟩,fun ⟨h1,q,h2,h3⟩=>⟨h1,q,h2,(w7c _ _).in h3⟩⟩
theorem y8u {V:Vq} {Ie:Vi} {T:Vt} (hV:vq5 V Ie) (hT:∀ s t,ycr T s=some t->tbOk t=true):∀ x:Ex,x.shaped=true->x.xi4=false->∀ k,x.hul Ie T=.inr k->∃ r,x.cal V T=(r,0)/\SndK k r:=by
 refine Ex.ind (fun x ih hsh hcl k h=>?_);rw [Ex.xg3,Bool.and_eq_true,List.all_eq_true] at hsh;rw [Ex.wd9,Bool.or_eq_false_iff,decide_eq_false_iff_not,List.any_eq_false] at hcl;obtain ⟨hnode,hargs⟩:=hsh;obtain ⟨h3,hcalls⟩:=hcl
 have ih':∀ y∈x.args,∀ k,y.hul Ie T=.inr k->∃ r,y.cal V T=(r,0)/\SndK k r:=fun y hy=>ih y hy (hargs y hy) (by simpa using hcalls y hy)
 clear ih;rw [Ex.y5j] at h;rw [Ex.vwm];by_cases h0:x.op=0
 . rw [decide_eq_true h0,cond_true] at h ⊢;unfold vlw at h;unfold v43
   rcases v4u x.unit with ⟨u,hu,hq⟩ | ⟨e,he,hu⟩
   . unfold facO at h ⊢;rw [hu] at h ⊢
     cases h;exact ⟨_,rfl,rfl,_,rfl,Iv.y4t.2 rfl⟩
   . rw [hu,show decide (¬e=0)=true from decide_eq_true he,cond_true] at h;cases h
 rw [decide_eq_false h0,cond_false] at h ⊢;by_cases h1:x.op=1
 . rw [decide_eq_true h1,cond_true] at h ⊢;unfold yy3 at h;unfold ztc
   rcases hV x.name with ⟨e1,e2⟩ | ⟨q,v,e1,e2,e3⟩
   . rw [e2] at h;cases h
   . rw [e2] at h;cases h;rw [e1];refine ⟨_,rfl,rfl,_,rfl,?_⟩;show v.In (q+((0:Int):Rat));rw [show q+((0:Int):Rat)=q from Rat.add_zero q];exact e3
 rw [decide_eq_false h1,cond_false] at h ⊢;obtain ⟨o1,o2,a1,a2,a3⟩:=xab hnode h3 h0 h1;by_cases h5:x.op=5
 . rw [decide_eq_true h5,cond_true] at h ⊢;have hl:=a2 h5;have i0:=ih' _ (w4t (show 0<x.args.length by omega));have i1:=ih' _ (w4t (show 1<x.args.length by omega));have i2:=ih' _ (w4t (show 2<x.args.length by omega));unfold chV;rw [getD_map (show 0<x.args.length by omega),getD_map (show 1<x.args.length by omega),getD_map (show 2<x.args.length by omega)] at h ⊢;generalize (x.args.getD 0 default).hul Ie T=k0 at i0 h;generalize (x.args.getD 1 default).hul Ie T=k1 at i1 h;generalize (x.args.getD 2 default).hul Ie T=k2 at i2 h;generalize (x.args.getD 0 default).cal V T=r0 at i0 ⊢;generalize (x.args.getD 1 default).cal V T=r1 at i1 ⊢;generalize (x.args.getD 2 default).cal V T=r2 at i2 ⊢;unfold chH at h
   rcases k0 with e | ⟨c,d⟩ | v
   . cases h
   . obtain ⟨w,rfl,e1,e2,e3⟩:=i0 _ rfl;simp only [not_true_eq_false,decide_false,cond_false,e1,Bool.not_true]
     cases c with
     | false=>
      have h:k2=.inr k:=h
      have:w.i=false:=by cases hi:w.i with
       | false=>rfl
       | true=>exact absurd (e2 hi) (by decide)
      rw [this,cond_false];exact i2 k h
     | true=>
      rcases k1 with e | a
      . cases h
      . cases d with
        | false=>
         have:w.i=true:=by cases hi:w.i with
          | true=>rfl
          | false=>exact absurd (e3 hi) (by decide)
         rw [this,cond_true];exact i1 k h
        | true=>
         rcases k2 with e | b
         . cases h
         . have h:xx9 a b=.inr k:=h
           cases w.i with
           | true=>
            obtain ⟨r,h6,h7⟩:=i1 _ rfl;exact ⟨r,h6,(wqj h r).1 h7⟩
           | false=>
            obtain ⟨r,h6,h7⟩:=i2 _ rfl;exact ⟨r,h6,(wqj h r).2 h7⟩
   . cases h
 rw [decide_eq_false h5,cond_false] at h ⊢
 cases hs:seqH (x.args.map (Ex.hul Ie T)) with
 | inl e=>rw [hs] at h;cases h
 | inr ks=>
  rw [hs] at h;have hlk:=(wym hs).1;rw [List.length_map] at hlk;obtain ⟨rs,h6,h7,h8⟩:=yzn ih' hs;rw [h6];exact yxe hT h7 h8 ⟨o1,o2⟩ h3 h5 (fun h=>by rw [hlk];exact a1 h) (fun p q=>by rw [hlk];exact a3 p q h5) h
end Go.Hp.T
