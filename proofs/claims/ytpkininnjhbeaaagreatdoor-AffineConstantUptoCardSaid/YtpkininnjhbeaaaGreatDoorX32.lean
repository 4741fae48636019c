/- The proof, part X32: Lj, Ac, Al, Lk, A3, Ge. -/
import Derived.Test.YtpkininnjhbeaaaGreatDoorX31
import Derived.Test.YtpkininnjhbeaaaGreatDoorX29
namespace Go.Slot
open Go Go.RowKit Go.Slot.T
namespace Sc
def of (p:Rat×Rat):Sc:=⟨Fc.of p.1,Fc.of p.2⟩
end Sc
theorem zkr (x y:Rat):Fc.ordQ x y<=0↔x<=y:=by
 rcases Fc.yyv x y with ⟨h,e⟩ | ⟨h,e⟩ | ⟨h,e⟩<;>rw [e]
 . exact ⟨fun _=>Rat.le_of_lt h,fun _=>by decide⟩
 . exact ⟨fun _=>by rw [h];exact Rat.le_refl,fun _=>by decide⟩
 . exact ⟨fun h'=>absurd h' (by decide),fun h'=>absurd h (Rat.not_lt.2 h')⟩
theorem Sc.xd3 (p:Rat×Rat):(Sc.of p).ok↔p.1<=p.2:=by
 unfold Sc.ok Sc.of;rw [Fc.w7n,zkr];exact ⟨fun h=>h.2.2,fun h=>⟨Fc.xd3 _,Fc.xd3 _,h⟩⟩
theorem yl3 (qs:List Rat):oks (qs.map Fc.of):=fun f hf=>by
 obtain ⟨r,_,rfl⟩:=List.mem_map.1 hf;exact Fc.xd3 r
theorem x7l:∀{l:List Fc},oks l->∃ qs:List Rat,l=qs.map Fc.of
 | [],_=>⟨[],rfl⟩
 | f::l,h=>by
  obtain ⟨r,hr⟩:=Fc.vy4 (h f (by simp));obtain ⟨qs,hq⟩:=x7l (fun g hg=>h g (by simp [hg]):oks l);exact ⟨r::qs,by rw [hr,hq];rfl⟩
def Af.of (k:Rat) (cs:List Rat):Af:=⟨Fc.of k,cs.map Fc.of⟩
theorem Af.xd3 (k:Rat) (cs:List Rat) (n:Nat):(Af.of k cs).ok n↔cs.length=n:=by
 unfold Af.ok Af.of;simp only [List.length_map];exact ⟨fun h=>h.1,fun h=>⟨h,Fc.xd3 k,yl3 cs⟩⟩
theorem Af.vy4 {f:Af} {n:Nat} (h:f.ok n):∃ k cs,f=Af.of k cs/\cs.length=n:=by
 obtain ⟨k,hk⟩:=Fc.vy4 h.2.1;obtain ⟨cs,hc⟩:=x7l h.2.2
 have e:f=Af.of k cs:=by cases f;simp only at hk hc;rw [hk,hc];rfl
 exact ⟨k,cs,e,by rw [e] at h;exact (Af.xd3 k cs n).1 h⟩
theorem Af.zvt (r:Rat):Af.copy (Fc.of r)=Fc.of r:=by unfold Af.copy;rw [Fc.xac,Rat.add_zero]
end Go.Slot
namespace Go.Hp.T
open Go Go.RowKit Go.Slot Go.Hp Go.Slot.T
set_option maxRecDepth 10000
set_option maxHeartbeats 4000000
variable {B:Nat} {v:Option Rat}
structure Th where
 t:Bool
 i:Bool
 c:Option Rat
 l:List Rat
deriving DecidableEq
variable {x a b:Th}
def Th.zero:Th:=⟨false,false,none,[]⟩
instance:Inhabited Th:=⟨Th.zero⟩
def rowQ (q:Rat):List Cell:=(Fc.of q).C
theorem zdq (q:Rat):rowQ q=qC (some q):=rfl
def Th.C (x:Th):List Cell:=[cB x.t,cB x.i,.raw (.int .i64 (qF x.c).s),.ints .i64 (qF x.c).L,.raw (.int .i64 (qF x.c).t),.ints .i64 (qF x.c).M,.sl 4 (x.l.map rowQ)]
abbrev thC (x:Th):List Cell:=[cB x.t,cB x.i,.raw (.int .i64 (qF x.c).s),.ints .i64 (qF x.c).L,.raw (.int .i64 (qF x.c).t),.ints .i64 (qF x.c).M,.sl 4 (x.l.map rowQ)]
theorem Th.C_eq (x:Th):x.C=thC x:=rfl
attribute [go_sem] zdq Th.C_eq
def Th.con (x:Th):Bool:=!x.t&&x.l.all (fun q=>decide (q=0))
def numA (n:Nat) (v:Option Rat):Th:=⟨false,false,v,List.replicate n 0⟩
def truA (b:Bool):Th×Int:=(⟨true,b,none,[]⟩,0)
abbrev Fm:=Rat×List Rat
abbrev Va:=List (ByteArray×Fm)
def wfn (n:Nat) (z:Int) (u:ByteArray):Th×Int:=bif decide (¬(xx7 u).2=0) then (Th.zero,14) else (numA n (mulO (some (z:Rat)) (facO u)),0)
def x5b (V:Va) (s:ByteArray):Th×Int:=match z2f V s with
 | none=>(Th.zero,11)
 | some f=>(⟨false,false,some f.1,f.2⟩,0)
def xu8 (n:Nat) (T:Vt) (s:ByteArray) (k:Th):Th×Int:=match z2f T s with
 | none=>(Th.zero,11)
 | some t=>bif !k.con then (Th.zero,13) else bif decide (¬(xwc t k.c).2=0) then (Th.zero,(xwc t k.c).2) else (numA n (xwc t k.c).1,0)
def logA (o:Int) (l:List Th):Th×Int:=bif l.any (fun t=>!t.t) then (Th.zero,13) else
 truA (bif decide (o=14) then (l.getD 0 default).i&&(l.getD 1 default).i else bif decide (o=15) then (l.getD 0 default).i||(l.getD 1 default).i else !(l.getD 0 default).i)
def timA (a:Th) (v:Option Rat):Th:=⟨false,false,mulO a.c v,a.l.map fun q=>q*v.getD 0⟩
def scaA (o:Int) (a b:Th):Th×Int:=bif a.t||b.t||(!b.con&&(decide (o=9)||!a.con)) then (Th.zero,13) else
 bif decide (o=8)&&!b.con then (timA b a.c,0) else
 bif decide (o=9) then (bif decide (¬divE (some ((1:Int):Rat)) b.c=0) then (Th.zero,15) else (timA a (divO (some ((1:Int):Rat)) b.c),0)) else (timA a b.c,0)
def addA (a b:Th):Th:=⟨false,false,addO a.c b.c,List.zipWith (· + ·) a.l b.l⟩
def subA (a b:Th):Th:=⟨false,false,subO a.c b.c,List.zipWith (· - ·) a.l b.l⟩
def sumA (o:Int) (a b:Th):Th×Int:=bif a.t||b.t then (Th.zero,13) else bif decide (o=7) then (subA a b,0) else (addA a b,0)
def cmpA (o:Int) (a b:Th):Th×Int:=bif !a.con||!b.con then (Th.zero,13) else
 bif decide (o=12) then truA (decide (cmpO a.c b.c<0)) else bif decide (o=13) then truA (decide (cmpO a.c b.c=0)) else
 bif decide (o=10)==decide (cmpO a.c b.c<=0) then (a,0) else (b,0)
def chA (rs:List (Th×Int)):Th×Int:=bif decide (¬(rs.getD 0 default).2=0) then (Th.zero,(rs.getD 0 default).2) else
 bif !(rs.getD 0 default).1.t then (Th.zero,13) else bif (rs.getD 0 default).1.i then rs.getD 1 default else rs.getD 2 default
def seqA:List (Th×Int)->Int ⊕ List Th
 | []=>.inr []
 | (r,e)::l=>bif decide (¬e=0) then .inl e else match seqA l with
  | .inl e=>.inl e
  | .inr rs=>.inr (r::rs)
def opA (n:Nat) (T:Vt) (o:Int) (s:ByteArray) (rs:List Th):Th×Int:=bif decide (o=2) then xu8 n T s (rs.getD 0 default) else
 bif decide (o=4)||decide (o=14)||decide (o=15) then logA o rs else
 bif decide (o=8)||decide (o=9) then scaA o (rs.getD 0 default) (rs.getD 1 default) else
 bif decide (o=6)||decide (o=7) then sumA o (rs.getD 0 default) (rs.getD 1 default) else cmpA o (rs.getD 0 default) (rs.getD 1 default)
def wxq (n:Nat) (T:Vt) (o:Int) (s:ByteArray) (q:Int ⊕ List Th):Th×Int:=match q with
 | .inl e=>(Th.zero,e)
 | .inr rs=>opA n T o s rs
mutual
def Ex.aff (n:Nat) (V:Va) (T:Vt):Ex->Th×Int
 | .mk o z u s l=>bif decide (o=0) then wfn n z u else bif decide (o=1) then x5b V s else
  bif decide (o=5) then chA (Ex.affL n V T l) else wxq n T o s (seqA (Ex.affL n V T l))
def Ex.affL (n:Nat) (V:Va) (T:Vt):List Ex->List (Th×Int)
 | []=>[]
 | y::l=>Ex.aff n V T y::Ex.affL n V T l
end
theorem Ex.zih (n:Nat) (V:Va) (T:Vt):∀ l:List Ex,Ex.affL n V T l=l.map (Ex.aff n V T)
 | []=>by rw [Ex.affL];rfl
 | y::l=>by rw [Ex.affL,Ex.zih n V T l];rfl
theorem Ex.xpb (n:Nat) (V:Va) (T:Vt) (x:Ex):x.aff n V T=bif decide (x.op=0) then wfn n x.n x.unit else bif decide (x.op=1) then x5b V x.name else
 bif decide (x.op=5) then chA (x.args.map (Ex.aff n V T)) else wxq n T x.op x.name (seqA (x.args.map (Ex.aff n V T))):=by cases x;rw [Ex.aff,Ex.zih];rfl
structure Sl where
 name:ByteArray
 f:Af
instance:Inhabited Sl:=⟨⟨⟨#[]⟩,Af.zero⟩⟩
def Sl.C (x:Sl):List Cell:=[cS x.name,.raw (.int .i64 x.f.c.s),.ints .i64 x.f.c.L,.raw (.int .i64 x.f.c.t),.ints .i64 x.f.c.M,.sl 4 (x.f.l.map Fc.C)]
abbrev slC (x:Sl):List Cell:=[cS x.name,.raw (.int .i64 x.f.c.s),.ints .i64 x.f.c.L,.raw (.int .i64 x.f.c.t),.ints .i64 x.f.c.M,.sl 4 (x.f.l.map Fc.C)]
theorem Sl.C_eq (x:Sl):x.C=slC x:=rfl
attribute [go_sem] Sl.C_eq
def Sl.val (x:Sl):Fm:=(x.f.c.val,x.f.l.map Fc.val)
def nOf (ss:List Sl):Nat:=match ss with
 | []=>0
 | s::_=>s.f.l.length
def gS (n:Nat) (V:Va):List Sl->Option Va
 | []=>some V
 | s::l=>bif !isName s.name||isWord s.name||!decide (s.f.ok n) then none else gS n (updF V s.name s.val) l
def gTb (V:Va) (T:Vt):List Tb->Option Vt
 | []=>some T
 | t::l=>bif (z2f V t.name).isSome||isWord t.name||!tbOk t then none else gTb V (updF T t.name t) l
def entA (ss:List Sl) (ms:List Tb):Option (Va×Vt):=match gS (nOf ss) [] ss with
 | none=>none
 | some V=>match gTb V [] ms with
  | none=>none
  | some T=>bif decide ((V.length:Int)=ss.length)&&decide ((T.length:Int)=ms.length) then some (V,T) else none
def affF (x:Ex) (ss:List Sl) (ms:List Tb):Th×Int:=bif !zqs x||x.wqm then (Th.zero,2) else match entA ss ms with
 | none=>(Th.zero,1)
 | some p=>bif decide (¬(x.aff (nOf ss) p.1 p.2).2=0) then (Th.zero,(x.aff (nOf ss) p.1 p.2).2) else bif (x.aff (nOf ss) p.1 p.2).1.t then (Th.zero,13) else ((x.aff (nOf ss) p.1 p.2).1,0)
def Th.G (n B:Nat) (x:Th):Prop:=(x.t=true/\x.c=none/\x.l=[])\/(x.t=false/\x.i=false/\x.l.length=n/\(∃ q,x.c=some q/\qs q<=B)/\∀ q∈x.l,qs q<=B)
theorem Th.G.mono {n C:Nat} (h:x.G n B) (hb:B<=C):x.G n C:=by
 rcases h with h | ⟨h1,h2,h3,⟨q,h4,h5⟩,h6⟩
 . exact .inl h
 . exact .inr ⟨h1,h2,h3,⟨q,h4,by omega⟩,fun q hq=>Nat.le_trans (h6 q hq) hb⟩
theorem Th.G.form {n:Nat} (h:x.G n B) (ht:x.t=false):x.i=false/\x.l.length=n/\(∃ q,x.c=some q/\qs q<=B)/\∀ q∈x.l,qs q<=B:=by
 rcases h with ⟨h1,_⟩ | ⟨_,h⟩
 . rw [h1] at ht;cases ht
 . exact h
theorem y6i (n B:Nat) (b:Bool):(truA b).1.G n B:=.inl ⟨rfl,rfl,rfl⟩
theorem z3n:qs (0:Rat)<=1:=by
 show max (dig (0:Int).natAbs).length (dig 1).length<=1;rw [show (0:Int).natAbs=0 from rfl,y89,xxw (by decide),y89];decide
theorem va1 {n:Nat} {q:Rat} (hv:v=some q) (hq:qs q<=B) (hB:1<=B):(numA n v).G n B:=
 .inr ⟨rfl,rfl,List.length_replicate,⟨q,hv,hq⟩,fun r hr=>by
  rw [List.eq_of_mem_replicate hr]
  exact Nat.le_trans z3n hB⟩
theorem xa0 (x y:Rat):qs (x+y)<=qs x+qs y+1:=Fc.v2c x y
theorem zae (x y:Rat):qs (x-y)<=qs x+qs y+1:=yde (some x) (some y)
theorem ysq {n C:Nat} (ha:a.G n B) (ht:a.t=false) {y:Rat} (hv:v=some y) (hy:qs y<=C):(timA a v).G n (B+C):=by
 obtain ⟨_,h2,⟨q,h3,h4⟩,h5⟩:=ha.form ht;subst hv;refine .inr ⟨rfl,rfl,by show (a.l.map _).length=n;rw [List.length_map];exact h2,⟨q*y,by show mulO a.c (some y)=_;rw [h3];rfl,Nat.le_trans (vmu q y) (by omega)⟩,fun r hr=>?_⟩;obtain ⟨p,hp,rfl⟩:=List.mem_map.1 (show r∈a.l.map fun q=>q*y from hr);exact Nat.le_trans (vmu p y) (Nat.add_le_add (h5 p hp) hy)
theorem ycf {α β γ:Type} {f:α->β->γ}:∀{l:List α} {m:List β} {r:γ},r∈List.zipWith f l m->∃ x∈l,∃ y∈m,r=f x y
 | [],_,_,h=>by simp at h
 | _::_,[],_,h=>by simp at h
 | x::l,y::m,r,h=>by
  rw [List.zipWith_cons_cons,List.mem_cons] at h
  rcases h with rfl | h
  . exact ⟨x,by simp,y,by simp,rfl⟩
  . obtain ⟨a,ha,b,hb,e⟩:=ycf h;exact ⟨a,by simp [ha],b,by simp [hb],e⟩
theorem zn1 {n C:Nat} {g:Rat->Rat->Rat} (hg:∀ x y,qs (g x y)<=qs x+qs y+1) (ha:a.G n B) (hb:b.G n C) (h1:a.t=false) (h2:b.t=false):Th.G n (B+C+1) ⟨false,false,op2O g a.c b.c,List.zipWith g a.l b.l⟩:=by
 obtain ⟨_,a2,⟨q,a3,a4⟩,a5⟩:=ha.form h1;obtain ⟨_,b2,⟨p,b3,b4⟩,b5⟩:=hb.form h2;refine .inr ⟨rfl,rfl,by rw [List.length_zipWith];omega,⟨g q p,by rw [a3,b3];rfl,Nat.le_trans (hg q p) (by omega)⟩,fun r hr=>?_⟩;obtain ⟨x,hx,y,hy,rfl⟩:=ycf hr
 have:=hg x y
 have:=a5 x hx
 have:=b5 y hy
 omega
theorem x4r {c:Bool} {a b:Th×Int} {n:Nat} (h1:a.2=0->a.1.G n B) (h2:b.2=0->b.1.G n B):(bif c then a else b).2=0->(bif c then a else b).1.G n B:=by cases c<;>assumption
theorem xsk {n:Nat} {e:Int} (he:e≠0) {t:Th}:((t,e):Th×Int).2=0->((t,e):Th×Int).1.G n B:=fun h=>absurd h he
theorem yz3 (h:¬(¬divE (some ((1:Int):Rat)) v=0)):∃ y,v=some y/\y≠0/\divO (some ((1:Int):Rat)) v=some (((1:Int):Rat) / y):=by
 cases v with
 | none=>exact absurd (fun h=>by cases h) h
 | some y=>
  by_cases hy:y=0
  . exact absurd (by show ¬(bif decide (y=0) then (15:Int) else 0)=0;rw [decide_eq_true hy];decide) h
  . exact ⟨y,rfl,hy,by show (bif decide (y=0) then none else some (((1:Int):Rat) / y))=_;rw [decide_eq_false hy];rfl⟩
theorem w9o {n C:Nat} (o:Int) (ha:a.G n B) (hb:b.G n C):(scaA o a b).2=0->(scaA o a b).1.G n (B+C+5):=by
 unfold scaA
 cases h:a.t||b.t||(!b.con&&(decide (o=9)||!a.con)) with
 | true=>exact xsk (by decide)
 | false=>
  rw [Bool.or_eq_false_iff,Bool.or_eq_false_iff] at h;obtain ⟨⟨h1,h2⟩,_⟩:=h;obtain ⟨_,_,⟨q,a3,a4⟩,_⟩:=ha.form h1;obtain ⟨_,_,⟨p,b3,b4⟩,_⟩:=hb.form h2;rw [cond_false];refine x4r (fun _=>(ysq hb h2 a3 a4).mono (by omega)) (x4r ?_ (fun _=>(ysq ha h1 b3 b4).mono (by omega)));by_cases hd:¬divE (some ((1:Int):Rat)) b.c=0
  . rw [decide_eq_true hd];exact xsk (by decide)
  . rw [decide_eq_false hd];obtain ⟨y,e1,hy,e2⟩:=yz3 hd;have hs:=x6h ((1:Int):Rat) y;have h1':qs ((1:Int):Rat)<=4:=x10 (n:=1) (by decide);rw [e1] at b3;cases b3
    exact fun _=>(ysq ha h1 e2 hs).mono (by omega)
theorem x9q {n C:Nat} (o:Int) (ha:a.G n B) (hb:b.G n C):(sumA o a b).2=0->(sumA o a b).1.G n (B+C+1):=by
 unfold sumA
 cases h:a.t||b.t with
 | true=>exact xsk (by decide)
 | false=>
  rw [Bool.or_eq_false_iff] at h;rw [cond_false];exact x4r (fun _=>zn1 zae ha hb h.1 h.2) (fun _=>zn1 xa0 ha hb h.1 h.2)
theorem xd6 {n C:Nat} (o:Int) (ha:a.G n B) (hb:b.G n C):(cmpA o a b).2=0->(cmpA o a b).1.G n (B+C+1):=by
 unfold cmpA;exact x4r (xsk (by decide)) (x4r (fun _=>y6i _ _ _) (x4r (fun _=>y6i _ _ _) (x4r (fun _=>ha.mono (by omega)) (fun _=>hb.mono (by omega)))))
theorem xfb {n:Nat} (o:Int) (l:List Th):(logA o l).2=0->(logA o l).1.G n B:=by
 unfold logA;exact x4r (xsk (by decide)) (fun _=>y6i _ _ _)
theorem wxi {t:Tb} (h:¬(¬(xwc t v).2=0)):∃ q,(xwc t v).1=some q/\qs q<=4204:=by
 have hq:=x24 t v;unfold xwc at h hq ⊢
 cases ht:vgr (fun s=>(xx7 s).2) t with
 | false=>rw [ht] at h;exact absurd (show ¬(1:Int)=0 by decide) h
 | true=>
  rw [ht] at h hq
  cases v with
  | none=>exact absurd (show ¬(1:Int)=0 by decide) h
  | some q=>
   simp only [Bool.not_true,cond_false] at h hq ⊢
   cases h0:decide (aft q t.rows=0) with
   | true=>rw [h0] at h;exact absurd (show ¬(4:Int)=0 by decide) h
   | false=>
    rw [h0] at hq;obtain ⟨u,h1,h2⟩:=(yg5 ht).1
    have e:zfd t (t.rows.getD (aft q t.rows-1) default).v=some (((t.rows.getD (aft q t.rows-1) default).v:Rat)*u.f):=by unfold zfd facO;rw [h1];rfl
    simp only [cond_false] at hq ⊢;rw [e] at hq ⊢;exact ⟨_,rfl,hq⟩
theorem wlu {n:Nat} (T:Vt) (s:ByteArray) (k:Th):(xu8 n T s k).2=0->(xu8 n T s k).1.G n 4204:=by
 unfold xu8
 cases z2f T s with
 | none=>exact xsk (by decide)
 | some t=>
  refine x4r (xsk (by decide)) ?_;by_cases h:¬(xwc t k.c).2=0
  . rw [decide_eq_true h];exact xsk h
  . rw [decide_eq_false h];obtain ⟨q,h1,h2⟩:=wxi h
    exact fun _=>va1 h1 h2 (by omega)
theorem yws {n:Nat} {z:Int} (hz:inI z) (u:ByteArray):(wfn n z u).2=0->(wfn n z u).1.G n 4204:=by
 unfold wfn;by_cases h:¬(xx7 u).2=0
 . rw [decide_eq_true h];exact xsk (by decide)
 . rw [decide_eq_false h]
   rcases veq u with ⟨v,h1,h2⟩ | ⟨e,he,h1⟩
   . have e1:mulO (some (z:Rat)) (facO u)=some ((z:Rat)*v.f):=by unfold facO;rw [h1];rfl
     have h3:qs (z:Rat)<=4:=x10 hz
     exact fun _=>va1 e1 (Nat.le_trans (vmu _ _) (by omega)) (by omega)
   . rw [h1] at h;exact absurd he h
theorem z8d : ∀ {l : List (Th × Int)} {rs : List Th}, seqA l = .inr rs → rs.length = l.length ∧ ∀ i, i < l.length → l.getD i default = (rs.getD i default, 0)
 | [],rs,h=>by rw [seqA] at h;cases h;exact ⟨rfl,fun i hi=>by simp at hi⟩
 | (r, e) :: l, rs, h => by
  rw [seqA] at h;by_cases he:e=0
  . subst he;simp only [not_true_eq_false,decide_false,cond_false] at h
    cases hs:seqA l with
    | inl e=>rw [hs] at h;cases h
    | inr r2=>
     rw [hs] at h;cases h;obtain ⟨h1,h2⟩:=z8d hs;refine ⟨by simp [h1],fun i hi=>?_⟩
     cases i with
     | zero=>rfl
     | succ i=>simpa using h2 i (by simpa using hi)
  . rw [decide_eq_true he] at h;cases h
theorem wiy:∀{l:List (Th×Int)} {e:Int},seqA l=.inl e->e≠0
 | [],e,h=>by rw [seqA] at h;cases h
 | (r,e0)::l,e,h=>by
  rw [seqA] at h;by_cases he:e0=0
  . subst he;simp only [not_true_eq_false,decide_false,cond_false] at h
    cases hs:seqA l with
    | inl e1=>rw [hs] at h;cases h;exact wiy hs
    | inr r2=>rw [hs] at h;cases h
  . rw [decide_eq_true he] at h;cases h;exact he
def Asm (n B:Nat) (V:Va):Prop:=∀ s f,z2f V s=some f->f.2.length=n/\qs f.1+10<=B/\∀ q∈f.2,qs q+10<=B
theorem xni {n:Nat} {V:Va} {T:Vt} (hB:4300<=B) (hV:Asm n B V):∀ x:Ex,x.shaped=true->x.wqm=false->(x.aff n V T).2=0->(x.aff n V T).1.G n (B*x.nd-5):=by
 refine Ex.ind (fun x ih hsh hcl=>?_);rw [Ex.ypb,Bool.and_eq_true,List.all_eq_true] at hsh;rw [Ex.xrx,Bool.or_eq_false_iff,decide_eq_false_iff_not,List.any_eq_false] at hcl;obtain ⟨hnode,hargs⟩:=hsh;have hnd:=Ex.xk0 x;have h1:B<=B*x.nd:=Nat.le_mul_of_pos_right _ (by omega)
 have hmem:∀ i,i<x.args.length->((x.args.map (Ex.aff n V T)).getD i default).2=0->((x.args.map (Ex.aff n V T)).getD i default).1.G n (B*(x.args.getD i default).nd-5):=fun i hi=>by
  have hm:=y7p hi;rw [getD_map hi];exact ih _ hm (hargs _ hm) (by simpa using hcl.2 _ hm)
 have hle:∀ i,i<x.args.length->B*(x.args.getD i default).nd<=B*x.nd:=fun i hi=>Nat.mul_le_mul_left _ (by have:=Ex.xka (y7p hi);omega)
 rw [Ex.xpb];by_cases h0:x.op=0
 . rw [decide_eq_true h0,cond_true];have hn:=xsm hnode h0
   exact fun h=>(yws (by unfold inI;omega) _ h).mono (by omega)
 rw [decide_eq_false h0,cond_false];by_cases h01:x.op=1
 . rw [decide_eq_true h01,cond_true];unfold x5b
   cases hl:z2f V x.name with
   | none=>exact xsk (by decide)
   | some f=>
    obtain ⟨a1,a2,a3⟩:=hV _ _ hl
    exact fun _=>.inr ⟨rfl,rfl,a1,⟨_,rfl,by omega⟩,fun q hq=>by have:=a3 q hq;omega⟩
 rw [decide_eq_false h01,cond_false]
 have hne:x.args.length≠0:=fun h=>by
  unfold xer at hnode;rw [decide_eq_false h0,decide_eq_false h01,h] at hnode;simp at hnode
 obtain ⟨hl2,hl3⟩:=zd3 hnode hcl.1 hne;by_cases h5:x.op=5
 . rw [decide_eq_true h5,cond_true];have hl:=hl3 h5;unfold chA;by_cases hc:¬((x.args.map (Ex.aff n V T)).getD 0 default).2=0
   . rw [decide_eq_true hc];exact xsk hc
   . rw [decide_eq_false hc,cond_false];exact x4r (xsk (by decide)) (x4r (fun h=>(hmem 1 (by omega) h).mono (by have:=hle 1 (by omega);omega)) (fun h=>(hmem 2 (by omega) h).mono (by have:=hle 2 (by omega);omega)))
 rw [decide_eq_false h5,cond_false]
 cases hs:seqA (x.args.map (Ex.aff n V T)) with
 | inl e=>exact xsk (wiy hs)
 | inr rs=>
  obtain ⟨hlen,hget⟩:=z8d hs;rw [List.length_map] at hlen hget;show (opA n T x.op x.name rs).2=0->_;show (opA n T x.op x.name rs).2=0->(opA n T x.op x.name rs).1.G _ _;unfold opA;by_cases h2:x.op=2
  . rw [decide_eq_true h2,cond_true]
    exact fun h=>(wlu T _ _ h).mono (by omega)
  rw [decide_eq_false h2,cond_false]
  cases hlg:decide (x.op=4)||decide (x.op=14)||decide (x.op=15) with
  | true=>exact xfb _ _
  | false=>
   rw [cond_false]
   have h4:x.op≠4:=fun h=>by rw [decide_eq_true h] at hlg;simp at hlg
   have hl:=hl2 h2 h4;have m0:=hmem 0 (by omega);have m1:=hmem 1 (by omega);rw [hget 0 (by omega)] at m0;rw [hget 1 (by omega)] at m1;have m0:=m0 rfl;have m1:=m1 rfl;have hn2:=Ex.nd2 hl;have hd:=Nat.mul_add B (x.args.getD 0 default).nd (x.args.getD 1 default).nd;have he:B*((x.args.getD 0 default).nd+(x.args.getD 1 default).nd+1)<=B*x.nd:=Nat.mul_le_mul_left _ (by omega);rw [Nat.mul_add,hd] at he;have p0:B<=B*(x.args.getD 0 default).nd:=Nat.le_mul_of_pos_right _ (by rw [Ex.xk0];omega);have p1:B<=B*(x.args.getD 1 default).nd:=Nat.le_mul_of_pos_right _ (by rw [Ex.xk0];omega);exact x4r (fun h=>(w9o _ m0 m1 h).mono (by omega)) (x4r (fun h=>(x9q _ m0 m1 h).mono (by omega)) (fun h=>(xd6 _ m0 m1 h).mono (by omega)))
def AfS (a:Af):Prop:=a.l.length<=1048576/\a.le 1048576
theorem wav {x:Ex} (h:xer x=true) (hne:x.args.length≠0) (h2:x.op≠2) (h3:x.op≠3) (h5:x.op≠5):(x.op=4/\x.args.length=1)\/(6<=x.op/\x.op<=15/\x.args.length=2):=by
 unfold xer at h;by_cases a0:x.op=0
 . rw [decide_eq_true a0,cond_true] at h;simp only [Bool.and_eq_true,decide_eq_true_eq] at h;omega
 rw [decide_eq_false a0,cond_false] at h
 cases hb:(decide (¬x.n=0)||decide (¬x.unit.size=0)) with
 | true=>rw [hb,cond_true] at h;cases h
 | false=>
 rw [hb,cond_false] at h;by_cases a1:x.op=1
 . rw [decide_eq_true a1,cond_true] at h;simp only [Bool.and_eq_true,decide_eq_true_eq] at h;omega
 rw [decide_eq_false a1,decide_eq_false h2,decide_eq_false h3] at h;simp only [cond_false] at h;by_cases a4:x.op=4
 . rw [decide_eq_true a4] at h;simp only [cond_true,Bool.and_eq_true,decide_eq_true_eq] at h;omega
 rw [decide_eq_false a4,decide_eq_false h5] at h;simp only [cond_false] at h;by_cases a6:x.op=10\/x.op=11
 . rw [show (decide (x.op=10)||decide (x.op=11))=true by rcases a6 with h | h<;>simp [h]] at h;simp only [cond_true,Bool.and_eq_true,decide_eq_true_eq] at h;omega
 rw [decide_eq_false (fun h=>a6 (.inl h)),decide_eq_false (fun h=>a6 (.inr h))] at h;simp only [Bool.or_self,cond_false,Bool.and_eq_true] at h;have h7:=h.1.1;unfold isOp at h7;simp only [Bool.or_eq_true,decide_eq_true_eq] at h7 h;omega
end Go.Hp.T
namespace Go.Slot
open Go Go.RowKit Go.Slot.T
def ownQ:List Rat->List Rat
 | []=>[]
 | c::cs=>max c 0::max (-c) 0::ownQ cs
def ownM:List Fc->List Fc
 | []=>[]
 | c::cs=>Fc.maxf c (Fc.of 0)::Fc.maxf (Fc.neg c) (Fc.of 0)::ownM cs
theorem zqq:∀ cs:List Rat,ownM (cs.map Fc.of)=(ownQ cs).map Fc.of
 | []=>rfl
 | c::cs=>by
  show Fc.maxf (Fc.of c) (Fc.of 0)::Fc.maxf (Fc.neg (Fc.of c)) (Fc.of 0)::ownM (cs.map Fc.of)=Fc.of (max c 0)::Fc.of (max (-c) 0)::(ownQ cs).map Fc.of;rw [Fc.ymu,Fc.wij,Fc.wij,zqq cs]
theorem w8v {op:Fc->Fc->Fc} {g:Rat->Rat->Rat} (hop:∀ x y,op (Fc.of x) (Fc.of y)=Fc.of (g x y)) (k m:Rat) (cs ds:List Rat):Af.each op (Af.of k cs) (Af.of m ds)=Af.of (g k m) (List.zipWith g cs ds):=by
 have:∀(cs ds:List Rat),List.zipWith op (cs.map Fc.of) (ds.map Fc.of)=(List.zipWith g cs ds).map Fc.of:=by
  intro cs
  induction cs with
  | nil=>intro ds;rfl
  | cons c cs ih=>intro ds;cases ds with
   | nil=>rfl
   | cons d ds=>simp only [List.map_cons,List.zipWith_cons_cons,hop,ih]
 unfold Af.each Af.of;simp only [hop,this]
theorem vq7 {g:Rat->Rat->Rat} {f:Rat->Rat} (h:∀ x,g x x=f x):∀ cs:List Rat,List.zipWith g cs cs=cs.map f
 | []=>rfl
 | c::cs=>by simp only [List.zipWith_cons_cons,h,vq7 h cs,List.map_cons]
theorem xi1 (k q:Rat) (cs:List Rat):Af.times (Af.of k cs) (Fc.of q)=Af.of (k*q) (cs.map (· * q)):=by
 unfold Af.times
 have e:(Af.of k cs).l.length=cs.length:=by simp [Af.of]
 rw [if_pos ⟨(Af.xd3 k cs _).2 e.symm,Fc.xd3 q⟩];rw [w8v (g:=fun x _=>x*q) (fun x y=>Fc.x5c x q) k k cs cs,vq7 (f:=(· * q)) (fun x=>rfl)]
end Go.Slot
namespace Go.Hp.T
open Go Go.RowKit Go.Slot Go.Hp Go.Slot.T
open Go.Proofs.Tryz (prog)
set_option maxRecDepth 10000
set_option maxHeartbeats 8000000
variable {Γ:List (Nat×List Cell)}
variable {t i:Bool} {B:Nat}
abbrev afC (f:Fm):List Cell:=[.raw (.int .i64 (qF (some f.1)).s),.ints .i64 (qF (some f.1)).L,.raw (.int .i64 (qF (some f.1)).t),.ints .i64 (qF (some f.1)).M,.sl 4 (f.2.map rowQ)]
theorem vqk (l:List Rat):List.map Fc.C (List.map Fc.of l)=l.map rowQ:=by rw [List.map_map];rfl
theorem y6w (k:Rat) (cs:List Rat):(Af.of k cs).C=afC (k,cs):=by unfold Af.of;rw [Af.C_eq];simp only [vqk];rfl
abbrev thA (r:Th×Int):AV:=.tup [.agg (thC r.1),.one (cI r.2)]
abbrev thS (r:Th×Int):SV:=.tup [.agg ((thC r.1).map .dat),.one (.dat (cI r.2))]
abbrev thZ (t i:Bool):List Cell:=[cB t,cB i,cI 0,.zc,cI 0,.zc,.zc]
theorem thLe:AV.Le (.agg (thZ t i)) (.agg (thC ⟨t,i,none,[]⟩)):=.agg (.cons (.refl _) (.cons (.refl _) (.cons (.refl _) (.cons (.zuc _) (.cons (.refl _) (.cons (.zuc _) (.cons (.zcSl _) .nil)))))))
theorem thEq {e:Int} {r:Th×Int} (h:r=(⟨t,i,none,[]⟩,e)):RLe (.tup [.agg (thZ t i),.one (cI e)]) (thA r):=by
 subst h;exact .tup (.cons thLe (.cons (.refl _) .nil))
theorem StH.thZ {e:List SB} {I':List SV} {J:List SB} {t i:Bool} {n:Int} (h:StH Γ e [thS (⟨t,i,none,[]⟩,n)] J I' e):StH Γ e [SV.tup [.agg ((T.thZ t i).map .dat),.one (.dat (cI n))]] J I' e:=
 StH.trans (StH.tup1 (.cons (.agg (.cons (.refl _) (.cons (.refl _) (.cons (.refl _) (.cons (.dat (.zuc _)) (.cons (.refl _) (.cons (.dat (.zuc _)) (.cons (.dat (.zcSl _)) .nil)))))))) (.cons (.refl _) .nil))) h
theorem StH.z9p {e:List SB} {I:List SV} {J:List SB} {n:Int} {r:Th×Int} (he:J.take e.length=e) (h:(I.all fun x=>(wj3 x).all fun b=>Nat.blt b e.length)=true) (hσ:I=[SV.tup [.agg ((T.thZ t i).map .dat),.one (.dat (cI n))]]) (hr:r=(⟨t,i,none,[]⟩,n)):StH Γ e I J [thS r] e:=by
 subst hr;exact StH.trans (StH.vzq he h hσ) (StH.thZ StH.refl)
theorem Th.G.cs {n B:Nat} {x:Th} (h:x.G n B):(∃ i,x=⟨true,i,none,[]⟩)\/∃ k cs,x=⟨false,false,some k,cs⟩/\cs.length=n/\qs k<=B/\∀ q∈cs,qs q<=B:=by
 obtain ⟨t,i,c,l⟩:=x
 rcases h with ⟨h1,h2,h3⟩ | ⟨h1,h2,h3,⟨q,h4,h5⟩,h6⟩
 . simp only at h1 h2 h3;subst h1 h2 h3;exact .inl ⟨i,rfl⟩
 . simp only at h1 h2 h3 h4 h6;subst h1 h2 h4;exact .inr ⟨q,l,rfl,h3,h5,h6⟩
theorem Th.G.rows {n:Nat} {x:Th} (h:x.G n B):x.l.length<=n/\∀ q∈x.l,qs q<=B:=by
 rcases h with ⟨_,_,h3⟩ | ⟨_,_,h3,_,h6⟩
 . rw [h3];exact ⟨Nat.zero_le _,fun q hq=>by cases hq⟩
 . exact ⟨Nat.le_of_eq h3,h6⟩
theorem zf5 {cs:List Rat} (h:∀ q∈cs,qs q<=B):∀ f∈cs.map Fc.of,f.sz<=B:=fun f hf=>by
 obtain ⟨q,hq,rfl⟩:=List.mem_map.1 hf;exact h q hq
theorem zv9:∀ l:List Rat,(l.map Fc.of).any (fun f=>decide (¬Fc.sign f=0)) = !l.all (fun q=>decide (q=0))
 | []=>rfl
 | q::l=>by
  rw [List.map_cons,List.any_cons,List.all_cons,zv9 l,Bool.not_and]
  congr 1
  rw [<-decide_not];refine decide_eq_decide.2 ?_;rw [show Fc.sign (Fc.of q)=sg q.num from Fc.w9t q];exact not_congr x7m
theorem wct (f:Fc) (h:f.sz<=67108864):CallsD Γ prog 201 [.agg f.C] (.one (cB (decide (¬Fc.sign f=0)))):=by
 refine CallsD.run [] Go.Proofs.Tryz.func201 rfl rfl rfl ?_;simp only [Go.Proofs.Tryz.f201];refine hgR ?_
 repeat' ((first | refine hfk ?_ ?_<;>intros | refine hik ?_ | with_reducible first | refine wml (xhi f h) ?_ | refine ysj (xhi f h) ?_)<;>refine hgS ?_)
 all_goals refine lfE ?_;first | exact trivial | rfl
theorem cCon (x:Th) (hl:x.l.length<=1048576) (hs:∀ q∈x.l,qs q<=67108864):CallsD Γ prog 146 [.agg (thC x)] (.one (cB x.con)):=by
 have h:=xmy (Γ:=Γ) 201 (fun f=>decide (¬Fc.sign f=0)) (x.l.map Fc.of) (by rw [List.length_map];omega) (fun i hi=>wct _ (zmm (zf5 hs) hi));rw [zv9,vqk] at h;have e:x.con=(!x.t&&x.l.all (fun q=>decide (q=0))):=rfl;rw [e];generalize x.l.all (fun q=>decide (q=0))=c at *;refine CallsD.run [] Go.Proofs.Tryz.func146 rfl rfl rfl ?_;simp only [Go.Proofs.Tryz.f146];refine hgR ?_
 repeat' ((first | refine hfk ?_ ?_<;>intros | refine hik ?_ | with_reducible first | refine wml (h) ?_ | refine ysj (h) ?_)<;>refine hgS ?_)
 all_goals (refine RLe.ofEq ?_;conv=>simp only [Bool.and_true,Bool.true_and,Bool.and_false,Bool.false_and,Bool.or_true,Bool.true_or,Bool.or_false,Bool.false_or,Bool.not_true,Bool.not_false,decide_true,decide_false,not_true_eq_false,not_false_eq_true,wiu,if_true,if_false,Bool.and_self,Bool.or_self,cond_true,cond_false,List.length_map,ne_eq,Int.reduceEq,Int.reduceLT,Int.reduceLE, *,Bool.not_not]);first | exact trivial | rfl
theorem Th.G.con {n B:Nat} {x:Th} (h:x.G n B) (hn:n<=1048576) (hB:B<=67108864):CallsD Γ prog 146 [.agg (thC x)] (.one (cB x.con)):=
 cCon x (Nat.le_trans h.rows.1 hn) (fun q hq=>Nat.le_trans (h.rows.2 q hq) hB)
theorem zbq (l:List Th) (f:FuncId) (p:Th->Bool) (hl:l.length<=1073741824) (h:∀ y∈l,CallsD Γ prog f [.agg (thC y)] (.one (cB (p y)))) :
 CallsD Γ prog 205 [.one (.sl 7 (l.map Th.C)),fN f] (.one (cI (idxF p l))):=by
 refine CallsD.run [] Go.Proofs.Tryz.func205 rfl rfl rfl ?_;simp only [Go.Proofs.Tryz.f205];refine hgR ?_;refine x20 [0,1,7] (fun i:Nat=>[(8,.one (.dat (cI i)))]) (fun _=>[]) (fun i=>i<=l.length/\∀ j,j<i->p (l.getD j default)=false) (fun i=>l.length-i) 0 ⟨Nat.zero_le _,fun j hj=>by omega⟩ ?_ ?_
 . refine hg ?_;exact StH.same svl rfl
 intro i hi;obtain ⟨hi,hj⟩:=hi;refine hg ?_
 repeat' ((first | refine hfk ?_ ?_<;>intros | refine hik ?_ | with_reducible first | refine wml (h _ (y7p (show i<l.length by omega))) ?_ | refine ysj (h _ (y7p (show i<l.length by omega))) ?_)<;>refine hgS ?_)
 . rename_i hp;rw [(w7a hi hj).2 (by omega) hp];exact RLe.ofEq rfl
 . rename_i hp;refine ⟨i+1,⟨by omega,fun j hj'=>?_⟩,by omega,StH.same svl rfl⟩
   rcases Nat.lt_or_eq_of_le (Nat.le_of_lt_succ hj') with h2 | h2
   . exact hj j h2
   . rw [h2];exact hp
 . rw [(w7a hi hj).1 (by omega)];exact RLe.ofEq rfl
theorem xaw (l:List Th) (f:FuncId) (p:Th->Bool) (hl:l.length<=1073741824) (h:∀ y∈l,CallsD Γ prog f [.agg (thC y)] (.one (cB (p y)))) :
 CallsD Γ prog 148 [.one (.sl 7 (l.map Th.C)),fN f] (.one (cB (l.any p))):=by
 refine CallsD.run [] Go.Proofs.Tryz.func148 rfl rfl rfl ?_;simp only [Go.Proofs.Tryz.f148];refine hgR ?_
 repeat' ((first | refine hfk ?_ ?_<;>intros | refine hik ?_ | with_reducible first | refine wml (zbq l f p hl h) ?_ | refine ysj (zbq l f p hl h) ?_)<;>refine hgS ?_)
 exact RLe.ofEq (by rw [<-z9z])
theorem wc5 (x:Th):CallsD Γ prog 149 [.agg (thC x)] (.one (cB (!x.t))):=by
 refine CallsD.run [] Go.Proofs.Tryz.func149 rfl rfl rfl ?_;simp only [Go.Proofs.Tryz.f149];refine hgR ?_
 repeat' ((first | refine hfk ?_ ?_<;>intros | refine hik ?_)<;>refine hgS ?_)
 all_goals refine lfE ?_;first | exact trivial | rfl
theorem y34 (o:Int) (l:List Th) (h0:0<l.length) (hl:l.length<=1073741824) (h2:o=14\/o=15->1<l.length):CallsD Γ prog 84 [.one (cI o),.one (.sl 7 (l.map Th.C))] (thA (logA o l)):=by
 have h:=xaw (Γ:=Γ) l 149 (fun t=>!t.t) (by omega) (fun y _=>wc5 y)
 have e:logA o l=bif l.any (fun t=>!t.t) then (⟨false,false,none,[]⟩,13) else truA (bif decide (o=14) then (l.getD 0 default).i&&(l.getD 1 default).i else bif decide (o=15) then (l.getD 0 default).i||(l.getD 1 default).i else !(l.getD 0 default).i):=rfl
 generalize l.any (fun t=>!t.t)=c at h e;generalize hR:logA o l=R at e
 cases c with
 | true=>
  refine CallsD.run [] Go.Proofs.Tryz.func84 rfl rfl rfl ?_;simp only [Go.Proofs.Tryz.f84];refine hgR ?_
  repeat' ((first | refine hfk ?_ ?_<;>intros | refine hik ?_ | with_reducible first | refine wml (h) ?_ | refine ysj (h) ?_)<;>refine hgS ?_)
  all_goals first
   | exact thEq rfl
   | exact RLe.ofEq rfl
   | (exfalso;omega)
   | exact thEq (by simp [*,truA,timA])
   | exact RLe.ofEq (by simp [*,truA,timA])
 | false=>
  by_cases o14:o=14
  . have h2':=h2 (.inl o14);subst o14;refine CallsD.run [] Go.Proofs.Tryz.func84 rfl rfl rfl ?_;simp only [Go.Proofs.Tryz.f84];refine hgR ?_
    repeat' ((first | refine hfk ?_ ?_<;>intros | refine hik ?_ | with_reducible first | refine wml (h) ?_ | refine ysj (h) ?_)<;>refine hgS ?_)
    all_goals first
    | exact thEq rfl
    | exact RLe.ofEq rfl
    | (exfalso;omega)
    | exact thEq (by simp [*,truA,timA])
    | exact RLe.ofEq (by simp [*,truA,timA])
  . by_cases o15:o=15
    . have h2':=h2 (.inr o15);subst o15;refine CallsD.run [] Go.Proofs.Tryz.func84 rfl rfl rfl ?_;simp only [Go.Proofs.Tryz.f84];refine hgR ?_
      repeat' ((first | refine hfk ?_ ?_<;>intros | refine hik ?_ | with_reducible first | refine wml (h) ?_ | refine ysj (h) ?_)<;>refine hgS ?_)
      all_goals first
    | exact thEq rfl
    | exact RLe.ofEq rfl
    | (exfalso;omega)
    | exact thEq (by simp [*,truA,timA])
    | exact RLe.ofEq (by simp [*,truA,timA])
    . refine CallsD.run [] Go.Proofs.Tryz.func84 rfl rfl rfl ?_;simp only [Go.Proofs.Tryz.f84];refine hgR ?_
      repeat' ((first | refine hfk ?_ ?_<;>intros | refine hik ?_ | with_reducible first | refine wml (h) ?_ | refine ysj (h) ?_)<;>refine hgS ?_)
      all_goals first
    | exact thEq rfl
    | exact RLe.ofEq rfl
    | (exfalso;omega)
    | exact thEq (by simp [*,truA,timA])
    | exact RLe.ofEq (by simp [*,truA,timA])
theorem zlw {n:Nat} (o:Int) (a b:Th) (ha:a.G n B) (hb:b.G n B) (hn:n<=1048576) (hB:B<=67108864):CallsD Γ prog 86 [.one (cI o),.agg (thC a),.agg (thC b)] (thA (sumA o a b)):=by
 generalize hR:sumA o a b=R
 rcases ha.cs with ⟨i,rfl⟩ | ⟨k,cs,rfl,h1,h2,h3⟩
 . refine CallsD.run [] Go.Proofs.Tryz.func86 rfl rfl rfl ?_;simp only [Go.Proofs.Tryz.f86];refine hgR ?_;exact thEq hR.symm
 rcases hb.cs with ⟨i,rfl⟩ | ⟨m,ds,rfl,k1,k2,k3⟩
 . refine CallsD.run [] Go.Proofs.Tryz.func86 rfl rfl rfl ?_;simp only [Go.Proofs.Tryz.f86];refine hgR ?_;exact thEq hR.symm
 have la:(Af.of k cs).l.length<=1048576:=by show (cs.map Fc.of).length<=_;rw [List.length_map];omega
 have lb:(Af.of k cs).l.length<=(Af.of m ds).l.length:=by show (cs.map Fc.of).length<=(ds.map Fc.of).length;rw [List.length_map,List.length_map];omega
 have za:(Af.of k cs).le 67108864:=⟨Nat.le_trans h2 hB,zf5 (fun q hq=>Nat.le_trans (h3 q hq) hB)⟩;have zb:(Af.of m ds).le 67108864:=⟨Nat.le_trans k2 hB,zf5 (fun q hq=>Nat.le_trans (k3 q hq) hB)⟩;have e1:=CallsD.fn2 (Γ:=Γ) (g:=21) (ylz 67108864 Fc.add (fun x y=>Fc.er (x.ok/\y.ok)) (Af.of k cs) (Af.of m ds) lb la za zb) (wza (Γ:=Γ) Fc.zero Fc.zero (by decide) (by decide)).1
  (fun args res ⟨x,y,hx,hy,h1,h2⟩=>by subst h1 h2;exact wza x y hx hy)
 have e2:=CallsD.fn2 (Γ:=Γ) (g:=151) (ylz 67108864 Fc.sub (fun x y=>Fc.er (x.ok/\y.ok)) (Af.of k cs) (Af.of m ds) lb la za zb) (yjd (Γ:=Γ) Fc.zero Fc.zero (by decide) (by decide)).1
  (fun args res ⟨x,y,hx,hy,h1,h2⟩=>by subst h1 h2;exact yjd x y hx hy)
 rw [w8v Fc.xac,y6w,y6w,y6w] at e1;rw [w8v Fc.zig,y6w,y6w,y6w] at e2;refine CallsD.run [] Go.Proofs.Tryz.func86 rfl rfl rfl ?_;simp only [Go.Proofs.Tryz.f86];refine hgR ?_
 repeat' ((first | refine hfk ?_ ?_<;>intros | refine hik ?_ | with_reducible first | refine wml (e1) ?_ | refine ysj (e1) ?_ | refine wml (e2) ?_ | refine ysj (e2) ?_)<;>refine hgS ?_)
 all_goals (subst hR;first
  | exact RLe.ofEq rfl
  | exact RLe.ofEq (by simp [sumA,addA,subA, *];exact ⟨rfl,rfl,rfl,rfl⟩))
theorem xoj (k q:Rat) (cs:List Rat) (hl:cs.length<=1048576) (h1:qs k<=67108864) (h2:∀ c∈cs,qs c<=67108864) (h3:qs q<=67108864) :
 CallsD Γ prog 13 [.agg (afC (k,cs)),.agg (qC (some q))] (.tup [.agg (afC (k*q,cs.map (· * q))),.one (cI 0)]):=by
 have h:=zy8 (Γ:=Γ) (Af.of k cs) (Fc.of q) (by show (cs.map Fc.of).length<=_;rw [List.length_map];omega) ⟨h1,zf5 h2⟩ h3;rw [xi1,y6w,y6w,Fc.wop ⟨(Af.xd3 _ _ _).2 (by show _=(cs.map Fc.of).length;rw [List.length_map]),Fc.xd3 q⟩] at h;exact h
theorem zda {n:Nat} (o:Int) (ho:o=8\/o=9) (a b:Th) (ha:a.G n B) (hb:b.G n B) (hn:n<=1048576) (hB:B<=33554432):CallsD Γ prog 85 [.one (cI o),.agg (thC a),.agg (thC b)] (thA (scaA o a b)):=by
 have ca:=ha.con (Γ:=Γ) hn (by omega);have cb:=hb.con (Γ:=Γ) hn (by omega);generalize hR:scaA o a b=R
 rcases ha.cs with ⟨i,rfl⟩ | ⟨k,cs,rfl,h1,h2,h3⟩
 . refine CallsD.run [] Go.Proofs.Tryz.func85 rfl rfl rfl ?_;simp only [Go.Proofs.Tryz.f85];refine hgR ?_;exact thEq hR.symm
 rcases hb.cs with ⟨i,rfl⟩ | ⟨m,ds,rfl,k1,k2,k3⟩
 . refine CallsD.run [] Go.Proofs.Tryz.func85 rfl rfl rfl ?_;simp only [Go.Proofs.Tryz.f85];refine hgR ?_;exact thEq hR.symm
 have l1:cs.length<=1048576:=by omega
 have l2:ds.length<=1048576:=by omega
 have t1:=xoj (Γ:=Γ) k m cs l1 (by omega) (fun q hq=>by have:=h3 q hq;omega) (by omega);have t2:=xoj (Γ:=Γ) m k ds l2 (by omega) (fun q hq=>by have:=k3 q hq;omega) (by omega)
 have hR2:R=bif (!Th.con ⟨false,false,some m,ds⟩&&(decide (o=9)||!Th.con ⟨false,false,some k,cs⟩)) then (⟨false,false,none,[]⟩,13) else
  bif decide (o=8)&&!Th.con ⟨false,false,some m,ds⟩ then (⟨false,false,some (m*k),ds.map (· * k)⟩,0) else
  bif decide (o=9) then (bif decide (¬divE (some ((1:Int):Rat)) (some m)=0) then (⟨false,false,none,[]⟩,15) else (timA ⟨false,false,some k,cs⟩ (divO (some ((1:Int):Rat)) (some m)),0)) else (⟨false,false,some (k*m),cs.map (· * m)⟩,0):=hR.symm
 generalize Th.con ⟨false,false,some k,cs⟩=xa at ca hR2;generalize Th.con ⟨false,false,some m,ds⟩=xb at cb hR2;clear hR ha hb
 rcases ho with rfl | rfl
 . refine CallsD.run [] Go.Proofs.Tryz.func85 rfl rfl rfl ?_;simp only [Go.Proofs.Tryz.f85];refine hgR ?_
   repeat' ((first | refine hfk ?_ ?_<;>intros | refine hik ?_ | with_reducible first | refine wml (ca) ?_ | refine ysj (ca) ?_ | refine wml (cb) ?_ | refine ysj (cb) ?_ | refine wml (t1) ?_ | refine ysj (t1) ?_ | refine wml (t2) ?_ | refine ysj (t2) ?_)<;>refine hgS ?_)
   all_goals first
    | exact thEq rfl
    | exact RLe.ofEq rfl
    | (exfalso;omega)
    | exact thEq (by simp [*,truA,timA])
    | exact RLe.ofEq (by simp [*,truA,timA])
 . have hz:=x10 (n:=1) (by decide);have hd:=oDiv (Γ:=Γ) (some ((1:Int):Rat)) (some m) (by omega) (by show qs m<=_;omega);by_cases hm:m=0
   . subst hm
     have e1:divE (some ((1:Int):Rat)) (some 0)=15:=by show (bif decide ((0:Rat)=0) then (15:Int) else 0)=15;rw [decide_eq_true rfl];rfl
     rw [e1] at hd hR2;refine CallsD.run [] Go.Proofs.Tryz.func85 rfl rfl rfl ?_;simp only [Go.Proofs.Tryz.f85];refine hgR ?_
     repeat' ((first | refine hfk ?_ ?_<;>intros | refine hik ?_ | with_reducible first | refine wml (ca) ?_ | refine ysj (ca) ?_ | refine wml (cb) ?_ | refine ysj (cb) ?_ | refine wml (oInt 1 (by decide)) ?_ | refine ysj (oInt 1 (by decide)) ?_ | refine wml (hd) ?_ | refine ysj (hd) ?_)<;>refine hgS ?_)
     all_goals first
     | exact thEq rfl
     | exact RLe.ofEq rfl
     | (exfalso;omega)
     | exact thEq (by simp [*,truA,timA])
     | exact RLe.ofEq (by simp [*,truA,timA])
   . have e1:divE (some ((1:Int):Rat)) (some m)=0:=by show (bif decide (m=0) then (15:Int) else 0)=0;rw [decide_eq_false hm];rfl
     have e2:divO (some ((1:Int):Rat)) (some m)=some (((1:Int):Rat) / m):=by show (bif decide (m=0) then none else some (((1:Int):Rat) / m))=_;rw [decide_eq_false hm];rfl
     have hs:=x6h ((1:Int):Rat) m;have h1':qs ((1:Int):Rat)<=4:=hz;have t3:=xoj (Γ:=Γ) k (((1:Int):Rat) / m) cs l1 (by omega) (fun q hq=>by have:=h3 q hq;omega) (by omega);rw [e1,e2] at hd hR2;refine CallsD.run [] Go.Proofs.Tryz.func85 rfl rfl rfl ?_;simp only [Go.Proofs.Tryz.f85];refine hgR ?_
     repeat' ((first | refine hfk ?_ ?_<;>intros | refine hik ?_ | with_reducible first | refine wml (ca) ?_ | refine ysj (ca) ?_ | refine wml (cb) ?_ | refine ysj (cb) ?_ | refine wml (oInt 1 (by decide)) ?_ | refine ysj (oInt 1 (by decide)) ?_ | refine wml (hd) ?_ | refine ysj (hd) ?_ | refine wml (t3) ?_ | refine ysj (t3) ?_)<;>refine hgS ?_)
     all_goals first
     | exact thEq rfl
     | exact RLe.ofEq rfl
     | (exfalso;omega)
     | exact thEq (by simp [*,truA,timA])
     | exact RLe.ofEq (by simp [*,truA,timA])
end Go.Hp.T
namespace Go.Hp.T
open Go Go.RowKit Go.Slot Go.Hp Go.Slot.T
open Go.Proofs.Tryz (prog)
set_option maxRecDepth 10000
set_option maxHeartbeats 4000000
variable {Γ:List (Nat×List Cell)}
variable {α:Type} {r:Nat->Nat}
theorem yp7 {C:α->SV} (h:∀ r a,v3y r (C a)=C a) (r:Nat->Nat) (l:List (ByteArray×α)):rnSB r (.map (envM C l))=.map (envM C l):=by
 have:(envM C l).map (fun p=>(p.1,v3y r p.2))=envM C l:=by
  induction l with
  | nil=>rfl
  | cons p l ih=>
   show (Value.string p.1,v3y r (C p.2))::(envM C l).map _=_;rw [ih,h];rfl
 show SB.map _=_;rw [this]
theorem xgc {C:α->SV} (h:∀ i j a,xy0 i j (C a)=C a) (i j:Nat) (l:List (ByteArray×α)):swSB i j (.map (envM C l))=.map (envM C l):=by
 have:(envM C l).map (fun p=>(p.1,xy0 i j p.2))=envM C l:=by
  induction l with
  | nil=>rfl
  | cons p l ih=>
   show (Value.string p.1,xy0 i j (C p.2))::(envM C l).map _=_;rw [ih,h];rfl
 show SB.map _=_;rw [this]
theorem xuj {C:α->SV} (h:∀ a,wj3 (C a)=[]) (l:List (ByteArray×α)):vb5 (.map (envM C l))=[]:=by
 show (envM C l).flatMap (fun p=>wj3 p.2)=[]
 induction l with
 | nil=>rfl
 | cons p l ih=>show wj3 (C p.2)++(envM C l).flatMap _=[];rw [ih,h];rfl
theorem yi4 {l:Vq}:rnSB r (.map (envQ l))=.map (envQ l):=yp7 (fun _ _=>rfl) r l
theorem zgw {l:Vt}:rnSB r (.map (envB l))=.map (envB l):=yp7 (fun _ _=>rfl) r l
theorem vp2 (i j:Nat) (l:Vq):swSB i j (.map (envQ l))=.map (envQ l):=xgc (fun _ _ _=>rfl) i j l
theorem vcy (i j:Nat) (l:Vt):swSB i j (.map (envB l))=.map (envB l):=xgc (fun _ _ _=>rfl) i j l
theorem yce (l:Vq):vb5 (.map (envQ l))=[]:=xuj (fun _=>rfl) l
theorem wor (l:Vt):vb5 (.map (envB l))=[]:=xuj (fun _=>rfl) l
attribute [go_sem] yce wor
attribute [go_sem 20000] yi4 zgw vp2 vcy
abbrev mQ (l:Vq):SB:=.map (envQ l)
abbrev mB (l:Vt):SB:=.map (envB l)
theorem zcx (V:Vq) (T:Vt):∀ r,[mQ V,mB T].map (rnSB r)=[mQ V,mB T]:=fun r=>by
 simp only [List.map_cons,List.map_nil,mQ,mB,yi4,zgw]
theorem wo0 (o:Int) (l:List Rs) (hl:l.length<=1073741824):CallsD Γ prog 108 [.one (cI o),.one (.sl 6 (l.map Rs.C))] (rsR (logV o l)):=by
 generalize hR:logV o l=R;refine CallsD.run [] Go.Proofs.Tryz.func108 rfl rfl rfl ?_;simp only [Go.Proofs.Tryz.f108];refine hgR ?_;refine x20 [0,1,4,10,11] (fun i:Nat=>[(6,.one (.dat (cB ((l.take i).all (·.i))))),(7,.one (.dat (cB ((l.take i).any (·.i))))),(12,.one (.dat (cI i)))]) (fun _=>[.box ((rsZ false false).map .dat) (some 61)])
  (fun i=>i<=l.length/\∀ j,j<i->(l.getD j default).t=true) (fun i=>l.length-i) 0 ⟨Nat.zero_le _,fun j hj=>by omega⟩ ?_ ?_
 . refine hg ?_;exact StH.same svl rfl
 rintro i ⟨hi,hj⟩;refine hg ?_;refine vt2 (fun hlt _=>?_) (fun hlt _=>?_)
 . have hlt':i<l.length:=by omega
   have hbad:(l.getD i default).t=false->R=(⟨false,false,none⟩,13):=fun h=>by
    rw [<-hR];unfold logV;rw [show l.any (fun r=>!r.t)=true from List.any_eq_true.2 ⟨_,y7p hlt',by rw [h];rfl⟩];rfl
   have hA:(l.take (i+1)).all (·.i)=((l.take i).all (·.i)&&(l.getD i default).i):=by rw [wcz hlt',List.all_append];simp
   have hS:(l.take (i+1)).any (·.i)=((l.take i).any (·.i)||(l.getD i default).i):=by rw [wcz hlt',List.any_append];simp
   have hnext:=fun h=>xm4 (p:=fun j=>(l.getD j default).t=true) hj h
   clear hj hR;generalize (l.take i).all (·.i)=A at *;generalize (l.take i).any (·.i)=S at *;refine hg ?_
   repeat' ((first | refine hfk ?_ ?_<;>intros | refine hik ?_)<;>refine hgS ?_)
   all_goals first
    | exact rsEq rfl
    | (rw [hbad (by assumption)];exact rsEq rfl)
    | (refine ⟨i+1,⟨by omega,hnext (by assumption)⟩,by omega,?_⟩
       rw [hA,hS];simp only [*,Bool.true_and,Bool.false_and,Bool.true_or,Bool.false_or]
       exact StH.back [0,1,4,6,7,10,11,12] 0 0 1 rfl rfl rfl rfl rfl (by kernel_rfl) (StH.same svl rfl))
 . have e:i=l.length:=by omega
   have hall:l.any (fun r=>!r.t)=false:=by
    rw [List.any_eq_false];intro r hr;obtain ⟨j,hj',rfl⟩:=List.getElem_of_mem hr
    have:=hj j (by omega)
    rw [show l.getD j default=l[j] from by simp [hj']] at this;simp [this]
   have e2:R=bif decide (o=14) then truV (l.all (·.i)) else bif decide (o=15) then truV (l.any (·.i)) else truV (!l.all (·.i)):=by rw [<-hR];unfold logV;rw [hall];rfl
   rw [e2,e,List.take_length];generalize l.all (·.i)=A;generalize l.any (·.i)=S;refine hg ?_
   repeat' ((first | refine hfk ?_ ?_<;>intros | refine hik ?_ | with_reducible first | refine wml (wl0 _) ?_ | refine ysj (wl0 _) ?_)<;>refine hgS ?_)
   all_goals refine lfE ?_;first | exact trivial | rfl
theorem StH.yaz {e:List SB} {I:List SV} {J:List SB} {t i:Bool} {n:Int} {r:Rs×Int} (he:J.take e.length=e) (h:(I.all fun x=>(wj3 x).all fun b=>Nat.blt b e.length)=true) (hσ:I=[SV.tup [.agg ((T.rsZ t i).map .dat),.one (.dat (cI n))]]) (hr:r=(⟨t,i,none⟩,n)):StH Γ e I J [rsS r] e:=by
 subst hr;exact StH.trans (StH.vzq he h hσ) (StH.rsZ StH.refl)
theorem vp4 (V:Vq) (T:Vt) (s:ByteArray) (k:Rs) (hT:∀ s t,z2f T s=some t->t.Sm/\tbOk t=true) (hk:qz k.v<=67108864):xpp Γ prog 107 [mQ V,mB T] [.agg [.mp 0,.mp 1],.one (.dat (cS s)),.agg ((rsC k).map .dat)] [mQ V,mB T] (rsS (vi3 T s k)):=by
 cases h:z2f T s with
 | none=>
  have e:vi3 T s k=(⟨false,false,none⟩,11):=by unfold vi3;rw [h];rfl
  rw [e];refine xpp.run [] Go.Proofs.Tryz.func107 rfl rfl ?_;simp only [Go.Proofs.Tryz.f107];refine hgR ?_;refine hg1 @h ?_
  repeat' ((first | refine hfk ?_ ?_<;>intros | refine hik ?_)<;>refine hgS ?_)
  exact StH.yaz rfl (by kernel_rfl) rfl rfl
 | some t=>
  obtain ⟨h1,h2⟩:=hT s t h;have hL:=vud (Γ:=Γ) t k.v hk h1.n h1.u h1.r
  have e:vi3 T s k=bif k.t then (Rs.zero,13) else numV (xwc t k.v).1 (xwc t k.v).2:=by unfold vi3;rw [h]
  rw [e];generalize xwc t k.v=r at hL;obtain ⟨rv,re⟩:=r;simp only at hL;refine xpp.run [] Go.Proofs.Tryz.func107 rfl rfl ?_;simp only [Go.Proofs.Tryz.f107];refine hgR ?_;refine hg1 @h ?_
  repeat' ((first | refine hfk ?_ ?_<;>intros | refine hik ?_ | with_reducible first | refine wml (hL) ?_ | refine ysj (hL) ?_ | refine wml (x7x rv re) ?_ | refine ysj (x7x rv re) ?_)<;>refine hgS ?_)
  . exact StH.yaz rfl (by kernel_rfl) rfl rfl
  . exact StH.vzq rfl (by kernel_rfl) rfl
end Go.Hp.T
