import Derived.Test.YtpkininnjhbeaaaGreatDoorY27
import Derived.Test.YtpkininnjhbeaaaGreatDoorY23
import Derived.Test.YtpkininnjhbeaaaGreatDoorY24
namespace Go.Hp.T
open Go Go.RowKit Go.Slot Go.Hp Go.Slot.T
open Go.Proofs.Tryz (prog)
set_option maxRecDepth 10000
set_option maxHeartbeats 0
variable {Γ:List (Nat×List Cell)}
theorem yjd (a b:Fc) (ha:a.sz<=67108864) (hb:b.sz<=67108864) :
 CallsD Γ prog 151 [.agg a.C,.agg b.C] (.tup [.agg (Fc.sub a b).C,.one (.raw (.int .i64 (Fc.er (a.ok/\b.ok))))]):=by
 by_cases h1:a.ok
 . by_cases h2:b.ok
   . rw [Fc.wop ⟨h1,h2⟩];obtain ⟨x,rfl⟩:=Fc.vy4 h1;obtain ⟨y,rfl⟩:=Fc.vy4 h2;have lx:=szO ha;have ly:=szO hb;have hA:=wza (Γ:=Γ) (Fc.of x) (Fc.of (-y)) ha (by rw [Fc.v82];exact hb);rw [Fc.wop ⟨Fc.xd3 _,Fc.xd3 _⟩,Fc.xac,<-Rat.sub_eq_add_neg] at hA;rw [Fc.zig];refine CallsD.run [] Go.Proofs.Tryz.func151 rfl rfl rfl ?_;simp only [Go.Proofs.Tryz.f151];refine hgR ?_
     first | refine wml (z6t x (by omega)) ?_ | refine ysj (z6t x (by omega)) ?_
     refine hg ?_
     first | refine wml (z6t y (by omega)) ?_ | refine ysj (z6t y (by omega)) ?_
     refine hg ?_
     first | refine wml (zc3 y.num (by unfold okZ;omega)) ?_ | refine ysj (zc3 y.num (by unfold okZ;omega)) ?_
     refine hg ?_
     first | refine wml hA ?_ | refine ysj hA ?_
     refine hg ?_;refine hik ?_;refine hg ?_;exact (.tup (.cons (.refl _) (.cons (.refl _) .nil)))
   . rw [Fc.w7p (fun h=>h2 h.2),show Fc.sub a b=Fc.zero from Fc.zod (fun h=>h2 h.2)];obtain ⟨x,rfl⟩:=Fc.vy4 h1;refine CallsD.run [] Go.Proofs.Tryz.func151 rfl rfl rfl ?_;simp only [Go.Proofs.Tryz.f151];refine hgR ?_
     first | refine wml (z6t x (by omega)) ?_ | refine ysj (z6t x (by omega)) ?_
     refine hg ?_
     first | refine wml (zd1 b (by omega) h2) ?_ | refine ysj (zd1 b (by omega) h2) ?_
     refine hg ?_;exact (.tup (.cons vtk (.cons (.refl _) .nil)))
 . rw [Fc.w7p (fun h=>h1 h.1),show Fc.sub a b=Fc.zero from Fc.zod (fun h=>h1 h.1)];refine CallsD.run [] Go.Proofs.Tryz.func151 rfl rfl rfl ?_;simp only [Go.Proofs.Tryz.f151];refine hgR ?_
   first | refine wml (zd1 a (by omega) h1) ?_ | refine ysj (zd1 a (by omega) h1) ?_
   refine hg ?_;exact (.tup (.cons vtk (.cons (.refl _) .nil)))
theorem zu5 (a b:Fc) (ha:a.sz<=67108864) (hb:b.sz<=67108864) :
 CallsD Γ prog 23 [.agg a.C,.agg b.C] (.tup [.agg (Fc.mul a b).C,.one (.raw (.int .i64 (Fc.er (a.ok/\b.ok))))]):=by
 by_cases h1:a.ok
 . by_cases h2:b.ok
   . rw [Fc.wop ⟨h1,h2⟩];obtain ⟨x,rfl⟩:=Fc.vy4 h1;obtain ⟨y,rfl⟩:=Fc.vy4 h2;have lx:=szO ha;have ly:=szO hb;have l1:=z9n x.num y.num;have l4:=zjf x.den y.den;rw [Fc.x5c,Rat.mul_def'];refine CallsD.run [] Go.Proofs.Tryz.func23 rfl rfl rfl ?_;simp only [Go.Proofs.Tryz.f23];refine hgR ?_
     first | refine wml (z6t x (by omega)) ?_ | refine ysj (z6t x (by omega)) ?_
     refine hg ?_
     first | refine wml (z6t y (by omega)) ?_ | refine ysj (z6t y (by omega)) ?_
     refine hg ?_
     first | refine wml (vhe x.num y.num (by unfold okZ;omega) (by unfold okZ;omega)) ?_ | refine ysj (vhe x.num y.num (by unfold okZ;omega) (by unfold okZ;omega)) ?_
     refine hg ?_
     first | refine wml (zv0 x.den y.den x.den_nz y.den_nz (by omega) (by omega)) ?_ | refine ysj (zv0 x.den y.den x.den_nz y.den_nz (by omega) (by omega)) ?_
     refine hg ?_
     first | refine wml (w2g (x.num*y.num) (x.den*y.den) (by unfold okZ;omega) (Nat.mul_ne_zero x.den_nz y.den_nz) (by omega)) ?_ | refine ysj (w2g (x.num*y.num) (x.den*y.den) (by unfold okZ;omega) (Nat.mul_ne_zero x.den_nz y.den_nz) (by omega)) ?_
     refine hg ?_;refine hik ?_;refine hg ?_;exact (.tup (.cons (.refl _) (.cons (.refl _) .nil)))
   . rw [Fc.w7p (fun h=>h2 h.2),show Fc.mul a b=Fc.zero from Fc.zod (fun h=>h2 h.2)];obtain ⟨x,rfl⟩:=Fc.vy4 h1;refine CallsD.run [] Go.Proofs.Tryz.func23 rfl rfl rfl ?_;simp only [Go.Proofs.Tryz.f23];refine hgR ?_
     first | refine wml (z6t x (by omega)) ?_ | refine ysj (z6t x (by omega)) ?_
     refine hg ?_
     first | refine wml (zd1 b (by omega) h2) ?_ | refine ysj (zd1 b (by omega) h2) ?_
     refine hg ?_;exact (.tup (.cons vtk (.cons (.refl _) .nil)))
 . rw [Fc.w7p (fun h=>h1 h.1),show Fc.mul a b=Fc.zero from Fc.zod (fun h=>h1 h.1)];refine CallsD.run [] Go.Proofs.Tryz.func23 rfl rfl rfl ?_;simp only [Go.Proofs.Tryz.f23];refine hgR ?_
   first | refine wml (zd1 a (by omega) h1) ?_ | refine ysj (zd1 a (by omega) h1) ?_
   refine hg ?_;exact (.tup (.cons vtk (.cons (.refl _) .nil)))
theorem vwg (a b:Fc) (ha:a.sz<=67108864) (hb:b.sz<=67108864) :
 CallsD Γ prog 152 [.agg a.C,.agg b.C] (.one (.raw (.int .i64 (Fc.cmp a b)))):=by
 by_cases h1:a.ok
 . by_cases h2:b.ok
   . obtain ⟨x,rfl⟩:=Fc.vy4 h1;obtain ⟨y,rfl⟩:=Fc.vy4 h2;have lx:=szO ha;have ly:=szO hb;have l1:=z9n x.num y.den;have l2:=z9n y.num x.den;rw [Int.natAbs_natCast] at l1 l2;rw [Fc.w7n,<-Fc.xju];refine CallsD.run [] Go.Proofs.Tryz.func152 rfl rfl rfl ?_;simp only [Go.Proofs.Tryz.f152];refine hgR ?_
     first | refine wml (z6t x (by omega)) ?_ | refine ysj (z6t x (by omega)) ?_
     refine hg ?_
     first | refine wml (z6t y (by omega)) ?_ | refine ysj (z6t y (by omega)) ?_
     refine hg ?_
     first | refine wml (x8b x.num y.den (by unfold okZ;omega) y.den_nz (by omega)) ?_ | refine ysj (x8b x.num y.den (by unfold okZ;omega) y.den_nz (by omega)) ?_
     refine hg ?_
     first | refine wml (x8b y.num x.den (by unfold okZ;omega) x.den_nz (by omega)) ?_ | refine ysj (x8b y.num x.den (by unfold okZ;omega) x.den_nz (by omega)) ?_
     refine hg ?_
     first | refine wml (whm (x.num*y.den) (y.num*x.den) (by unfold okZ;omega) (by unfold okZ;omega)) ?_ | refine ysj (whm (x.num*y.den) (y.num*x.den) (by unfold okZ;omega) (by unfold okZ;omega)) ?_
     refine hg ?_;refine hik ?_;refine hg ?_;exact (.one (.refl _))
   . rw [show Fc.cmp a b=0 from if_neg (fun h=>h2 h.2)];obtain ⟨x,rfl⟩:=Fc.vy4 h1;refine CallsD.run [] Go.Proofs.Tryz.func152 rfl rfl rfl ?_;simp only [Go.Proofs.Tryz.f152];refine hgR ?_
     first | refine wml (z6t x (by omega)) ?_ | refine ysj (z6t x (by omega)) ?_
     refine hg ?_
     first | refine wml (zd1 b (by omega) h2) ?_ | refine ysj (zd1 b (by omega) h2) ?_
     refine hg ?_;exact (.one (.refl _))
 . rw [show Fc.cmp a b=0 from if_neg (fun h=>h1 h.1)];refine CallsD.run [] Go.Proofs.Tryz.func152 rfl rfl rfl ?_;simp only [Go.Proofs.Tryz.f152];refine hgR ?_
   first | refine wml (zd1 a (by omega) h1) ?_ | refine ysj (zd1 a (by omega) h1) ?_
   refine hg ?_;exact (.one (.refl _))
theorem wdj (x:Int) (hx:okZ x):CallsD Γ prog 243 [.agg [.raw (.int .i64 (sg x)),.ints .i64 (dig x.natAbs)]] (.agg [.raw (.int .i64 (sg x)),.ints .i64 (dig x.natAbs)]):=by
 have hx':okZ (-x):=by unfold okZ;rw [Int.natAbs_neg];exact hx
 have h2:=zc3 (Γ:=Γ) (-x) hx';rw [Int.neg_neg] at h2;refine CallsD.run [] Go.Proofs.Tryz.func243 rfl rfl rfl ?_;simp only [Go.Proofs.Tryz.f243];refine hgR ?_
 first | refine wml (zc3 x hx) ?_ | refine ysj (zc3 x hx) ?_
 refine hg ?_
 first | refine wml h2 ?_ | refine ysj h2 ?_
 refine hg ?_;exact (.one (.refl _))
theorem ynl (d:Nat) (hd:d≠0) (hl:(dig d).length<=268435456):CallsD Γ prog 243 [.agg [.raw (.int .i64 1),.ints .i64 (dig d)]] (.agg [.raw (.int .i64 1),.ints .i64 (dig d)]):=by
 have:=wdj (Γ:=Γ) (d:Int) hl
 rw [zy9 hd] at this;exact this
theorem xhi (a:Fc) (ha:a.sz<=67108864):CallsD Γ prog 202 [.agg a.C] (.one (.raw (.int .i64 (Fc.sign a)))):=by
 by_cases h1:a.ok
 . obtain ⟨x,rfl⟩:=Fc.vy4 h1;rw [Fc.w9t];refine CallsD.run [] Go.Proofs.Tryz.func202 rfl rfl rfl ?_;simp only [Go.Proofs.Tryz.f202];refine hgR ?_
   first | refine wml (z6t x (by omega)) ?_ | refine ysj (z6t x (by omega)) ?_
   refine hg ?_;exact (.one (.refl _))
 . rw [show Fc.sign a=0 from if_neg h1];refine CallsD.run [] Go.Proofs.Tryz.func202 rfl rfl rfl ?_;simp only [Go.Proofs.Tryz.f202];refine hgR ?_
   first | refine wml (zd1 a (by omega) h1) ?_ | refine ysj (zd1 a (by omega) h1) ?_
   refine hg ?_;exact (.one (.refl _))
theorem x5s (x y:Rat) (s:Int) (hs:-1<=s/\s<=1) (ha:(Fc.of x).sz<=67108864) (hb:(Fc.of y).sz<=67108864) :
 CallsD Γ prog 213 [.agg (Fc.of x).C,.agg (Fc.of y).C,.one (.raw (.int .i64 s))] (.tup [.agg (Fc.of (if Fc.ordQ x y*s<0 then y else x)).C,.one (.raw (.int .i64 0))]):=by
 have lx:=szO ha;have ly:=szO hb;have hc:=vwg (Γ:=Γ) (Fc.of x) (Fc.of y) ha hb;rw [Fc.w7n] at hc
 have hr:-1<=Fc.ordQ x y*s/\Fc.ordQ x y*s<=1:=by
  rcases Fc.yyv x y with ⟨_,e⟩ | ⟨_,e⟩ | ⟨_,e⟩<;>rw [e]<;>omega
 refine CallsD.run [] Go.Proofs.Tryz.func213 rfl rfl rfl ?_;simp only [Go.Proofs.Tryz.f213];refine hgR ?_
 first | refine wml (z6t x (by omega)) ?_ | refine ysj (z6t x (by omega)) ?_
 refine hg ?_
 first | refine wml (z6t y (by omega)) ?_ | refine ysj (z6t y (by omega)) ?_
 refine hg ?_
 first | refine wml hc ?_ | refine ysj hc ?_
 refine hg ?_;refine vt2 (fun h _=>?_) (fun h _=>?_)
 . rw [if_pos h];refine hg ?_
   first | refine wml (wdj y.num (by unfold okZ;omega)) ?_ | refine ysj (wdj y.num (by unfold okZ;omega)) ?_
   refine hg ?_
   first | refine wml (ynl y.den y.den_nz (by omega)) ?_ | refine ysj (ynl y.den y.den_nz (by omega)) ?_
   refine hg ?_;refine hik ?_;refine hg ?_;exact (.tup (.cons (.refl _) (.cons (.refl _) .nil)))
 . rw [if_neg h];refine hg ?_
   first | refine wml (wdj x.num (by unfold okZ;omega)) ?_ | refine ysj (wdj x.num (by unfold okZ;omega)) ?_
   refine hg ?_
   first | refine wml (ynl x.den x.den_nz (by omega)) ?_ | refine ysj (ynl x.den x.den_nz (by omega)) ?_
   refine hg ?_;refine hik ?_;refine hg ?_;exact (.tup (.cons (.refl _) (.cons (.refl _) .nil)))
theorem x59 (a b:Fc) (s:Int) (h:¬(a.ok/\b.ok)) (ha:a.sz<=67108864) (hb:b.sz<=67108864) :
 CallsD Γ prog 213 [.agg a.C,.agg b.C,.one (.raw (.int .i64 s))] (.tup [.agg Fc.zero.C,.one (.raw (.int .i64 1))]):=by
 by_cases h1:a.ok
 . have h2:¬b.ok:=fun h2=>h ⟨h1,h2⟩
   obtain ⟨x,rfl⟩:=Fc.vy4 h1;refine CallsD.run [] Go.Proofs.Tryz.func213 rfl rfl rfl ?_;simp only [Go.Proofs.Tryz.f213];refine hgR ?_
   first | refine wml (z6t x (by omega)) ?_ | refine ysj (z6t x (by omega)) ?_
   refine hg ?_
   first | refine wml (zd1 b (by omega) h2) ?_ | refine ysj (zd1 b (by omega) h2) ?_
   refine hg ?_;exact (.tup (.cons vtk (.cons (.refl _) .nil)))
 . refine CallsD.run [] Go.Proofs.Tryz.func213 rfl rfl rfl ?_;simp only [Go.Proofs.Tryz.f213];refine hgR ?_
   first | refine wml (zd1 a (by omega) h1) ?_ | refine ysj (zd1 a (by omega) h1) ?_
   refine hg ?_;exact (.tup (.cons vtk (.cons (.refl _) .nil)))
theorem z9y (a b:Fc) (ha:a.sz<=67108864) (hb:b.sz<=67108864) :
 CallsD Γ prog 163 [.agg a.C,.agg b.C] (.tup [.agg (Fc.maxf a b).C,.one (.raw (.int .i64 (Fc.er (a.ok/\b.ok))))]):=by
 by_cases h:a.ok/\b.ok
 . rw [Fc.wop h];obtain ⟨x,rfl⟩:=Fc.vy4 h.1;obtain ⟨y,rfl⟩:=Fc.vy4 h.2;have hE:=x5s (Γ:=Γ) x y 1 (by decide) ha hb
   have e:(if Fc.ordQ x y*1<0 then y else x)=max x y:=by
    rw [Rat.max_def]
    rcases Fc.yyv x y with ⟨h,e⟩ | ⟨h,e⟩ | ⟨h,e⟩<;>rw [e]
    . rw [if_pos (by decide),if_pos (Rat.le_of_lt h)]
    . rw [if_neg (by decide),if_pos (by rw [h];exact Rat.le_refl),h]
    . rw [if_neg (by decide),if_neg (fun h'=>Rat.not_le.2 h h')]
   rw [e] at hE;rw [Fc.wij];refine CallsD.run [] Go.Proofs.Tryz.func163 rfl rfl rfl ?_;simp only [Go.Proofs.Tryz.f163];refine hgR ?_
   first | refine wml hE ?_ | refine ysj hE ?_
   refine hg ?_;exact (.tup (.cons (.refl _) (.cons (.refl _) .nil)))
 . rw [Fc.w7p h,show Fc.maxf a b=Fc.zero from Fc.zod h];have hE:=x59 (Γ:=Γ) a b 1 h ha hb;refine CallsD.run [] Go.Proofs.Tryz.func163 rfl rfl rfl ?_;simp only [Go.Proofs.Tryz.f163];refine hgR ?_
   first | refine wml hE ?_ | refine ysj hE ?_
   refine hg ?_;exact (.tup (.cons (.refl _) (.cons (.refl _) .nil)))
theorem xb9 (a b:Fc) (ha:a.sz<=67108864) (hb:b.sz<=67108864):CallsD Γ prog 22 [.agg a.C,.agg b.C] (.one (.raw (.bool (decide (a=b))))):=by
 have la:=szL ha;have lb:=szL hb;obtain ⟨r,hr⟩:∃ r,r=decide (a=b):=⟨_,rfl⟩;rw [<-hr];by_cases h:a.s=b.s/\a.L=b.L
 . have h1:=ve7 (Γ:=Γ) a.s a.L b.s b.L (by omega) (by omega);rw [decide_eq_true h] at h1;have h2:=ve7 (Γ:=Γ) a.t a.M b.t b.M (by omega) (by omega)
   have e:decide (a.t=b.t/\a.M=b.M)=r:=by
    rw [hr];apply decide_eq_decide.2;constructor
    . intro h';cases a;cases b;simp at h h';simp [h,h']
    . intro h';rw [h'];exact ⟨rfl,rfl⟩
   rw [e] at h2;refine CallsD.run [] Go.Proofs.Tryz.func22 rfl rfl rfl ?_;simp only [Go.Proofs.Tryz.f22];refine hgR ?_
   first | refine wml h1 ?_ | refine ysj h1 ?_
   refine hg ?_
   first | refine wml h2 ?_ | refine ysj h2 ?_
   refine hg ?_;exact (.one (.refl _))
 . have h1:=ve7 (Γ:=Γ) a.s a.L b.s b.L (by omega) (by omega);rw [decide_eq_false h] at h1
   have e:r=false:=by rw [hr,decide_eq_false (fun e=>h (by rw [e];exact ⟨rfl,rfl⟩))]
   subst e;refine CallsD.run [] Go.Proofs.Tryz.func22 rfl rfl rfl ?_;simp only [Go.Proofs.Tryz.f22];refine hgR ?_
   first | refine wml h1 ?_ | refine ysj h1 ?_
   refine hg ?_;exact (.one (.refl _))
theorem wma (n:Int) (hn:inI n):CallsD Γ prog 12 [.one (.raw (.int .i64 n))] (.agg (Fc.of (n:Rat)).C):=by
 have h1:=cOfZ (Γ:=Γ) 1 (by decide);rw [show sg 1=1 from rfl] at h1;refine CallsD.run [] Go.Proofs.Tryz.func12 rfl rfl rfl ?_;simp only [Go.Proofs.Tryz.f12];refine hgR ?_
 first | refine wml (cOfZ n hn) ?_ | refine ysj (cOfZ n hn) ?_
 refine hg ?_
 first | refine wml h1 ?_ | refine ysj h1 ?_
 refine hg ?_;exact (.one (.refl _))
end Go.Hp.T
namespace Go.Slot
open Go Go.RowKit Go.Slot.T
variable {i:Nat}
structure Sc where
 low:Fc
 high:Fc
namespace Sc
def C (s:Sc):List Cell:=[.raw (.int .i64 s.low.s),.ints .i64 s.low.L,.raw (.int .i64 s.low.t),.ints .i64 s.low.M,.raw (.int .i64 s.high.s),.ints .i64 s.high.L,.raw (.int .i64 s.high.t),.ints .i64 s.high.M]
theorem C_eq {s:Sc}:s.C=[.raw (.int .i64 s.low.s),.ints .i64 s.low.L,.raw (.int .i64 s.low.t),.ints .i64 s.low.M,.raw (.int .i64 s.high.s),.ints .i64 s.high.L,.raw (.int .i64 s.high.t),.ints .i64 s.high.M]:=_root_.id rfl
def ok (s:Sc):Prop:=s.low.ok/\s.high.ok/\Fc.cmp s.low s.high<=0
instance (s:Sc):Decidable s.ok:=inferInstanceAs (Decidable (_/\_))
def zero:Sc:=⟨Fc.zero,Fc.zero⟩
def sz (s:Sc):Nat:=max s.low.sz s.high.sz
instance:DecidableEq Sc:=fun a b=>decidable_of_iff (a.low=b.low/\a.high=b.high) ⟨fun h=>by cases a;cases b;simp at h;simp [h],fun h=>by rw [h];exact ⟨rfl,rfl⟩⟩
def has (s:Sc) (f:Fc):Prop:=s.ok/\f.ok/\Fc.cmp s.low f<=0/\Fc.cmp f s.high<=0
instance (s:Sc) (f:Fc):Decidable (s.has f):=inferInstanceAs (Decidable (_/\_))
def inside (a b:Sc):Prop:=a.ok/\b.ok/\Fc.cmp b.low a.low<=0/\Fc.cmp a.high b.high<=0
instance (a b:Sc):Decidable (a.inside b):=inferInstanceAs (Decidable (_/\_))
def add (a b:Sc):Sc:=if a.ok/\b.ok then ⟨Fc.add a.low b.low,Fc.add a.high b.high⟩ else zero
end Sc
theorem rowF {l:List Fc} (h:i<l.length):(l.map Fc.C).getD i []=(l.getD i Fc.zero).C:=by
 simp [h]
attribute [go_sem] Sc.C_eq rowF
def idxF {α:Type} (p:α->Bool):List α->Int->Int
 | [],_=>-1
 | f::r,i=>if p f=true then i else idxF p r (i+1)
theorem z9z {α:Type} (p:α->Bool):∀(l:List α) (i:Int),0<=i->decide (0<=idxF p l i)=l.any p
 | [],i,_=>by simp [idxF]
 | f::r,i,h=>by
  unfold idxF;by_cases hp:p f=true
  . rw [if_pos hp,List.any_cons,hp,decide_eq_true h];rfl
  . have hp':p f=false:=by simpa using hp
    rw [if_neg hp,z9z p r (i+1) (by omega),List.any_cons,hp',Bool.false_or]
theorem drop_cons {α:Type} {l:List α} (d:α) (h:i<l.length):l.drop i=l.getD i d::l.drop (i+1):=by
 rw [List.drop_eq_getElem_cons h];simp [h]
end Go.Slot
namespace Go.Hp.T
open Go Go.RowKit Go.Slot Go.Hp Go.Slot.T
open Go.Proofs.Tryz (prog)
set_option maxRecDepth 10000
set_option maxHeartbeats 0
variable {Γ:List (Nat×List Cell)}
theorem znq (f:Fc) (h:f.sz<=268435456) (hb:f.ok):CallsD Γ prog 19 [.agg f.C] (.one (.raw (.bool true))):=by
 have:=yg0 (Γ:=Γ) f h
 rwa [decide_eq_true hb] at this
theorem z0s (g:FuncId) (p:Fc->Bool) (l:List Fc) (hl:l.length<=1099511627776) (hgg:∀ i,i<l.length->CallsD Γ prog g [.agg (l.getD i Fc.zero).C] (.one (.raw (.bool (p (l.getD i Fc.zero)))))) :
 CallsD Γ prog 90 [.one (.sl 4 (l.map Fc.C)),.one (.raw (.func (.func g) #[] #[]))] (.one (.raw (.int .i64 (idxF p l 0)))):=by
 refine CallsD.run [] Go.Proofs.Tryz.func90 rfl rfl rfl ?_;simp only [Go.Proofs.Tryz.f90];refine hgR ?_;refine x20 [0,1,7] (fun i:Nat=>[(8,.one (.dat (cI (i))))]) (fun _=>[]) (fun i=>i<=l.length/\idxF p l 0=idxF p (l.drop i) i) (fun i=>l.length-i) 0 ⟨Nat.zero_le _,rfl⟩ ?_ ?_
 . refine hg ?_;exact StH.same svl rfl
 rintro i ⟨hi,he⟩;refine hg ?_;refine vt2 (fun h _=>?_) (fun h _=>?_)
 . have hd:=drop_cons (l:=l) Fc.zero (show i<l.length by omega);rw [hd] at he;refine hg ?_
   first | refine wml (hgg i (by omega)) ?_ | refine ysj (hgg i (by omega)) ?_
   refine hg ?_;refine zub (fun h1=>?_) (fun h1=>?_)
   . refine hg ?_;rw [he];unfold idxF;rw [if_pos h1];exact .one (.refl _)
   . refine hg ?_;refine ⟨i+1,⟨by omega,?_⟩,by omega,StH.same svl rfl⟩;rw [he]
     conv=>lhs;unfold idxF
     rw [if_neg (show ¬p (l.getD i Fc.zero)=true by rw [h1];decide)];rfl
 . have hi':i=l.length:=by omega
   rw [hi',List.drop_length] at he;refine hg ?_;exact (by rw [he];exact .one (.refl _))
theorem xmy (g:FuncId) (p:Fc->Bool) (l:List Fc) (hl:l.length<=1099511627776) (hgg:∀ i,i<l.length->CallsD Γ prog g [.agg (l.getD i Fc.zero).C] (.one (.raw (.bool (p (l.getD i Fc.zero)))))) :
 CallsD Γ prog 48 [.one (.sl 4 (l.map Fc.C)),.one (.raw (.func (.func g) #[] #[]))] (.one (.raw (.bool (l.any p)))):=by
 rw [<-z9z p l 0 (by decide)];refine CallsD.run [] Go.Proofs.Tryz.func48 rfl rfl rfl ?_;simp only [Go.Proofs.Tryz.f48];refine hgR ?_
 first | refine wml (z0s g p l hl hgg) ?_ | refine ysj (z0s g p l hl hgg) ?_
 refine hg ?_;exact (.one (.refl _))
end Go.Hp.T
namespace Go.Slot
open Go Go.RowKit Go.Slot.T
structure Af where
 c:Fc
 l:List Fc
def oks (l:List Fc):Prop:=∀ f∈l,f.ok
instance (l:List Fc):Decidable (oks l):=inferInstanceAs (Decidable (∀ f∈l,f.ok))
theorem y4q {f:Fc} {l:List Fc}:oks (f::l)↔f.ok/\oks l:=⟨fun h=>⟨h f (by simp),fun g hg=>h g (by simp [hg])⟩,fun h g hg=>by
 rcases List.mem_cons.1 hg with rfl | hg
 . exact h.1
 . exact h.2 g hg⟩
theorem zbr:∀(l:List Fc),(l.any fun f=>!decide f.ok) = !decide (oks l)
 | []=>by simp [oks]
 | f::l=>by
  rw [List.any_cons,zbr l,decide_eq_decide.2 y4q,Bool.decide_and,Bool.not_and]
namespace Af
def C (a:Af):List Cell:=[.raw (.int .i64 a.c.s),.ints .i64 a.c.L,.raw (.int .i64 a.c.t),.ints .i64 a.c.M,.sl 4 (a.l.map Fc.C)]
theorem C_eq {a:Af}:a.C=[.raw (.int .i64 a.c.s),.ints .i64 a.c.L,.raw (.int .i64 a.c.t),.ints .i64 a.c.M,.sl 4 (a.l.map Fc.C)]:=_root_.id rfl
def ok (a:Af) (n:Nat):Prop:=a.l.length=n/\a.c.ok/\oks a.l
instance (a:Af) (n:Nat):Decidable (a.ok n):=inferInstanceAs (Decidable (_/\_))
def zero:Af:=⟨Fc.zero,[]⟩
def le (a:Af) (n:Nat):Prop:=a.c.sz<=n/\∀ f∈a.l,f.sz<=n
def sum:Fc->List Fc->List Fc->Fc
 | s,c::cs,v::vs=>sum (Fc.add s (Fc.mul c v)) cs vs
 | s,_,_=>s
def copy (f:Fc):Fc:=Fc.add f (Fc.of 0)
def at' (a:Af) (v:List Fc):Fc:=if a.ok v.length/\oks v then sum (copy a.c) a.l v else Fc.zero
def each (op:Fc->Fc->Fc) (a b:Af):Af:=⟨op a.c b.c,List.zipWith op a.l b.l⟩
def times (a:Af) (f:Fc):Af:=if a.ok a.l.length/\f.ok then each (fun x _=>Fc.mul x f) a a else zero
end Af
attribute [go_sem] Af.C_eq
end Go.Slot
namespace Go.Hp.T
open Go Go.RowKit Go.Slot Go.Hp Go.Slot.T
open Go.Proofs.Tryz (prog)
set_option maxRecDepth 10000
set_option maxHeartbeats 0
variable {Γ:List (Nat×List Cell)}
theorem xam (f:Fc) (h:f.sz<=67108864):CallsD Γ prog 43 [.agg f.C] (.one (.raw (.bool (!decide f.ok)))):=by
 refine CallsD.run [] Go.Proofs.Tryz.func43 rfl rfl rfl ?_;simp only [Go.Proofs.Tryz.f43];refine hgR ?_
 first | refine wml (yg0 f (by omega)) ?_ | refine ysj (yg0 f (by omega)) ?_
 refine hg ?_;exact (.one (.refl _))
theorem zmm {l:List Fc} {n:Nat} (h:∀ f∈l,f.sz<=n) {i:Nat} (hi:i<l.length):(l.getD i Fc.zero).sz<=n:=h _ (by simp [hi])
theorem z6u (l:List Fc) (hl:l.length<=1048576) (hs:∀ f∈l,f.sz<=67108864) :
 CallsD Γ prog 48 [.one (.sl 4 (l.map Fc.C)),.one (.raw (.func (.func 43) #[] #[]))] (.one (.raw (.bool (!decide (oks l))))):=by
 have:=xmy (Γ:=Γ) 43 (fun f=>!decide f.ok) l (by omega) (fun i hi=>xam _ (zmm hs hi))
 rwa [zbr] at this
theorem x52 (a:Af) (n:Int) (hl:a.l.length<=1048576) (hs:a.le 67108864) :
 CallsD Γ prog 18 [.agg a.C,.one (.raw (.int .i64 n))] (.one (.raw (.bool (decide ((a.l.length:Int)=n/\a.c.ok/\oks a.l))))):=by
 obtain ⟨r,hr⟩:∃ r,r=decide ((a.l.length:Int)=n/\a.c.ok/\oks a.l):=⟨_,rfl⟩;rw [<-hr];have hw:=z6u (Γ:=Γ) a.l hl hs.2;by_cases h2:a.c.ok
 . refine CallsD.run [] Go.Proofs.Tryz.func18 rfl rfl rfl ?_;simp only [Go.Proofs.Tryz.f18];refine hgR ?_;refine ywj (fun h1 _=>?_) (fun h1 _=>?_)
   . have h1':=decide_eq_true h1;refine hg1 @h1' ?_
     first | refine wml (znq a.c (by have:=hs.1;omega) h2) ?_ | refine ysj (znq a.c (by have:=hs.1;omega) h2) ?_
     refine hg ?_
     first | refine wml hw ?_ | refine ysj hw ?_
     conv=>simp (maxSteps:=2000000) (disch:=omega) only [go_sem,Nat.reduceAdd,Nat.reduceSub,Nat.reduceMul,Int.reduceToNat,Nat.reduceEqDiff,Nat.reduceBEq,Nat.reduceBneDiff,Nat.reduceLT,Int.reduceEq,Int.reduceLT,Int.reduceLE,Int.reduceNeg,Int.reduceAdd,Int.reduceSub,Int.reduceMul,Bool.not_not]
     have e:decide (oks a.l)=r:=by rw [hr];exact decide_eq_decide.2 ⟨fun h=>⟨h1,h2,h⟩,fun h=>h.2.2⟩
     exact (by rw [show decide (¬¬oks a.l)=r by rw [<-e];exact decide_eq_decide.2 Decidable.not_not];exact .one (.refl _))
   . have h1':=decide_eq_false h1;refine hg1 @h1' ?_;exact (by rw [hr,decide_eq_false (fun h=>h1 h.1)];exact .one (.refl _))
 . rw [hr,decide_eq_false (fun h=>h2 h.2.1)];refine CallsD.run [] Go.Proofs.Tryz.func18 rfl rfl rfl ?_;simp only [Go.Proofs.Tryz.f18];refine hgR ?_;refine ywj (fun h1 _=>?_) (fun h1 _=>?_)
   . have h1':=decide_eq_true h1;refine hg1 @h1' ?_
     first | refine wml (zd1 a.c (by have:=hs.1;omega) h2) ?_ | refine ysj (zd1 a.c (by have:=hs.1;omega) h2) ?_
     refine hg ?_;exact (.one (.refl _))
   . have h1':=decide_eq_false h1;refine hg1 @h1' ?_;exact (.one (.refl _))
theorem v1n (a:Af) (n:Nat) (hl:a.l.length<=1048576) (hs:a.le 67108864) :
 CallsD Γ prog 18 [.agg a.C,.one (.raw (.int .i64 n))] (.one (.raw (.bool (decide (a.ok n))))):=by
 have:=x52 (Γ:=Γ) a n hl hs
 rwa [show decide ((a.l.length:Int)=n/\a.c.ok/\oks a.l)=decide (a.ok n) from decide_eq_decide.2 ⟨fun h=>⟨by have:=h.1;omega,h.2⟩,fun h=>⟨by have:=h.1;omega,h.2⟩⟩] at this
theorem yp0:(Fc.of 0).sz<=1:=by
 show max (dig (0:Int).natAbs).length (dig 1).length<=1;rw [show (0:Int).natAbs=0 from rfl,y89,xxw (by decide),y89];decide
theorem vrk (f:Fc) (h:f.sz<=67108864):CallsD Γ prog 52 [.agg f.C] (.agg (Af.copy f).C):=by
 have hz:=yp0;have hA:=wza (Γ:=Γ) f (Fc.of 0) h (by omega);refine CallsD.run [] Go.Proofs.Tryz.func52 rfl rfl rfl ?_;simp only [Go.Proofs.Tryz.f52];refine hgR ?_
 first | refine wml (wma 0 (by decide)) ?_ | refine ysj (wma 0 (by decide)) ?_
 refine hg ?_
 first | refine wml hA ?_ | refine ysj hA ?_
 refine hg ?_;refine hik ?_;refine hg ?_;exact (.one (.refl _))
theorem w9x (f:Fc):(Af.copy f).sz<=f.sz+2:=by
 have:=Fc.wiv f (Fc.of 0)
 have:=yp0
 unfold Af.copy;omega
theorem vjl {B:Nat}:∀(l v:List Fc) (s:Fc),(∀ f∈l,f.sz<=B)->(∀ f∈v,f.sz<=B)->(Af.sum s l v).sz<=s.sz+l.length*(2*B+1)
 | [],v,s,_,_=>by cases v<;>simp [Af.sum]
 | c::cs,[],s,_,_=>by simp [Af.sum]
 | c::cs,x::vs,s,hl,hv=>by
  have h:=vjl cs vs (Fc.add s (Fc.mul c x)) (fun f hf=>hl f (by simp [hf])) (fun f hf=>hv f (by simp [hf]));have h1:=Fc.wiv s (Fc.mul c x);have h2:=Fc.z5x c x;have h3:=hl c (by simp);have h4:=hv x (by simp);simp only [Af.sum,List.length_cons];rw [Nat.add_mul,Nat.one_mul];omega
theorem cAt (a:Af) (v:List Fc) {B:Nat} (hl:a.l.length<=1048576) (hv:v.length<=1048576) (hs:a.le B) (hsv:∀ f∈v,f.sz<=B) (hB:B+2+v.length*(2*B+1)<=67108864) :
 CallsD Γ prog 20 [.agg a.C,.one (.sl 4 (v.map Fc.C))] (.tup [.agg (a.at' v).C,.one (.raw (.bool (decide (a.ok v.length/\oks v))))]):=by
 obtain ⟨D,hD⟩:∃ D,D=2*B+1:=⟨_,rfl⟩;rw [<-hD] at hB;have hs':a.le 67108864:=⟨by have:=hs.1;omega,fun f hf=>by have:=hs.2 f hf;omega⟩
 have hsv':∀ f∈v,f.sz<=67108864:=fun f hf=>by have:=hsv f hf;omega
 have hr:=v1n (Γ:=Γ) a v.length (by omega) hs';have hw:=z6u (Γ:=Γ) v (by omega) hsv';by_cases h1:a.ok v.length
 . rw [decide_eq_true h1] at hr;by_cases h2:oks v
   . rw [decide_eq_true h2] at hw;rw [decide_eq_true ⟨h1,h2⟩,show a.at' v=Af.sum (Af.copy a.c) a.l v from if_pos ⟨h1,h2⟩];have hlen:=h1.1;refine CallsD.run [] Go.Proofs.Tryz.func20 rfl rfl rfl ?_;simp only [Go.Proofs.Tryz.f20];refine hgR ?_
     first | refine wml hr ?_ | refine ysj hr ?_
     refine hg ?_
     first | refine wml hw ?_ | refine ysj hw ?_
     refine hg ?_
     first | refine wml (vrk a.c hs'.1) ?_ | refine ysj (vrk a.c hs'.1) ?_
     refine hg ?_;have hcs:=w9x a.c;have hc1:=hs.1;refine x20 [2,4,6,24,25] (fun x:Nat×Fc=>[(26,.one (.dat (cI (x.1))))]) (fun x=>[.box (a.C.map .dat) (some 36),.box [.dat (cI 0),.dat .zc,.dat (cI 0),.dat .zc] (some 33),.box (x.2.C.map .dat) (some 33)])
      (fun x=>x.1<=v.length/\x.2.sz<=B+2+x.1*D/\Af.sum (Af.copy a.c) a.l v=Af.sum x.2 (a.l.drop x.1) (v.drop x.1)) (fun x=>v.length-x.1) (0,Af.copy a.c) ⟨Nat.zero_le _,by dsimp only;omega,rfl⟩ ?_ ?_
     . refine hg ?_;exact StH.same svl rfl
     rintro ⟨i,s⟩ ⟨hi,hss,he⟩;simp only at hi hss he;refine hg ?_;refine vt2 (fun h _=>?_) (fun h _=>?_)
     . have hi1:i<v.length:=by omega
       have hi2:i<a.l.length:=by omega
       have hb1:=zmm hs.2 hi2;have hb2:=zmm hsv hi1;rw [drop_cons Fc.zero hi2,drop_cons Fc.zero hi1] at he;have hm:=Fc.z5x (a.l.getD i Fc.zero) (v.getD i Fc.zero);have ha:=Fc.wiv s (Fc.mul (a.l.getD i Fc.zero) (v.getD i Fc.zero));have hi3:(i+1)*D<=v.length*D:=Nat.mul_le_mul_right _ (by omega);have hi4:(i+1)*D=i*D+D:=Nat.succ_mul i D;refine hg ?_
       first | refine wml (zu5 (a.l.getD i Fc.zero) (v.getD i Fc.zero) (by omega) (by omega)) ?_ | refine ysj (zu5 (a.l.getD i Fc.zero) (v.getD i Fc.zero) (by omega) (by omega)) ?_
       refine hg ?_;refine hik ?_;refine hg ?_
       first | refine wml (wza s (Fc.mul (a.l.getD i Fc.zero) (v.getD i Fc.zero)) (by omega) (by omega)) ?_ | refine ysj (wza s (Fc.mul (a.l.getD i Fc.zero) (v.getD i Fc.zero)) (by omega) (by omega)) ?_
       refine hg ?_;exact ⟨(i+1,Fc.add s (Fc.mul (a.l.getD i Fc.zero) (v.getD i Fc.zero))),⟨by dsimp only;omega,by dsimp only;omega,he⟩,by dsimp only;omega,StH.back [2,4,6,24,25,26] 0 0 3 rfl rfl rfl rfl rfl (by kernel_rfl) (StH.same svl rfl)⟩
     . have hi':i=v.length:=by omega
       rw [hi',List.drop_length] at he
       have he:Af.sum (Af.copy a.c) a.l v=s:=by rw [he];cases List.drop v.length a.l<;>rfl
       refine hg ?_;exact (by rw [he];exact .tup (.cons (.refl _) (.cons (.refl _) .nil)))
   . rw [decide_eq_false h2] at hw;rw [decide_eq_false (fun h=>h2 h.2),show a.at' v=Fc.zero from if_neg (fun h=>h2 h.2)];refine CallsD.run [] Go.Proofs.Tryz.func20 rfl rfl rfl ?_;simp only [Go.Proofs.Tryz.f20];refine hgR ?_
     first | refine wml hr ?_ | refine ysj hr ?_
     refine hg ?_
     first | refine wml hw ?_ | refine ysj hw ?_
     refine hg ?_;exact (.tup (.cons vtk (.cons (.refl _) .nil)))
 . rw [decide_eq_false h1] at hr;rw [decide_eq_false (fun h=>h1 h.1),show a.at' v=Fc.zero from if_neg (fun h=>h1 h.1)];refine CallsD.run [] Go.Proofs.Tryz.func20 rfl rfl rfl ?_;simp only [Go.Proofs.Tryz.f20];refine hgR ?_
   first | refine wml hr ?_ | refine ysj hr ?_
   refine hg ?_;exact (.tup (.cons vtk (.cons (.refl _) .nil)))
end Go.Hp.T
namespace Go.Hp
open Go Go.RowKit Go.Slot
variable {P:Program} {Γ:List (Nat×List Cell)} {e:List SB}
variable {l sl I':List SV} {J:List SB} {avs:List AV} {bs:List Nat} {x y:SV} {av:AV}
theorem StH.frzT (h:zfb J l=some (avs,bs)) (hs:vug avs=some sl):StH Γ e [.tup l] J [.tup sl] (appL (frzE J bs) J):=fun E ρ a w _ hR=>by
 obtain ⟨h1,h2⟩:=hR.frz (yig h);refine ⟨ρ,h1.hd,h1.hs,fun i x hi=>?_,h1.went⟩
 cases i with
 | zero=>
  simp only [List.getElem?_cons_zero,Option.some.injEq] at hi;subst hi;obtain ⟨vs,hv,hr⟩:=h1.slot 0 (.tup l) rfl;exact ⟨vs,hv,yzo hs (zlh h1.inv h h2 hr)⟩
 | succ i=>simp at hi
theorem StH.frzA {x y:SV} {J:List SB} {av:AV} {bs:List Nat} (h:zfb J [x]=some ([av],bs)) (hs:vug [av]=some [y]) (hx:∀ l,x≠.tup l) (hy:∀ l,y≠.tup l):StH Γ e [x] J [y] (appL (frzE J bs) J):=fun E ρ a w _ hR=>by
 obtain ⟨h1,h2⟩:=hR.frz (yig h);refine ⟨ρ,h1.hd,h1.hs,fun i z hi=>?_,h1.went⟩
 cases i with
 | zero=>
  simp only [List.getElem?_cons_zero,Option.some.injEq] at hi;subst hi;have hr:=h1.slot 0 x rfl
  have hr:SRL _ ρ _ w [a.tmps.getD 0 Go.undef] [x]:=⟨by
   cases x with
   | tup l=>exact absurd rfl (hx l)
   | _=>exact hr,trivial⟩
  have h3:=(yzo (J:=appL (frzE J bs) J) (ρ:=ρ) hs (zlh h1.inv h h2 hr)).1
  cases y with
  | tup l=>exact absurd rfl (hy l)
  | _=>exact h3
 | succ i=>simp at hi
theorem StH.agg1 {l l':List HC} (h:SVle (.agg l) (.agg l')):StH Γ e [.agg l] J [.agg l'] J:=StH.same (.cons h .nil) rfl
theorem StH.v0g (h:zfb J l=some (avs,bs)) (hs:vug avs=some sl) (he:(appL (frzE J bs) J).take e.length=e) (hb:([SV.tup sl].all fun x=>(wj3 x).all fun b=>Nat.blt b e.length)=true) (hσ:[SV.tup sl]=I'):StH Γ e [.tup l] J I' e:=
 StH.trans (StH.frzT h hs) (StH.vzq he hb hσ)
theorem StH.yww (h:zfb J [x]=some ([av],bs)) (hs:vug [av]=some [y]) (hx:∀ l,x≠.tup l) (hy:∀ l,y≠.tup l) (he:(appL (frzE J bs) J).take e.length=e) (hb:([y].all fun x=>(wj3 x).all fun b=>Nat.blt b e.length)=true) (hσ:[y]=I'):StH Γ e [x] J I' e:=
 StH.trans (StH.frzA h hs hx hy) (StH.vzq he hb hσ)
end Go.Hp
namespace Go.Hp.T
open Go Go.RowKit Go.Slot Go.Hp
set_option maxRecDepth 10000
variable {α:Type} {i:Nat}
inductive Ex where
 | mk (op n:Int) (unit name:ByteArray) (args:List Ex)
def Ex.op:Ex->Int | .mk o _ _ _ _=>o
def Ex.n:Ex->Int | .mk _ n _ _ _=>n
def Ex.unit:Ex->ByteArray | .mk _ _ u _ _=>u
def Ex.name:Ex->ByteArray | .mk _ _ _ s _=>s
def Ex.args:Ex->List Ex | .mk _ _ _ _ l=>l
def Ex.zero:Ex:=.mk 0 0 ⟨#[]⟩ ⟨#[]⟩ []
instance:Inhabited Ex:=⟨Ex.zero⟩
theorem Ex.ind {Q:Ex->Prop} (h:∀ x:Ex,(∀ y∈x.args,Q y)->Q x):∀ x,Q x
 | .mk o n u s l=>h _ (fun y _hy=>Ex.ind h y)
termination_by x=>SizeOf.sizeOf x
decreasing_by
 have:=List.sizeOf_lt_of_mem (show y∈l from _hy)
 simp only [Ex.mk.sizeOf_spec];omega
mutual
def Ex.cells:Ex->List Cell
 | .mk o n u s l=>[cI o,cI n,cS u,cS s,.sl 5 (Ex.y0z l)]
def Ex.y0z:List Ex->List (List Cell)
 | []=>[]
 | x::l=>Ex.cells x::Ex.y0z l
end
theorem Ex.vgx:∀ l:List Ex,Ex.y0z l=l.map Ex.cells
 | []=>by rw [Ex.y0z];rfl
 | x::l=>by rw [Ex.y0z,Ex.vgx l];rfl
abbrev exC (x:Ex):List Cell:=[cI x.op,cI x.n,cS x.unit,cS x.name,.sl 5 (x.args.map Ex.cells)]
theorem Ex.wbs (x:Ex):Ex.cells x=exC x:=by
 cases x with
 | mk o n u s l=>rw [Ex.cells,Ex.vgx];rfl
theorem getD_map' {α β:Type} [Inhabited α] (f:α->β) (d:β):∀(l:List α) (i:Nat),i<l.length->(l.map f).getD i d=f (l.getD i default)
 | [],_,h=>by simp at h
 | _::_,0,_=>rfl
 | _::l,i+1,h=>by simpa using getD_map' f d l i (by simpa using h)
theorem getD_map {β:Type} [Inhabited α] {f:α->β} {d:β} {l:List α} (h:i<l.length):(l.map f).getD i d=f (l.getD i default):=getD_map' f d l i h
attribute [go_sem] getD_map Ex.wbs
theorem y7p [Inhabited α] {l:List α} (h:i<l.length):l.getD i default∈l:=by
 have:l.getD i default=l[i]:=by simp [h]
 rw [this];exact List.getElem_mem h
theorem xfc [Inhabited α] {l:List α} (h:i<l.length):l.drop i=l.getD i default::l.drop (i+1):=by
 have:l.getD i default=l[i]:=by simp [h]
 rw [this];exact List.drop_eq_getElem_cons h
theorem wcz [Inhabited α] {l:List α} (h:i<l.length):l.take (i+1)=l.take i++[l.getD i default]:=by
 have:l.getD i default=l[i]:=by simp [h]
 rw [this,List.take_add_one];simp [h]
inductive Ex.Sm:Ex->Prop
 | mk (x:Ex) (hl:x.args.length<=1073741824) (hu:x.unit.size<=1073741824) (hs:x.name.size<=1073741824) (h:∀ y∈x.args,Ex.Sm y):Ex.Sm x
theorem Ex.Sm.len {x:Ex} (h:x.Sm):x.args.length<=1073741824:=by cases h;assumption
theorem Ex.Sm.u {x:Ex} (h:x.Sm):x.unit.size<=1073741824:=by cases h;assumption
theorem Ex.Sm.s {x:Ex} (h:x.Sm):x.name.size<=1073741824:=by cases h;assumption
theorem Ex.Sm.arg {x:Ex} (h:x.Sm):∀ y∈x.args,y.Sm:=by cases h;assumption
def isWord (s:ByteArray):Bool:=seq s ⟨#[110,111,116]⟩||seq s ⟨#[105,102]⟩||seq s ⟨#[116,104,101,110]⟩||seq s ⟨#[101,108,115,101]⟩||seq s ⟨#[97,110,100]⟩||seq s ⟨#[111,114]⟩||seq s ⟨#[108,111,111,107]⟩||seq s ⟨#[109,105,110]⟩||seq s ⟨#[109,97,120]⟩||seq s ⟨#[105,110,116,111]⟩||seq s ⟨#[116,111]⟩||seq s ⟨#[97,115]⟩
def isNamed (s:ByteArray):Bool:=isName s&&!isWord s
def y1g (o:Int):ByteArray:=bif decide (o=6) then ⟨#[43]⟩ else bif decide (o=7) then ⟨#[45]⟩ else bif decide (o=8) then ⟨#[42]⟩ else bif decide (o=9) then ⟨#[47]⟩ else bif decide (o=12) then ⟨#[60]⟩ else bif decide (o=13) then ⟨#[61]⟩ else bif decide (o=14) then ⟨#[97,110,100]⟩ else bif decide (o=15) then ⟨#[111,114]⟩ else ⟨#[]⟩
def isOp (o:Int):Bool:=decide (o=6)||decide (o=7)||decide (o=8)||decide (o=9)||decide (o=12)||decide (o=13)||decide (o=14)||decide (o=15)
mutual
def Ex.cnt:Ex->Int->Int->Bool×Int
 | .mk _ _ _ _ l,n,lv=>bif decide (200<n+1)||decide (20<lv) then (false,n+1) else Ex.cntL l (n+1) (lv+1)
def Ex.cntL:List Ex->Int->Int->Bool×Int
 | [],n,_=>(true,n)
 | y::l,n,lv=>match Ex.cnt y n lv with
  | (false,m)=>(false,m)
  | (true,m)=>Ex.cntL l m lv
end
theorem Ex.yn2 (x:Ex) (n lv:Int):x.cnt n lv=bif decide (200<n+1)||decide (20<lv) then (false,n+1) else Ex.cntL x.args (n+1) (lv+1):=by cases x;rw [Ex.cnt];rfl
theorem Ex.xh3:∀(x:Ex) (n lv k:Int),x.cnt n lv=(true,k)->n<k/\k<=200:=by
 have hL:∀ l:List Ex,(∀ y∈l,∀(n lv k:Int),y.cnt n lv=(true,k)->n<k/\k<=200)->∀ n lv k:Int,n<=200->Ex.cntL l n lv=(true,k)->n<=k/\k<=200:=by
  intro l
  induction l with
  | nil=>intro _ n lv k hn h;rw [Ex.cntL] at h;cases h;omega
  | cons y l ih=>
   intro hy n lv k hn h;rw [Ex.cntL] at h;split at h
   . cases h
   . rename_i m hm;have h1:=hy y (by simp) _ _ _ hm;have h2:=ih (fun z hz=>hy z (by simp [hz])) _ _ _ h1.2 h;omega
 refine Ex.ind (fun x ih n lv k h=>?_);rw [Ex.yn2] at h;by_cases h1:200<n+1
 . simp [h1] at h
 . by_cases h2:20<lv
   . simp [h2] at h
   . simp only [h1,h2,decide_false,Bool.or_self,cond_false] at h
     have:=hL x.args ih _ _ _ (by omega) h
     omega
def xer (x:Ex):Bool:=
 bif decide (x.op=0) then yn7 x.unit&&decide (0<=x.n)&&decide (x.n<=1099511627776)&&decide (x.name.size=0)&&decide ((x.args.length:Int)=0) else
 bif decide (¬x.n=0)||decide (¬x.unit.size=0) then false else
 bif decide (x.op=1) then isNamed x.name&&decide ((x.args.length:Int)=0) else
 bif decide (x.op=2) then isNamed x.name&&decide ((x.args.length:Int)=1) else
 bif decide (x.op=3) then isNamed x.name&&decide (1<=(x.args.length:Int))&&decide ((x.args.length:Int)<=6) else
 bif decide (x.op=4) then decide (x.name.size=0)&&decide ((x.args.length:Int)=1) else
 bif decide (x.op=5) then decide (x.name.size=0)&&decide ((x.args.length:Int)=3) else
 bif decide (x.op=10)||decide (x.op=11) then decide (x.name.size=0)&&decide ((x.args.length:Int)=2) else
 isOp x.op&&decide (x.name.size=0)&&decide ((x.args.length:Int)=2)
mutual
def Ex.shaped:Ex->Bool
 | .mk o n u s l=>xer (.mk o n u s l)&&Ex.zsn l
def Ex.zsn:List Ex->Bool
 | []=>true
 | y::l=>Ex.shaped y&&Ex.zsn l
end
theorem Ex.wgp:∀ l:List Ex,Ex.zsn l=l.all Ex.shaped
 | []=>by rw [Ex.zsn];rfl
 | y::l=>by rw [Ex.zsn,Ex.wgp l];rfl
theorem Ex.ypb (x:Ex):x.shaped=(xer x&&x.args.all Ex.shaped):=by cases x;rw [Ex.shaped,Ex.wgp];rfl
def zqs (x:Ex):Bool:=(x.cnt 0 1).1&&x.shaped
def idxF {α:Type} (p:α->Bool):List α->Int
 | []=>-1
 | x::l=>bif p x then 0 else bif decide (idxF p l = -1) then -1 else idxF p l+1
theorem zrk {α:Type} (p:α->Bool):∀ l:List α,-1<=idxF p l
 | []=>by unfold idxF;omega
 | x::l=>by
  have:=zrk p l
  unfold idxF
  cases p x with
  | true=>simp
  | false=>
   by_cases h:idxF p l = -1
   . simp [h]
   . simp [h];omega
theorem z9z {α:Type} (p:α->Bool):∀ l:List α,decide (0<=idxF p l)=l.any p
 | []=>rfl
 | x::l=>by
  have h2:=z9z p l;have h3:=zrk p l;unfold idxF;rw [List.any_cons,<-h2]
  cases p x with
  | true=>simp
  | false=>
   by_cases h:idxF p l = -1
   . simp [h]
   . simp [h];omega
theorem w7a {α:Type} [Inhabited α] {p:α->Bool}:∀{l:List α} {i:Nat},i<=l.length->(∀ j,j<i->p (l.getD j default)=false)->(i=l.length->idxF p l = -1)/\(i<l.length->p (l.getD i default)=true->idxF p l=i)
 | [],i,hi,_=>by simp at hi;subst hi;exact ⟨fun _=>rfl,fun h=>by simp at h⟩
 | x::l,0,_,_=>⟨fun h=>by simp at h,fun _ h=>by unfold idxF;have:p x=true:=h;rw [this];rfl⟩
 | x::l,i+1,hi,hj=>by
  have h0:p x=false:=hj 0 (by omega);obtain ⟨h1,h2⟩:=w7a (l:=l) (i:=i) (by simpa using hi) (fun j hj'=>by simpa using hj (j+1) (by omega));unfold idxF;rw [h0];refine ⟨fun h=>?_,fun h hp=>?_⟩
  . rw [h1 (by simpa using h)];rfl
  . rw [h2 (by simpa using h) (by simpa using hp)]
    have:¬((i:Int) = -1):=by omega
    simp [this]
structure Dm where
 a:Int
 b:Int
 c:Int
 d:Int
 e:Int
 f:Int
deriving DecidableEq
def Dm.zero:Dm:=⟨0,0,0,0,0,0⟩
instance:Inhabited Dm:=⟨Dm.zero⟩
abbrev dmC (x:Dm):List Cell:=[cI x.a,cI x.b,cI x.c,cI x.d,cI x.e,cI x.f]
def bad9 (n:Int):Bool:=decide (n < -9)||decide (9<n)
def ytl (x:Dm):Bool:=!bad9 x.a&&!bad9 x.b&&!bad9 x.c&&!bad9 x.d&&!bad9 x.e&&!bad9 x.f
def Dm.add (x y:Dm):Dm:=⟨x.a+y.a,x.b+y.b,x.c+y.c,x.d+y.d,x.e+y.e,x.f+y.f⟩
def Dm.sub (x y:Dm):Dm:=⟨x.a-y.a,x.b-y.b,x.c-y.c,x.d-y.d,x.e-y.e,x.f-y.f⟩
def vvo (x:Dm):Dm×Int:=bif ytl x then (x,0) else (Dm.zero,3)
def dMul (x y:Dm):Dm×Int:=bif !ytl x||!ytl y then (Dm.zero,1) else vvo (x.add y)
def dDiv (x y:Dm):Dm×Int:=bif !ytl x||!ytl y then (Dm.zero,1) else vvo (x.sub y)
structure Ty where
 t:Bool
 d:Dm
deriving DecidableEq
def Ty.zero:Ty:=⟨false,Dm.zero⟩
instance:Inhabited Ty:=⟨Ty.zero⟩
def Ty.C (x:Ty):List Cell:=cB x.t::dmC x.d
abbrev tyC (x:Ty):List Cell:=[cB x.t,cI x.d.a,cI x.d.b,cI x.d.c,cI x.d.d,cI x.d.e,cI x.d.f]
theorem Ty.C_eq (x:Ty):x.C=tyC x:=rfl
attribute [go_sem] Ty.C_eq
mutual
def Ex.wqm:Ex->Bool
 | .mk o _ _ _ l=>decide (o=3)||Ex.xym l
def Ex.xym:List Ex->Bool
 | []=>false
 | y::l=>Ex.wqm y||Ex.xym l
end
theorem Ex.wby:∀ l:List Ex,Ex.xym l=l.any Ex.wqm
 | []=>by rw [Ex.xym];rfl
 | y::l=>by rw [Ex.xym,Ex.wby l];rfl
theorem Ex.xrx (x:Ex):x.wqm=(decide (x.op=3)||x.args.any Ex.wqm):=by cases x;rw [Ex.wqm,Ex.wby];rfl
def vqd (a b r:Ty):Ty×Int:=bif a.t||b.t then (Ty.zero,13) else bif !decide (a.d=b.d) then (Ty.zero,14) else (r,0)
def yfl (o:Int) (a b:Ty):Ty×Int:=bif a.t||b.t then (Ty.zero,13) else
 bif !decide ((bif decide (o=9) then dDiv a.d b.d else dMul a.d b.d).2=0) then (Ty.zero,14) else (⟨false,(bif decide (o=9) then dDiv a.d b.d else dMul a.d b.d).1⟩,0)
def yck (l:List Ty):Ty×Int:=bif l.any (fun t=>!t.t) then (Ty.zero,13) else (⟨true,Dm.zero⟩,0)
def yb8 (T:List (ByteArray×Dm)) (s:ByteArray) (k:Ty):Ty×Int:=match z2f T s with
 | none=>(Ty.zero,11)
 | some d=>bif k.t then (Ty.zero,13) else bif !decide (k.d=Dm.zero) then (Ty.zero,14) else (⟨false,d⟩,0)
def z0t (T:List (ByteArray×Dm)) (o:Int) (nm:ByteArray) (ts:List Ty):Ty×Int:=
 bif decide (o=2) then yb8 T nm (ts.getD 0 default) else
 bif decide (o=6)||decide (o=7)||decide (o=10)||decide (o=11) then vqd (ts.getD 0 default) (ts.getD 1 default) (ts.getD 0 default) else
 bif decide (o=12)||decide (o=13) then vqd (ts.getD 0 default) (ts.getD 1 default) ⟨true,Dm.zero⟩ else
 bif decide (o=8)||decide (o=9) then yfl o (ts.getD 0 default) (ts.getD 1 default) else
 bif decide (o=5) then (bif !(ts.getD 0 default).t then (Ty.zero,13) else vqd (ts.getD 1 default) (ts.getD 2 default) (ts.getD 1 default)) else
 yck ts
structure Rw where
 k:Int
 v:Int
instance:Inhabited Rw:=⟨⟨0,0⟩⟩
def Rw.C (x:Rw):List Cell:=[cI x.k,cI x.v]
abbrev rwC (x:Rw):List Cell:=[cI x.k,cI x.v]
theorem Rw.C_eq (x:Rw):x.C=rwC x:=rfl
structure Tb where
 name:ByteArray
 unit:ByteArray
 rows:List Rw
instance:Inhabited Tb:=⟨⟨⟨#[]⟩,⟨#[]⟩,[]⟩⟩
def Tb.C (x:Tb):List Cell:=[cS x.name,cS x.unit,.sl 2 (x.rows.map Rw.C)]
abbrev tbC (x:Tb):List Cell:=[cS x.name,cS x.unit,.sl 2 (x.rows.map Rw.C)]
theorem Tb.C_eq (x:Tb):x.C=tbC x:=rfl
structure Vr where
 name:ByteArray
 d:Dm
instance:Inhabited Vr:=⟨⟨⟨#[]⟩,Dm.zero⟩⟩
def Vr.C (x:Vr):List Cell:=[cS x.name,cI x.d.a,cI x.d.b,cI x.d.c,cI x.d.d,cI x.d.e,cI x.d.f]
abbrev vrC (x:Vr):List Cell:=[cS x.name,cI x.d.a,cI x.d.b,cI x.d.c,cI x.d.d,cI x.d.e,cI x.d.f]
theorem Vr.C_eq (x:Vr):x.C=vrC x:=rfl
attribute [go_sem] Rw.C_eq Tb.C_eq Vr.C_eq
def inT (n:Int):Bool:=decide (-1099511627776<=n)&&decide (n<=1099511627776)
def rowAt (l:List Rw) (i:Nat):Bool:=inT (l.getD i default).k&&inT (l.getD i default).v&&!(decide (0<(i:Int))&&decide ((l.getD i default).k<=(l.getD (i-1) default).k))
def wzj (l:List Rw):Bool:=(List.range l.length).all (rowAt l)
theorem y45 {p:Nat->Bool} {n:Nat}:(∀ j,j<n->p j=true)->(List.range n).all p=true:=fun h=>by
 rw [List.all_eq_true];exact fun x hx=>h x (List.mem_range.1 hx)
theorem v76 {p:Nat->Bool} {n j:Nat} (hj:j<n) (h:p j=false):(List.range n).all p=false:=by
 cases ha:(List.range n).all p with
 | false=>rfl
 | true=>rw [List.all_eq_true.1 ha j (List.mem_range.2 hj)] at h;cases h
def vgr (uerr:ByteArray->Int) (t:Tb):Bool:=!decide (¬uerr t.unit=0)&&isName t.name&&!decide (100<(t.rows.length:Int))&&wzj t.rows
theorem xm4 {p:Nat->Prop} (h:∀ j,j<i->p j) (hi:p i):∀ j,j<i+1->p j:=fun j hj=>by
 rcases Nat.lt_or_eq_of_le (Nat.le_of_lt_succ hj) with h2 | h2
 . exact h j h2
 . rw [h2];exact hi
end Go.Hp.T
namespace Go.Hp
open Go Go.RowKit Go.Slot
variable {P:Program} {Γ:List (Nat×List Cell)}
theorem yjm {n N i:Nat} (h:i<n):atR (List.range n) N i=i:=zj8 (by simp [h])
theorem xpp.pre {f:FuncId} {ηs ξ:List SB} {args:List SV} {res:SV} (h:xpp Γ P f ηs args ηs res) (hs:∀ r,ηs.map (rnSB r)=ηs) (ha:args.map (v3y (atR (List.range ηs.length) (ηs++ξ).length))=args) (hr:rnSV (atR (List.range ηs.length) (ηs++ξ).length) res=res):xpp Γ P f (ηs++ξ) args (ηs++ξ) res:=by
 have hfix:∀(r:Nat->Nat) (i:Nat) (x:SB),ηs[i]? = some x->rnSB r x=x:=fun r i x hx=>by
  have:=congrArg (fun l=>l[i]?) (hs r)
  simp only [List.getElem?_map,hx,Option.map_some] at this;exact Option.some.inj this
 have hlt:∀ j∈List.range ηs.length,j<(ηs++ξ).length:=fun j hj=>by
  rw [List.mem_range] at hj;rw [List.length_append];omega
 have hk:=xpp.frame (φ:=List.range ηs.length) (J:=ηs++ξ) List.nodup_range hlt ⟨by simp,fun i x hx=>by
  have hi:i<ηs.length:=(List.getElem?_eq_some_iff.1 hx).1
  exact ⟨i,by simp [hi],by rw [hfix _ i x hx,List.getElem?_append_left hi];exact hx⟩⟩ (by simp) h
 rw [ha,hr] at hk
 have hp:putR (List.range ηs.length) (ηs++ξ) ηs=ηs++ξ:=by
  apply List.ext_getElem?;intro i;by_cases hi:i<ηs.length
  . have h1:=xje (φ:=List.range ηs.length) (J:=ηs++ξ) (ηs':=ηs) List.nodup_range hlt (List.getElem?_eq_getElem hi);rw [yjm hi,hfix _ i _ (List.getElem?_eq_getElem hi)] at h1;rw [h1,List.getElem?_append_left hi,List.getElem?_eq_getElem hi]
  . by_cases hi2:i<(ηs++ξ).length
    . exact zn3 hi2 (by simpa using hi)
    . rw [List.getElem?_eq_none (by rw [wb2];simp at hi2 ⊢;omega),List.getElem?_eq_none (by omega)]
 rw [hp] at hk;exact hk
end Go.Hp
namespace Go.Hp.T
open Go Go.RowKit Go.Slot Go.Hp
theorem zd3 {x:Ex} (h:xer x=true) (h3:x.op≠3) (h0:x.args.length≠0):(x.op≠2->x.op≠4->2<=x.args.length)/\(x.op=5->3<=x.args.length):=by
 unfold xer at h;by_cases a0:x.op=0
 . rw [decide_eq_true a0,cond_true] at h;simp only [Bool.and_eq_true,decide_eq_true_eq] at h;omega
 rw [decide_eq_false a0,cond_false] at h
 cases hb:(decide (¬x.n=0)||decide (¬x.unit.size=0)) with
 | true=>rw [hb,cond_true] at h;cases h
 | false=>
 rw [hb,cond_false] at h;by_cases a1:x.op=1
 . rw [decide_eq_true a1,cond_true] at h;simp only [Bool.and_eq_true,decide_eq_true_eq] at h;omega
 rw [decide_eq_false a1,cond_false] at h;by_cases a2:x.op=2
 . rw [decide_eq_true a2,cond_true] at h;simp only [Bool.and_eq_true,decide_eq_true_eq] at h;omega
 rw [decide_eq_false a2,cond_false] at h;by_cases a3:x.op=3
 . rw [decide_eq_true a3,cond_true] at h;simp only [Bool.and_eq_true,decide_eq_true_eq] at h;omega
 rw [decide_eq_false a3,cond_false] at h;by_cases a4:x.op=4
 . rw [decide_eq_true a4,cond_true] at h;simp only [Bool.and_eq_true,decide_eq_true_eq] at h;omega
 rw [decide_eq_false a4,cond_false] at h;by_cases a5:x.op=5
 . rw [decide_eq_true a5,cond_true] at h;simp only [Bool.and_eq_true,decide_eq_true_eq] at h;omega
 rw [decide_eq_false a5,cond_false] at h
 cases hc:(decide (x.op=10)||decide (x.op=11)) with
 | true=>rw [hc,cond_true] at h;simp only [Bool.and_eq_true,decide_eq_true_eq] at h;omega
 | false=>rw [hc,cond_false] at h;simp only [Bool.and_eq_true,decide_eq_true_eq] at h;omega
end Go.Hp.T
