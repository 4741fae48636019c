/- The proof, part B23: Cm, Lg, Ys, Lh. -/
import Derived.Test.YtglblfkobflpmaaGreatB22
import Derived.Test.YtglblfkobflpmaaGreatB18
namespace Go.Hp.T
open Go Go.RowKit Go.Slot Go.Hp Go.Slot.T
open Go.Proofs.Tryz (prog)
attribute [local irreducible] hide RH
set_option maxRecDepth 10000
set_option maxHeartbeats 8000000
variable {Γ:List (Nat×List Cell)}
theorem yjd (a b:Fc) (ha:a.sz<=67108864) (hb:b.sz<=67108864) :
 CallsD Γ prog 47 [.agg a.C,.agg b.C] (.tup [.agg (Fc.sub a b).C,.one (.raw (.int .i64 (Fc.er (a.ok/\b.ok))))]):=by
 by_cases h1:a.ok
 . by_cases h2:b.ok
   . rw [Fc.wop ⟨h1,h2⟩];obtain ⟨x,rfl⟩:=Fc.vy4 h1;obtain ⟨y,rfl⟩:=Fc.vy4 h2;have lx:=szO ha;have ly:=szO hb;have hA:=wza (Γ:=Γ) (Fc.of x) (Fc.of (-y)) ha (by rw [Fc.v83];exact hb);rw [Fc.wop ⟨Fc.xd3 _,Fc.xd3 _⟩,Fc.xac,<-Rat.sub_eq_add_neg] at hA;rw [Fc.zig];refine CallsD.run [] Go.Proofs.Tryz.func47 rfl rfl rfl ?_;simp only [Go.Proofs.Tryz.f47];refine hgR ?_
     first | refine wml (z6t x (by omega)) ?_ | refine ysi (z6t x (by omega)) ?_
     refine hg ?_
     first | refine wml (z6t y (by omega)) ?_ | refine ysi (z6t y (by omega)) ?_
     refine hg ?_
     first | refine wml (zc3 y.num (by unfold okZ;omega)) ?_ | refine ysi (zc3 y.num (by unfold okZ;omega)) ?_
     refine hg ?_
     first | refine wml hA ?_ | refine ysi hA ?_
     refine hg ?_;refine hik ?_;refine hg ?_;exact (.tup (.cons (.refl _) (.cons (.refl _) .nil)))
   . rw [Fc.w7p (fun h=>h2 h.2),show Fc.sub a b=Fc.zero from Fc.zod (fun h=>h2 h.2)];obtain ⟨x,rfl⟩:=Fc.vy4 h1;refine CallsD.run [] Go.Proofs.Tryz.func47 rfl rfl rfl ?_;simp only [Go.Proofs.Tryz.f47];refine hgR ?_
     first | refine wml (z6t x (by omega)) ?_ | refine ysi (z6t x (by omega)) ?_
     refine hg ?_
     first | refine wml (zd1 b (by omega) h2) ?_ | refine ysi (zd1 b (by omega) h2) ?_
     refine hg ?_;exact (.tup (.cons vtk (.cons (.refl _) .nil)))
 . rw [Fc.w7p (fun h=>h1 h.1),show Fc.sub a b=Fc.zero from Fc.zod (fun h=>h1 h.1)];refine CallsD.run [] Go.Proofs.Tryz.func47 rfl rfl rfl ?_;simp only [Go.Proofs.Tryz.f47];refine hgR ?_
   first | refine wml (zd1 a (by omega) h1) ?_ | refine ysi (zd1 a (by omega) h1) ?_
   refine hg ?_;exact (.tup (.cons vtk (.cons (.refl _) .nil)))
theorem zu5 (a b:Fc) (ha:a.sz<=67108864) (hb:b.sz<=67108864) :
 CallsD Γ prog 38 [.agg a.C,.agg b.C] (.tup [.agg (Fc.mul a b).C,.one (.raw (.int .i64 (Fc.er (a.ok/\b.ok))))]):=by
 by_cases h1:a.ok
 . by_cases h2:b.ok
   . rw [Fc.wop ⟨h1,h2⟩];obtain ⟨x,rfl⟩:=Fc.vy4 h1;obtain ⟨y,rfl⟩:=Fc.vy4 h2;have lx:=szO ha;have ly:=szO hb;have l1:=z9n x.num y.num;have l4:=zjf x.den y.den;rw [Fc.x5c,Rat.mul_def'];refine CallsD.run [] Go.Proofs.Tryz.func38 rfl rfl rfl ?_;simp only [Go.Proofs.Tryz.f38];refine hgR ?_
     first | refine wml (z6t x (by omega)) ?_ | refine ysi (z6t x (by omega)) ?_
     refine hg ?_
     first | refine wml (z6t y (by omega)) ?_ | refine ysi (z6t y (by omega)) ?_
     refine hg ?_
     first | refine wml (vhe x.num y.num (by unfold okZ;omega) (by unfold okZ;omega)) ?_ | refine ysi (vhe x.num y.num (by unfold okZ;omega) (by unfold okZ;omega)) ?_
     refine hg ?_
     first | refine wml (zv0 x.den y.den x.den_nz y.den_nz (by omega) (by omega)) ?_ | refine ysi (zv0 x.den y.den x.den_nz y.den_nz (by omega) (by omega)) ?_
     refine hg ?_
     first | refine wml (w2g (x.num*y.num) (x.den*y.den) (by unfold okZ;omega) (Nat.mul_ne_zero x.den_nz y.den_nz) (by omega)) ?_ | refine ysi (w2g (x.num*y.num) (x.den*y.den) (by unfold okZ;omega) (Nat.mul_ne_zero x.den_nz y.den_nz) (by omega)) ?_
     refine hg ?_;refine hik ?_;refine hg ?_;exact (.tup (.cons (.refl _) (.cons (.refl _) .nil)))
   . rw [Fc.w7p (fun h=>h2 h.2),show Fc.mul a b=Fc.zero from Fc.zod (fun h=>h2 h.2)];obtain ⟨x,rfl⟩:=Fc.vy4 h1;refine CallsD.run [] Go.Proofs.Tryz.func38 rfl rfl rfl ?_;simp only [Go.Proofs.Tryz.f38];refine hgR ?_
     first | refine wml (z6t x (by omega)) ?_ | refine ysi (z6t x (by omega)) ?_
     refine hg ?_
     first | refine wml (zd1 b (by omega) h2) ?_ | refine ysi (zd1 b (by omega) h2) ?_
     refine hg ?_;exact (.tup (.cons vtk (.cons (.refl _) .nil)))
 . rw [Fc.w7p (fun h=>h1 h.1),show Fc.mul a b=Fc.zero from Fc.zod (fun h=>h1 h.1)];refine CallsD.run [] Go.Proofs.Tryz.func38 rfl rfl rfl ?_;simp only [Go.Proofs.Tryz.f38];refine hgR ?_
   first | refine wml (zd1 a (by omega) h1) ?_ | refine ysi (zd1 a (by omega) h1) ?_
   refine hg ?_;exact (.tup (.cons vtk (.cons (.refl _) .nil)))
theorem vwg (a b:Fc) (ha:a.sz<=67108864) (hb:b.sz<=67108864) :
 CallsD Γ prog 36 [.agg a.C,.agg b.C] (.one (.raw (.int .i64 (Fc.cmp a b)))):=by
 by_cases h1:a.ok
 . by_cases h2:b.ok
   . obtain ⟨x,rfl⟩:=Fc.vy4 h1;obtain ⟨y,rfl⟩:=Fc.vy4 h2;have lx:=szO ha;have ly:=szO hb;have l1:=z9n x.num y.den;have l2:=z9n y.num x.den;rw [Int.natAbs_natCast] at l1 l2;rw [Fc.w7n,<-Fc.xju];refine CallsD.run [] Go.Proofs.Tryz.func36 rfl rfl rfl ?_;simp only [Go.Proofs.Tryz.f36];refine hgR ?_
     first | refine wml (z6t x (by omega)) ?_ | refine ysi (z6t x (by omega)) ?_
     refine hg ?_
     first | refine wml (z6t y (by omega)) ?_ | refine ysi (z6t y (by omega)) ?_
     refine hg ?_
     first | refine wml (x8b x.num y.den (by unfold okZ;omega) y.den_nz (by omega)) ?_ | refine ysi (x8b x.num y.den (by unfold okZ;omega) y.den_nz (by omega)) ?_
     refine hg ?_
     first | refine wml (x8b y.num x.den (by unfold okZ;omega) x.den_nz (by omega)) ?_ | refine ysi (x8b y.num x.den (by unfold okZ;omega) x.den_nz (by omega)) ?_
     refine hg ?_
     first | refine wml (whm (x.num*y.den) (y.num*x.den) (by unfold okZ;omega) (by unfold okZ;omega)) ?_ | refine ysi (whm (x.num*y.den) (y.num*x.den) (by unfold okZ;omega) (by unfold okZ;omega)) ?_
     refine hg ?_;refine hik ?_;refine hg ?_;exact (.one (.refl _))
   . rw [show Fc.cmp a b=0 from if_neg (fun h=>h2 h.2)];obtain ⟨x,rfl⟩:=Fc.vy4 h1;refine CallsD.run [] Go.Proofs.Tryz.func36 rfl rfl rfl ?_;simp only [Go.Proofs.Tryz.f36];refine hgR ?_
     first | refine wml (z6t x (by omega)) ?_ | refine ysi (z6t x (by omega)) ?_
     refine hg ?_
     first | refine wml (zd1 b (by omega) h2) ?_ | refine ysi (zd1 b (by omega) h2) ?_
     refine hg ?_;exact (.one (.refl _))
 . rw [show Fc.cmp a b=0 from if_neg (fun h=>h1 h.1)];refine CallsD.run [] Go.Proofs.Tryz.func36 rfl rfl rfl ?_;simp only [Go.Proofs.Tryz.f36];refine hgR ?_
   first | refine wml (zd1 a (by omega) h1) ?_ | refine ysi (zd1 a (by omega) h1) ?_
   refine hg ?_;exact (.one (.refl _))
theorem wdj (x:Int) (hx:okZ x):CallsD Γ prog 80 [.agg [.raw (.int .i64 (sg x)),.ints .i64 (dig x.natAbs)]] (.agg [.raw (.int .i64 (sg x)),.ints .i64 (dig x.natAbs)]):=by
 have hx':okZ (-x):=by unfold okZ;rw [Int.natAbs_neg];exact hx
 have h2:=zc3 (Γ:=Γ) (-x) hx';rw [Int.neg_neg] at h2;refine CallsD.run [] Go.Proofs.Tryz.func80 rfl rfl rfl ?_;simp only [Go.Proofs.Tryz.f80];refine hgR ?_
 first | refine wml (zc3 x hx) ?_ | refine ysi (zc3 x hx) ?_
 refine hg ?_
 first | refine wml h2 ?_ | refine ysi h2 ?_
 refine hg ?_;exact (.one (.refl _))
theorem ynl (d:Nat) (hd:d≠0) (hl:(dig d).length<=268435456):CallsD Γ prog 80 [.agg [.raw (.int .i64 1),.ints .i64 (dig d)]] (.agg [.raw (.int .i64 1),.ints .i64 (dig d)]):=by
 have:=wdj (Γ:=Γ) (d:Int) hl
 rw [zy9 hd] at this;exact this
theorem vvw:RLe (.agg [.raw (.int .i64 0),.zc,.raw (.int .i64 0),.zc]) (.agg Fc.zero.C):=.one vtk
theorem vhh (a:Fc) (ha:a.sz<=67108864):CallsD Γ prog 41 [.agg a.C] (.agg (Fc.neg a).C):=by
 by_cases h1:a.ok
 . obtain ⟨x,rfl⟩:=Fc.vy4 h1;have lx:=szO ha;rw [Fc.ymu];refine CallsD.run [] Go.Proofs.Tryz.func41 rfl rfl rfl ?_;simp only [Go.Proofs.Tryz.f41];refine hgR ?_
   first | refine wml (z6t x (by omega)) ?_ | refine ysi (z6t x (by omega)) ?_
   refine hg ?_
   first | refine wml (zc3 x.num (by unfold okZ;omega)) ?_ | refine ysi (zc3 x.num (by unfold okZ;omega)) ?_
   refine hg ?_
   first | refine wml (ynl x.den x.den_nz (by omega)) ?_ | refine ysi (ynl x.den x.den_nz (by omega)) ?_
   refine hg ?_;refine hik ?_;refine hg ?_;exact (.one (.refl _))
 . rw [show Fc.neg a=Fc.zero from if_neg h1];refine CallsD.run [] Go.Proofs.Tryz.func41 rfl rfl rfl ?_;simp only [Go.Proofs.Tryz.f41];refine hgR ?_
   first | refine wml (zd1 a (by omega) h1) ?_ | refine ysi (zd1 a (by omega) h1) ?_
   refine hg ?_;exact vvw
theorem xhi (a:Fc) (ha:a.sz<=67108864):CallsD Γ prog 45 [.agg a.C] (.one (.raw (.int .i64 (Fc.sign a)))):=by
 by_cases h1:a.ok
 . obtain ⟨x,rfl⟩:=Fc.vy4 h1;rw [Fc.w9s];refine CallsD.run [] Go.Proofs.Tryz.func45 rfl rfl rfl ?_;simp only [Go.Proofs.Tryz.f45];refine hgR ?_
   first | refine wml (z6t x (by omega)) ?_ | refine ysi (z6t x (by omega)) ?_
   refine hg ?_;exact (.one (.refl _))
 . rw [show Fc.sign a=0 from if_neg h1];refine CallsD.run [] Go.Proofs.Tryz.func45 rfl rfl rfl ?_;simp only [Go.Proofs.Tryz.f45];refine hgR ?_
   first | refine wml (zd1 a (by omega) h1) ?_ | refine ysi (zd1 a (by omega) h1) ?_
   refine hg ?_;exact (.one (.refl _))
theorem x5s (x y:Rat) (s:Int) (hs:-1<=s/\s<=1) (ha:(Fc.of x).sz<=67108864) (hb:(Fc.of y).sz<=67108864) :
 CallsD Γ prog 78 [.agg (Fc.of x).C,.agg (Fc.of y).C,.one (.raw (.int .i64 s))] (.tup [.agg (Fc.of (if Fc.ordQ x y*s<0 then y else x)).C,.one (.raw (.int .i64 0))]):=by
 have lx:=szO ha;have ly:=szO hb;have hc:=vwg (Γ:=Γ) (Fc.of x) (Fc.of y) ha hb;rw [Fc.w7n] at hc
 have hr:-1<=Fc.ordQ x y*s/\Fc.ordQ x y*s<=1:=by
  rcases Fc.yyw x y with ⟨_,e⟩ | ⟨_,e⟩ | ⟨_,e⟩<;>rw [e]<;>omega
 refine CallsD.run [] Go.Proofs.Tryz.func78 rfl rfl rfl ?_;simp only [Go.Proofs.Tryz.f78];refine hgR ?_
 first | refine wml (z6t x (by omega)) ?_ | refine ysi (z6t x (by omega)) ?_
 refine hg ?_
 first | refine wml (z6t y (by omega)) ?_ | refine ysi (z6t y (by omega)) ?_
 refine hg ?_
 first | refine wml hc ?_ | refine ysi hc ?_
 refine hg ?_;refine vt2 (fun h _=>?_) (fun h _=>?_)
 . rw [if_pos h];refine hg ?_
   first | refine wml (wdj y.num (by unfold okZ;omega)) ?_ | refine ysi (wdj y.num (by unfold okZ;omega)) ?_
   refine hg ?_
   first | refine wml (ynl y.den y.den_nz (by omega)) ?_ | refine ysi (ynl y.den y.den_nz (by omega)) ?_
   refine hg ?_;refine hik ?_;refine hg ?_;exact (.tup (.cons (.refl _) (.cons (.refl _) .nil)))
 . rw [if_neg h];refine hg ?_
   first | refine wml (wdj x.num (by unfold okZ;omega)) ?_ | refine ysi (wdj x.num (by unfold okZ;omega)) ?_
   refine hg ?_
   first | refine wml (ynl x.den x.den_nz (by omega)) ?_ | refine ysi (ynl x.den x.den_nz (by omega)) ?_
   refine hg ?_;refine hik ?_;refine hg ?_;exact (.tup (.cons (.refl _) (.cons (.refl _) .nil)))
theorem x59 (a b:Fc) (s:Int) (h:¬(a.ok/\b.ok)) (ha:a.sz<=67108864) (hb:b.sz<=67108864) :
 CallsD Γ prog 78 [.agg a.C,.agg b.C,.one (.raw (.int .i64 s))] (.tup [.agg Fc.zero.C,.one (.raw (.int .i64 1))]):=by
 by_cases h1:a.ok
 . have h2:¬b.ok:=fun h2=>h ⟨h1,h2⟩
   obtain ⟨x,rfl⟩:=Fc.vy4 h1;refine CallsD.run [] Go.Proofs.Tryz.func78 rfl rfl rfl ?_;simp only [Go.Proofs.Tryz.f78];refine hgR ?_
   first | refine wml (z6t x (by omega)) ?_ | refine ysi (z6t x (by omega)) ?_
   refine hg ?_
   first | refine wml (zd1 b (by omega) h2) ?_ | refine ysi (zd1 b (by omega) h2) ?_
   refine hg ?_;exact (.tup (.cons vtk (.cons (.refl _) .nil)))
 . refine CallsD.run [] Go.Proofs.Tryz.func78 rfl rfl rfl ?_;simp only [Go.Proofs.Tryz.f78];refine hgR ?_
   first | refine wml (zd1 a (by omega) h1) ?_ | refine ysi (zd1 a (by omega) h1) ?_
   refine hg ?_;exact (.tup (.cons vtk (.cons (.refl _) .nil)))
theorem z9y (a b:Fc) (ha:a.sz<=67108864) (hb:b.sz<=67108864) :
 CallsD Γ prog 40 [.agg a.C,.agg b.C] (.tup [.agg (Fc.maxf a b).C,.one (.raw (.int .i64 (Fc.er (a.ok/\b.ok))))]):=by
 by_cases h:a.ok/\b.ok
 . rw [Fc.wop h];obtain ⟨x,rfl⟩:=Fc.vy4 h.1;obtain ⟨y,rfl⟩:=Fc.vy4 h.2;have hE:=x5s (Γ:=Γ) x y 1 (by decide) ha hb
   have e:(if Fc.ordQ x y*1<0 then y else x)=max x y:=by
    rw [Rat.max_def]
    rcases Fc.yyw x y with ⟨h,e⟩ | ⟨h,e⟩ | ⟨h,e⟩<;>rw [e]
    . rw [if_pos (by decide),if_pos (Rat.le_of_lt h)]
    . rw [if_neg (by decide),if_pos (by rw [h];exact Rat.le_refl),h]
    . rw [if_neg (by decide),if_neg (fun h'=>Rat.not_le.2 h h')]
   rw [e] at hE;rw [Fc.wij];refine CallsD.run [] Go.Proofs.Tryz.func40 rfl rfl rfl ?_;simp only [Go.Proofs.Tryz.f40];refine hgR ?_
   first | refine wml hE ?_ | refine ysi hE ?_
   refine hg ?_;exact (.tup (.cons (.refl _) (.cons (.refl _) .nil)))
 . rw [Fc.w7p h,show Fc.maxf a b=Fc.zero from Fc.zod h];have hE:=x59 (Γ:=Γ) a b 1 h ha hb;refine CallsD.run [] Go.Proofs.Tryz.func40 rfl rfl rfl ?_;simp only [Go.Proofs.Tryz.f40];refine hgR ?_
   first | refine wml hE ?_ | refine ysi hE ?_
   refine hg ?_;exact (.tup (.cons (.refl _) (.cons (.refl _) .nil)))
theorem xb9 (a b:Fc) (ha:a.sz<=67108864) (hb:b.sz<=67108864):CallsD Γ prog 48 [.agg a.C,.agg b.C] (.one (.raw (.bool (decide (a=b))))):=by
 have la:=szL ha;have lb:=szL hb;obtain ⟨r,hr⟩:∃ r,r=decide (a=b):=⟨_,rfl⟩;rw [<-hr];by_cases h:a.s=b.s/\a.L=b.L
 . have h1:=ve7 (Γ:=Γ) a.s a.L b.s b.L (by omega) (by omega);rw [decide_eq_true h] at h1;have h2:=ve7 (Γ:=Γ) a.t a.M b.t b.M (by omega) (by omega)
   have e:decide (a.t=b.t/\a.M=b.M)=r:=by
    rw [hr];apply decide_eq_decide.2;constructor
    . intro h';cases a;cases b;simp at h h';simp [h,h']
    . intro h';rw [h'];exact ⟨rfl,rfl⟩
   rw [e] at h2;refine CallsD.run [] Go.Proofs.Tryz.func48 rfl rfl rfl ?_;simp only [Go.Proofs.Tryz.f48];refine hgR ?_
   first | refine wml h1 ?_ | refine ysi h1 ?_
   refine hg ?_
   first | refine wml h2 ?_ | refine ysi h2 ?_
   refine hg ?_;exact (.one (.refl _))
 . have h1:=ve7 (Γ:=Γ) a.s a.L b.s b.L (by omega) (by omega);rw [decide_eq_false h] at h1
   have e:r=false:=by rw [hr,decide_eq_false (fun e=>h (by rw [e];exact ⟨rfl,rfl⟩))]
   subst e;refine CallsD.run [] Go.Proofs.Tryz.func48 rfl rfl rfl ?_;simp only [Go.Proofs.Tryz.f48];refine hgR ?_
   first | refine wml h1 ?_ | refine ysi h1 ?_
   refine hg ?_;exact (.one (.refl _))
theorem wma (n:Int) (hn:inI n):CallsD Γ prog 37 [.one (.raw (.int .i64 n))] (.agg (Fc.of (n:Rat)).C):=by
 have h1:=cOfZ (Γ:=Γ) 1 (by decide);rw [show sg 1=1 from rfl] at h1;refine CallsD.run [] Go.Proofs.Tryz.func37 rfl rfl rfl ?_;simp only [Go.Proofs.Tryz.f37];refine hgR ?_
 first | refine wml (cOfZ n hn) ?_ | refine ysi (cOfZ n hn) ?_
 refine hg ?_
 first | refine wml h1 ?_ | refine ysi h1 ?_
 refine hg ?_;exact (.one (.refl _))
end Go.Hp.T
namespace Go.Slot
open Go Go.RowKit Go.Slot.T
structure Sc where
 low:Fc
 high:Fc
namespace Sc
def C (s:Sc):List Cell:=[.raw (.int .i64 s.low.s),.ints .i64 s.low.L,.raw (.int .i64 s.low.t),.ints .i64 s.low.M,.raw (.int .i64 s.high.s),.ints .i64 s.high.L,.raw (.int .i64 s.high.t),.ints .i64 s.high.M]
theorem C_eq {s:Sc}:s.C=[.raw (.int .i64 s.low.s),.ints .i64 s.low.L,.raw (.int .i64 s.low.t),.ints .i64 s.low.M,.raw (.int .i64 s.high.s),.ints .i64 s.high.L,.raw (.int .i64 s.high.t),.ints .i64 s.high.M]:=_root_.id rfl
def ok (s:Sc):Prop:=s.low.ok/\s.high.ok/\Fc.cmp s.low s.high<=0
instance (s:Sc):Decidable s.ok:=inferInstanceAs (Decidable (_/\_))
def zero:Sc:=⟨Fc.zero,Fc.zero⟩
theorem ya3:zero.low=Fc.zero:=_root_.id rfl
theorem ym1:zero.high=Fc.zero:=_root_.id rfl
def sz (s:Sc):Nat:=max s.low.sz s.high.sz
instance:DecidableEq Sc:=fun a b=>decidable_of_iff (a.low=b.low/\a.high=b.high) ⟨fun h=>by cases a;cases b;simp at h;simp [h],fun h=>by rw [h];exact ⟨rfl,rfl⟩⟩
def has (s:Sc) (f:Fc):Prop:=s.ok/\f.ok/\Fc.cmp s.low f<=0/\Fc.cmp f s.high<=0
instance (s:Sc) (f:Fc):Decidable (s.has f):=inferInstanceAs (Decidable (_/\_))
def inside (a b:Sc):Prop:=a.ok/\b.ok/\Fc.cmp b.low a.low<=0/\Fc.cmp a.high b.high<=0
instance (a b:Sc):Decidable (a.inside b):=inferInstanceAs (Decidable (_/\_))
def width (s:Sc):Fc:=if s.ok then Fc.sub s.high s.low else Fc.zero
def add (a b:Sc):Sc:=if a.ok/\b.ok then ⟨Fc.add a.low b.low,Fc.add a.high b.high⟩ else zero
def zwy (f:Fc):Sc:=if f.ok then ⟨f,f⟩ else zero
def least:Fc->List Fc->Fc
 | m,[]=>m
 | m,x::r=>least (if Fc.cmp x m<0 then x else m) r
def viq:Fc->List Fc->Fc
 | m,[]=>m
 | m,x::r=>viq (if Fc.cmp x m > 0 then x else m) r
def wm5 (l:List Fc):Sc:=⟨least (l.getD 0 Fc.zero) (l.drop 1),viq (l.getD 0 Fc.zero) (l.drop 1)⟩
def mul (a b:Sc):Sc:=if a.ok/\b.ok then wm5 [Fc.mul a.low b.low,Fc.mul a.low b.high,Fc.mul a.high b.low,Fc.mul a.high b.high] else zero
theorem v0h {s:Sc} {n:Nat} (h:s.sz<=n):s.low.sz<=n/\s.high.sz<=n:=by unfold sz at h;omega
end Sc
theorem rowF {l:List Fc} {i:Nat} (h:i<l.length):(l.map Fc.C).getD i []=(l.getD i Fc.zero).C:=by
 simp [h]
theorem rowS {l:List Sc} {i:Nat} (h:i<l.length):(l.map Sc.C).getD i []=(l.getD i Sc.zero).C:=by
 simp [h]
attribute [go_sem] Sc.C_eq rowF rowS Sc.ya3 Sc.ym1
def idxF {α:Type} (p:α->Bool):List α->Int->Int
 | [],_=>-1
 | f::r,i=>if p f=true then i else idxF p r (i+1)
theorem z9z {α:Type} (p:α->Bool):∀(l:List α) (i:Int),0<=i->decide (0<=idxF p l i)=l.any p
 | [],i,_=>by simp [idxF]
 | f::r,i,h=>by
  unfold idxF;by_cases hp:p f=true
  . rw [if_pos hp,List.any_cons,hp,decide_eq_true h];rfl
  . have hp':p f=false:=by simpa using hp
    rw [if_neg hp,z9z p r (i+1) (by omega),List.any_cons,hp',Bool.false_or]
theorem drop_cons {α:Type} {l:List α} {i:Nat} (d:α) (h:i<l.length):l.drop i=l.getD i d::l.drop (i+1):=by
 rw [List.drop_eq_getElem_cons h];simp [h]
end Go.Slot
namespace Go.Hp.T
open Go Go.RowKit Go.Slot Go.Hp Go.Slot.T
open Go.Proofs.Tryz (prog)
attribute [local irreducible] hide RH
set_option maxRecDepth 10000
set_option maxHeartbeats 8000000
variable {Γ:List (Nat×List Cell)}
theorem znq (f:Fc) (h:f.sz<=268435456) (hb:f.ok):CallsD Γ prog 44 [.agg f.C] (.one (.raw (.bool true))):=by
 have:=yg0 (Γ:=Γ) f h
 rwa [decide_eq_true hb] at this
theorem z0s (g:FuncId) (p:Fc->Bool) (l:List Fc) (hl:l.length<=1099511627776) (hgg:∀ i,i<l.length->CallsD Γ prog g [.agg (l.getD i Fc.zero).C] (.one (.raw (.bool (p (l.getD i Fc.zero)))))) :
 CallsD Γ prog 84 [.one (.sl 4 (l.map Fc.C)),.one (.raw (.func (.func g) #[] #[]))] (.one (.raw (.int .i64 (idxF p l 0)))):=by
 refine CallsD.run [] Go.Proofs.Tryz.func84 rfl rfl rfl ?_;simp only [Go.Proofs.Tryz.f84];refine hgR ?_;refine x20 [0,1,7] (fun i:Nat=>[(8,.one (.dat (cI (i))))]) (fun _=>[]) (fun i=>i<=l.length/\idxF p l 0=idxF p (l.drop i) i) (fun i=>l.length-i) 0 ⟨Nat.zero_le _,rfl⟩ ?_ ?_
 . refine hg ?_;exact StH.same svl rfl
 rintro i ⟨hi,he⟩;refine hg ?_;refine vt2 (fun h _=>?_) (fun h _=>?_)
 . have hd:=drop_cons (l:=l) Fc.zero (show i<l.length by omega);rw [hd] at he;refine hg ?_
   first | refine wml (hgg i (by omega)) ?_ | refine ysi (hgg i (by omega)) ?_
   refine hg ?_;refine zub (fun h1=>?_) (fun h1=>?_)
   . refine hg ?_;rw [he];unfold idxF;rw [if_pos h1];exact .one (.refl _)
   . refine hg ?_;refine ⟨i+1,⟨by omega,?_⟩,by omega,StH.same svl rfl⟩;rw [he]
     conv=>lhs;unfold idxF
     rw [if_neg (show ¬p (l.getD i Fc.zero)=true by rw [h1];decide)];rfl
 . have hi':i=l.length:=by omega
   rw [hi',List.drop_length] at he;refine hg ?_;exact (by rw [he];exact .one (.refl _))
theorem xmx (g:FuncId) (p:Fc->Bool) (l:List Fc) (hl:l.length<=1099511627776) (hgg:∀ i,i<l.length->CallsD Γ prog g [.agg (l.getD i Fc.zero).C] (.one (.raw (.bool (p (l.getD i Fc.zero)))))) :
 CallsD Γ prog 46 [.one (.sl 4 (l.map Fc.C)),.one (.raw (.func (.func g) #[] #[]))] (.one (.raw (.bool (l.any p)))):=by
 rw [<-z9z p l 0 (by decide)];refine CallsD.run [] Go.Proofs.Tryz.func46 rfl rfl rfl ?_;simp only [Go.Proofs.Tryz.f46];refine hgR ?_
 first | refine wml (z0s g p l hl hgg) ?_ | refine ysi (z0s g p l hl hgg) ?_
 refine hg ?_;exact (.one (.refl _))
theorem vli (g:FuncId) (p:Sc->Bool) (l:List Sc) (hl:l.length<=1099511627776) (hgg:∀ i,i<l.length->CallsD Γ prog g [.agg (l.getD i Sc.zero).C] (.one (.raw (.bool (p (l.getD i Sc.zero)))))) :
 CallsD Γ prog 115 [.one (.sl 8 (l.map Sc.C)),.one (.raw (.func (.func g) #[] #[]))] (.one (.raw (.int .i64 (idxF p l 0)))):=by
 refine CallsD.run [] Go.Proofs.Tryz.func115 rfl rfl rfl ?_;simp only [Go.Proofs.Tryz.f115];refine hgR ?_;refine x20 [0,1,7] (fun i:Nat=>[(8,.one (.dat (cI (i))))]) (fun _=>[]) (fun i=>i<=l.length/\idxF p l 0=idxF p (l.drop i) i) (fun i=>l.length-i) 0 ⟨Nat.zero_le _,rfl⟩ ?_ ?_
 . refine hg ?_;exact StH.same svl rfl
 rintro i ⟨hi,he⟩;refine hg ?_;refine vt2 (fun h _=>?_) (fun h _=>?_)
 . have hd:=drop_cons (l:=l) Sc.zero (show i<l.length by omega);rw [hd] at he;refine hg ?_
   first | refine wml (hgg i (by omega)) ?_ | refine ysi (hgg i (by omega)) ?_
   refine hg ?_;refine zub (fun h1=>?_) (fun h1=>?_)
   . refine hg ?_;rw [he];unfold idxF;rw [if_pos h1];exact .one (.refl _)
   . refine hg ?_;refine ⟨i+1,⟨by omega,?_⟩,by omega,StH.same svl rfl⟩;rw [he]
     conv=>lhs;unfold idxF
     rw [if_neg (show ¬p (l.getD i Sc.zero)=true by rw [h1];decide)];rfl
 . have hi':i=l.length:=by omega
   rw [hi',List.drop_length] at he;refine hg ?_;exact (by rw [he];exact .one (.refl _))
theorem zd4 (g:FuncId) (p:Sc->Bool) (l:List Sc) (hl:l.length<=1099511627776) (hgg:∀ i,i<l.length->CallsD Γ prog g [.agg (l.getD i Sc.zero).C] (.one (.raw (.bool (p (l.getD i Sc.zero)))))) :
 CallsD Γ prog 70 [.one (.sl 8 (l.map Sc.C)),.one (.raw (.func (.func g) #[] #[]))] (.one (.raw (.bool (l.any p)))):=by
 rw [<-z9z p l 0 (by decide)];refine CallsD.run [] Go.Proofs.Tryz.func70 rfl rfl rfl ?_;simp only [Go.Proofs.Tryz.f70];refine hgR ?_
 first | refine wml (vli g p l hl hgg) ?_ | refine ysi (vli g p l hl hgg) ?_
 refine hg ?_;exact (.one (.refl _))
theorem wtx (l:List Fc) (h0:0<l.length) (hl:l.length<=1048576) (hs:∀ f∈l,f.sz<=67108864) :
 CallsD Γ prog 189 [.one (.sl 4 (l.map Fc.C)),.one (.raw (.func (.func 36) #[] #[]))] (.agg (Sc.least (l.getD 0 Fc.zero) (l.drop 1)).C):=by
 have hmem:∀ i,i<l.length->(l.getD i Fc.zero).sz<=67108864:=fun i hi=>hs _ (by simp [hi])
 refine CallsD.run [] Go.Proofs.Tryz.func189 rfl rfl rfl ?_;simp only [Go.Proofs.Tryz.f189];refine hgR ?_;refine vt2 (fun h _=>absurd h (by omega)) (fun _ _=>?_);refine hg ?_;refine x20 [0,1,4,5] (fun x:Nat×Fc=>[(6,.one (.dat (cI (x.1))))]) (fun x=>[.box [.dat (cI 0),.dat .zc,.dat (cI 0),.dat .zc] (some 34),.box [.dat (.raw (.int .i64 x.2.s)),.dat (.ints .i64 x.2.L),.dat (.raw (.int .i64 x.2.t)),.dat (.ints .i64 x.2.M)] (some 34)]) (fun x=>x.1<=l.length/\1<=x.1/\x.2.sz<=67108864/\Sc.least (l.getD 0 Fc.zero) (l.drop 1)=Sc.least x.2 (l.drop x.1)) (fun x=>l.length-x.1) (1,l.getD 0 Fc.zero) ⟨h0,Nat.le_refl _,hmem 0 h0,rfl⟩ ?_ ?_
 . refine hg ?_;exact StH.same svl rfl
 rintro ⟨i,m⟩ ⟨hi,hi1,hm,he⟩;simp only at hi hi1 hm he;refine hg ?_;refine vt2 (fun h _=>?_) (fun h _=>?_)
 . rw [drop_cons Fc.zero (show i<l.length by omega)] at he;refine hg ?_
   first | refine wml (vwg (l.getD i Fc.zero) m (hmem i (by omega)) hm) ?_ | refine ysi (vwg (l.getD i Fc.zero) m (hmem i (by omega)) hm) ?_
   refine hg ?_;refine hik ?_;refine hg ?_;refine vt2 (fun h1 _=>?_) (fun h1 _=>?_)
   . refine hg ?_;refine ⟨(i+1,l.getD i Fc.zero),⟨by dsimp only;omega,by dsimp only;omega,hmem i (by omega),?_⟩,by dsimp only;omega,StH.same svl rfl⟩
     rw [he];conv=>lhs;unfold Sc.least
     rw [if_pos h1]
   . refine hg ?_;refine ⟨(i+1,m),⟨by dsimp only;omega,by dsimp only;omega,hm,?_⟩,by dsimp only;omega,StH.same svl rfl⟩
     rw [he];conv=>lhs;unfold Sc.least
     rw [if_neg h1]
 . have hi':i=l.length:=by omega
   rw [hi',List.drop_length] at he;refine hg ?_;exact (by rw [he];exact .one (.refl _))
theorem x0t (l:List Fc) (h0:0<l.length) (hl:l.length<=1048576) (hs:∀ f∈l,f.sz<=67108864) :
 CallsD Γ prog 190 [.one (.sl 4 (l.map Fc.C)),.one (.raw (.func (.func 36) #[] #[]))] (.agg (Sc.viq (l.getD 0 Fc.zero) (l.drop 1)).C):=by
 have hmem:∀ i,i<l.length->(l.getD i Fc.zero).sz<=67108864:=fun i hi=>hs _ (by simp [hi])
 refine CallsD.run [] Go.Proofs.Tryz.func190 rfl rfl rfl ?_;simp only [Go.Proofs.Tryz.f190];refine hgR ?_;refine vt2 (fun h _=>absurd h (by omega)) (fun _ _=>?_);refine hg ?_;refine x20 [0,1,4,5] (fun x:Nat×Fc=>[(6,.one (.dat (cI (x.1))))]) (fun x=>[.box [.dat (cI 0),.dat .zc,.dat (cI 0),.dat .zc] (some 34),.box [.dat (.raw (.int .i64 x.2.s)),.dat (.ints .i64 x.2.L),.dat (.raw (.int .i64 x.2.t)),.dat (.ints .i64 x.2.M)] (some 34)]) (fun x=>x.1<=l.length/\1<=x.1/\x.2.sz<=67108864/\Sc.viq (l.getD 0 Fc.zero) (l.drop 1)=Sc.viq x.2 (l.drop x.1)) (fun x=>l.length-x.1) (1,l.getD 0 Fc.zero) ⟨h0,Nat.le_refl _,hmem 0 h0,rfl⟩ ?_ ?_
 . refine hg ?_;exact StH.same svl rfl
 rintro ⟨i,m⟩ ⟨hi,hi1,hm,he⟩;simp only at hi hi1 hm he;refine hg ?_;refine vt2 (fun h _=>?_) (fun h _=>?_)
 . rw [drop_cons Fc.zero (show i<l.length by omega)] at he;refine hg ?_
   first | refine wml (vwg (l.getD i Fc.zero) m (hmem i (by omega)) hm) ?_ | refine ysi (vwg (l.getD i Fc.zero) m (hmem i (by omega)) hm) ?_
   refine hg ?_;refine hik ?_;refine hg ?_;refine vt2 (fun h1 _=>?_) (fun h1 _=>?_)
   . refine hg ?_;refine ⟨(i+1,l.getD i Fc.zero),⟨by dsimp only;omega,by dsimp only;omega,hmem i (by omega),?_⟩,by dsimp only;omega,StH.same svl rfl⟩
     rw [he];conv=>lhs;unfold Sc.viq
     rw [if_pos h1]
   . refine hg ?_;refine ⟨(i+1,m),⟨by dsimp only;omega,by dsimp only;omega,hm,?_⟩,by dsimp only;omega,StH.same svl rfl⟩
     rw [he];conv=>lhs;unfold Sc.viq
     rw [if_neg h1]
 . have hi':i=l.length:=by omega
   rw [hi',List.drop_length] at he;refine hg ?_;exact (by rw [he];exact .one (.refl _))
theorem zyb:AV.Le (.agg [.raw (.int .i64 0),.zc,.raw (.int .i64 0),.zc,.raw (.int .i64 0),.zc,.raw (.int .i64 0),.zc]) (.agg Sc.zero.C):=
 .agg (.cons (.refl _) (.cons (.zud _) (.cons (.refl _) (.cons (.zud _) (.cons (.refl _) (.cons (.zud _) (.cons (.refl _) (.cons (.zud _) .nil))))))))
theorem wcl (s:Sc) (h:s.sz<=67108864):CallsD Γ prog 35 [.agg s.C] (.one (.raw (.bool (decide s.ok)))):=by
 have ⟨hl,hh⟩:=Sc.v0h h;by_cases h1:s.low.ok
 . by_cases h2:s.high.ok
   . rw [show decide s.ok=decide (Fc.cmp s.low s.high<=0) from decide_eq_decide.2 ⟨fun h=>h.2.2,fun h=>⟨h1,h2,h⟩⟩];refine CallsD.run [] Go.Proofs.Tryz.func35 rfl rfl rfl ?_;simp only [Go.Proofs.Tryz.f35];refine hgR ?_
     first | refine wml (znq s.low (by omega) h1) ?_ | refine ysi (znq s.low (by omega) h1) ?_
     refine hg ?_
     first | refine wml (znq s.high (by omega) h2) ?_ | refine ysi (znq s.high (by omega) h2) ?_
     refine hg ?_
     first | refine wml (vwg s.low s.high hl hh) ?_ | refine ysi (vwg s.low s.high hl hh) ?_
     refine hg ?_;exact (.one (.refl _))
   . rw [decide_eq_false (fun h=>h2 h.2.1)];refine CallsD.run [] Go.Proofs.Tryz.func35 rfl rfl rfl ?_;simp only [Go.Proofs.Tryz.f35];refine hgR ?_
     first | refine wml (znq s.low (by omega) h1) ?_ | refine ysi (znq s.low (by omega) h1) ?_
     refine hg ?_
     first | refine wml (zd1 s.high (by omega) h2) ?_ | refine ysi (zd1 s.high (by omega) h2) ?_
     refine hg ?_;exact (.one (.refl _))
 . rw [decide_eq_false (fun h=>h1 h.1)];refine CallsD.run [] Go.Proofs.Tryz.func35 rfl rfl rfl ?_;simp only [Go.Proofs.Tryz.f35];refine hgR ?_
   first | refine wml (zd1 s.low (by omega) h1) ?_ | refine ysi (zd1 s.low (by omega) h1) ?_
   refine hg ?_;exact (.one (.refl _))
theorem zp1 (s:Sc) (h:s.sz<=67108864) (hb:s.ok):CallsD Γ prog 35 [.agg s.C] (.one (.raw (.bool true))):=by
 have:=wcl (Γ:=Γ) s h
 rwa [decide_eq_true hb] at this
theorem zgb (s:Sc) (h:s.sz<=67108864) (hb:¬s.ok):CallsD Γ prog 35 [.agg s.C] (.one (.raw (.bool false))):=by
 have:=wcl (Γ:=Γ) s h
 rwa [decide_eq_false hb] at this
theorem wb6 (s:Sc) (f:Fc) (h:s.sz<=67108864) (hf:f.sz<=67108864):CallsD Γ prog 150 [.agg s.C,.agg f.C] (.one (.raw (.bool (decide (s.has f))))):=by
 have ⟨hl,hh⟩:=Sc.v0h h;obtain ⟨r,hr⟩:∃ r,r=decide (s.has f):=⟨_,rfl⟩;rw [<-hr]
 have bad:¬s.has f->r=false:=fun h=>by rw [hr,decide_eq_false h]
 by_cases h1:s.ok
 . by_cases h2:f.ok
   . have hc1:=vwg (Γ:=Γ) s.low f hl hf;have hc2:=vwg (Γ:=Γ) f s.high hf hh;refine CallsD.run [] Go.Proofs.Tryz.func150 rfl rfl rfl ?_;simp only [Go.Proofs.Tryz.f150];refine hgR ?_
     first | refine wml (zp1 s h h1) ?_ | refine ysi (zp1 s h h1) ?_
     refine hg ?_
     first | refine wml (znq f (by omega) h2) ?_ | refine ysi (znq f (by omega) h2) ?_
     refine hg ?_
     first | refine wml hc1 ?_ | refine ysi hc1 ?_
     refine hg ?_;refine ywj (fun h3 _=>?_) (fun h3 _=>?_)
     . have h3':=decide_eq_true h3;refine hg1 @h3' ?_
       first | refine wml hc2 ?_ | refine ysi hc2 ?_
       refine hg ?_
       have e:decide (Fc.cmp f s.high<=0)=r:=by rw [hr];exact decide_eq_decide.2 ⟨fun h=>⟨h1,h2,h3,h⟩,fun h=>h.2.2.2⟩
       exact (by rw [e];exact .one (.refl _))
     . have h3':=decide_eq_false h3;refine hg1 @h3' ?_;exact (by rw [bad (fun h=>h3 h.2.2.1)];exact .one (.refl _))
   . rw [bad (fun h=>h2 h.2.1)];refine CallsD.run [] Go.Proofs.Tryz.func150 rfl rfl rfl ?_;simp only [Go.Proofs.Tryz.f150];refine hgR ?_
     first | refine wml (zp1 s h h1) ?_ | refine ysi (zp1 s h h1) ?_
     refine hg ?_
     first | refine wml (zd1 f (by omega) h2) ?_ | refine ysi (zd1 f (by omega) h2) ?_
     refine hg ?_;exact (.one (.refl _))
 . rw [bad (fun h=>h1 h.1)];refine CallsD.run [] Go.Proofs.Tryz.func150 rfl rfl rfl ?_;simp only [Go.Proofs.Tryz.f150];refine hgR ?_
   first | refine wml (zgb s h h1) ?_ | refine ysi (zgb s h h1) ?_
   refine hg ?_;exact (.one (.refl _))
theorem v31 (a b:Sc) (ha:a.sz<=67108864) (hb:b.sz<=67108864):CallsD Γ prog 12 [.agg a.C,.agg b.C] (.one (.raw (.bool (decide (a.inside b))))):=by
 have ⟨hal,hah⟩:=Sc.v0h ha;have ⟨hbl,hbh⟩:=Sc.v0h hb;obtain ⟨r,hr⟩:∃ r,r=decide (a.inside b):=⟨_,rfl⟩;rw [<-hr]
 have bad:¬a.inside b->r=false:=fun h=>by rw [hr,decide_eq_false h]
 by_cases h1:a.ok
 . by_cases h2:b.ok
   . have hc1:=vwg (Γ:=Γ) b.low a.low hbl hal;have hc2:=vwg (Γ:=Γ) a.high b.high hah hbh;refine CallsD.run [] Go.Proofs.Tryz.func12 rfl rfl rfl ?_;simp only [Go.Proofs.Tryz.f12];refine hgR ?_
     first | refine wml (zp1 a ha h1) ?_ | refine ysi (zp1 a ha h1) ?_
     refine hg ?_
     first | refine wml (zp1 b hb h2) ?_ | refine ysi (zp1 b hb h2) ?_
     refine hg ?_
     first | refine wml hc1 ?_ | refine ysi hc1 ?_
     refine hg ?_;refine ywj (fun h3 _=>?_) (fun h3 _=>?_)
     . have h3':=decide_eq_true h3;refine hg1 @h3' ?_
       first | refine wml hc2 ?_ | refine ysi hc2 ?_
       refine hg ?_
       have e:decide (Fc.cmp a.high b.high<=0)=r:=by rw [hr];exact decide_eq_decide.2 ⟨fun h=>⟨h1,h2,h3,h⟩,fun h=>h.2.2.2⟩
       exact (by rw [e];exact .one (.refl _))
     . have h3':=decide_eq_false h3;refine hg1 @h3' ?_;exact (by rw [bad (fun h=>h3 h.2.2.1)];exact .one (.refl _))
   . rw [bad (fun h=>h2 h.2.1)];refine CallsD.run [] Go.Proofs.Tryz.func12 rfl rfl rfl ?_;simp only [Go.Proofs.Tryz.f12];refine hgR ?_
     first | refine wml (zp1 a ha h1) ?_ | refine ysi (zp1 a ha h1) ?_
     refine hg ?_
     first | refine wml (zgb b hb h2) ?_ | refine ysi (zgb b hb h2) ?_
     refine hg ?_;exact (.one (.refl _))
 . rw [bad (fun h=>h1 h.1)];refine CallsD.run [] Go.Proofs.Tryz.func12 rfl rfl rfl ?_;simp only [Go.Proofs.Tryz.f12];refine hgR ?_
   first | refine wml (zgb a ha h1) ?_ | refine ysi (zgb a ha h1) ?_
   refine hg ?_;exact (.one (.refl _))
theorem zwv (s:Sc) (h:s.sz<=67108864):CallsD Γ prog 39 [.agg s.C] (.agg (Sc.width s).C):=by
 have ⟨hl,hh⟩:=Sc.v0h h;by_cases h1:s.ok
 . rw [show Sc.width s=Fc.sub s.high s.low from if_pos h1];refine CallsD.run [] Go.Proofs.Tryz.func39 rfl rfl rfl ?_;simp only [Go.Proofs.Tryz.f39];refine hgR ?_
   first | refine wml (zp1 s h h1) ?_ | refine ysi (zp1 s h h1) ?_
   refine hg ?_
   first | refine wml (yjd s.high s.low hh hl) ?_ | refine ysi (yjd s.high s.low hh hl) ?_
   refine hg ?_;exact (.one (.refl _))
 . rw [show Sc.width s=Fc.zero from if_neg h1];refine CallsD.run [] Go.Proofs.Tryz.func39 rfl rfl rfl ?_;simp only [Go.Proofs.Tryz.f39];refine hgR ?_
   first | refine wml (zgb s h h1) ?_ | refine ysi (zgb s h h1) ?_
   refine hg ?_;exact vvw
theorem xby (f:Fc) (h:f.sz<=67108864):CallsD Γ prog 178 [.agg f.C] (.agg f.C):=by
 have ⟨h1,h2⟩:=szL h;refine CallsD.run [] Go.Proofs.Tryz.func178 rfl rfl rfl ?_;simp only [Go.Proofs.Tryz.f178];refine hgR ?_
 first | refine wml (vxv f.L (by omega)) ?_ | refine ysi (vxv f.L (by omega)) ?_
 refine hg ?_
 first | refine wml (vxv f.M (by omega)) ?_ | refine ysi (vxv f.M (by omega)) ?_
 refine hg ?_;refine hik ?_;refine hg ?_;exact (.one (.refl _))
theorem xa0 (f:Fc) (h:f.sz<=67108864):CallsD Γ prog 148 [.agg f.C] (.agg (Sc.zwy f).C):=by
 by_cases h1:f.ok
 . rw [show Sc.zwy f=⟨f,f⟩ from if_pos h1];refine CallsD.run [] Go.Proofs.Tryz.func148 rfl rfl rfl ?_;simp only [Go.Proofs.Tryz.f148];refine hgR ?_
   first | refine wml (znq f (by omega) h1) ?_ | refine ysi (znq f (by omega) h1) ?_
   refine hg ?_
   first | refine wml (xby f h) ?_ | refine ysi (xby f h) ?_
   refine hg ?_
   first | refine wml (xby f h) ?_ | refine ysi (xby f h) ?_
   refine hg ?_;refine hik ?_;refine hg ?_;exact (.one (.refl _))
 . rw [show Sc.zwy f=Sc.zero from if_neg h1];refine CallsD.run [] Go.Proofs.Tryz.func148 rfl rfl rfl ?_;simp only [Go.Proofs.Tryz.f148];refine hgR ?_
   first | refine wml (zd1 f (by omega) h1) ?_ | refine ysi (zd1 f (by omega) h1) ?_
   refine hg ?_;exact (.one zyb)
theorem ybf (a b:Sc) (ha:a.sz<=67108864) (hb:b.sz<=67108864):CallsD Γ prog 151 [.agg a.C,.agg b.C] (.tup [.agg (Sc.add a b).C,.one (.raw (.int .i64 (Fc.er (a.ok/\b.ok))))]):=by
 have ⟨hal,hah⟩:=Sc.v0h ha;have ⟨hbl,hbh⟩:=Sc.v0h hb;by_cases h1:a.ok
 . by_cases h2:b.ok
   . rw [Fc.wop ⟨h1,h2⟩,show Sc.add a b=⟨Fc.add a.low b.low,Fc.add a.high b.high⟩ from if_pos ⟨h1,h2⟩];refine CallsD.run [] Go.Proofs.Tryz.func151 rfl rfl rfl ?_;simp only [Go.Proofs.Tryz.f151];refine hgR ?_
     first | refine wml (zp1 a ha h1) ?_ | refine ysi (zp1 a ha h1) ?_
     refine hg ?_
     first | refine wml (zp1 b hb h2) ?_ | refine ysi (zp1 b hb h2) ?_
     refine hg ?_
     first | refine wml (wza a.low b.low hal hbl) ?_ | refine ysi (wza a.low b.low hal hbl) ?_
     refine hg ?_
     first | refine wml (wza a.high b.high hah hbh) ?_ | refine ysi (wza a.high b.high hah hbh) ?_
     refine hg ?_;exact (.tup (.cons (.refl _) (.cons (.refl _) .nil)))
   . rw [Fc.w7p (fun h=>h2 h.2),show Sc.add a b=Sc.zero from if_neg (fun h=>h2 h.2)];refine CallsD.run [] Go.Proofs.Tryz.func151 rfl rfl rfl ?_;simp only [Go.Proofs.Tryz.f151];refine hgR ?_
     first | refine wml (zp1 a ha h1) ?_ | refine ysi (zp1 a ha h1) ?_
     refine hg ?_
     first | refine wml (zgb b hb h2) ?_ | refine ysi (zgb b hb h2) ?_
     refine hg ?_;exact (.tup (.cons zyb (.cons (.refl _) .nil)))
 . rw [Fc.w7p (fun h=>h1 h.1),show Sc.add a b=Sc.zero from if_neg (fun h=>h1 h.1)];refine CallsD.run [] Go.Proofs.Tryz.func151 rfl rfl rfl ?_;simp only [Go.Proofs.Tryz.f151];refine hgR ?_
   first | refine wml (zgb a ha h1) ?_ | refine ysi (zgb a ha h1) ?_
   refine hg ?_;exact (.tup (.cons zyb (.cons (.refl _) .nil)))
theorem zwb (a b:Fc) (ha:a.sz<=67108864) (hb:b.sz<=67108864):CallsD Γ prog 180 [.agg a.C,.agg b.C] (.agg (Fc.mul a b).C):=by
 refine CallsD.run [] Go.Proofs.Tryz.func180 rfl rfl rfl ?_;simp only [Go.Proofs.Tryz.f180];refine hgR ?_
 first | refine wml (zu5 a b ha hb) ?_ | refine ysi (zu5 a b ha hb) ?_
 refine hg ?_;exact (.one (.refl _))
theorem xij:∀(l:List Fc) (m:Fc),Sc.least m l∈m::l
 | [],m=>by simp [Sc.least]
 | x::r,m=>by
  have h0:=xij r (if Fc.cmp x m<0 then x else m);show Sc.least (if Fc.cmp x m<0 then x else m) r∈_;by_cases hc:Fc.cmp x m<0
  . rw [if_pos hc] at h0 ⊢;exact List.mem_cons_of_mem _ h0
  . rw [if_neg hc] at h0 ⊢
    rcases List.mem_cons.1 h0 with h | h
    . rw [h];exact List.mem_cons_self
    . exact List.mem_cons_of_mem _ (List.mem_cons_of_mem _ h)
theorem vzy:∀(l:List Fc) (m:Fc),Sc.viq m l∈m::l
 | [],m=>by simp [Sc.viq]
 | x::r,m=>by
  have h0:=vzy r (if Fc.cmp x m > 0 then x else m);show Sc.viq (if Fc.cmp x m > 0 then x else m) r∈_;by_cases hc:Fc.cmp x m > 0
  . rw [if_pos hc] at h0 ⊢;exact List.mem_cons_of_mem _ h0
  . rw [if_neg hc] at h0 ⊢
    rcases List.mem_cons.1 h0 with h | h
    . rw [h];exact List.mem_cons_self
    . exact List.mem_cons_of_mem _ (List.mem_cons_of_mem _ h)
theorem vmm {l:List Fc} {n:Nat} (h0:0<l.length) (hs:∀ f∈l,f.sz<=n):(Sc.wm5 l).low.sz<=n/\(Sc.wm5 l).high.sz<=n:=by
 have e:l=l.getD 0 Fc.zero::l.drop 1:=drop_cons (i:=0) Fc.zero h0;refine ⟨hs _ ?_,hs _ ?_⟩
 . rw [e];exact xij _ _
 . rw [e];exact vzy _ _
theorem wgg (l:List Fc) (h0:0<l.length) (hl:l.length<=1048576) (hs:∀ f∈l,f.sz<=67108864):CallsD Γ prog 179 [.one (.sl 4 (l.map Fc.C))] (.agg (Sc.wm5 l).C):=by
 have ⟨h1,h2⟩:=vmm h0 hs;refine CallsD.run [] Go.Proofs.Tryz.func179 rfl rfl rfl ?_;simp only [Go.Proofs.Tryz.f179];refine hgR ?_
 first | refine wml (wtx l h0 hl hs) ?_ | refine ysi (wtx l h0 hl hs) ?_
 refine hg ?_
 first | refine wml (xby (Sc.wm5 l).low h1) ?_ | refine ysi (xby (Sc.wm5 l).low h1) ?_
 refine hg ?_
 first | refine wml (x0t l h0 hl hs) ?_ | refine ysi (x0t l h0 hl hs) ?_
 refine hg ?_
 first | refine wml (xby (Sc.wm5 l).high h2) ?_ | refine ysi (xby (Sc.wm5 l).high h2) ?_
 refine hg ?_;exact (.one (.refl _))
theorem zua (a b:Sc) (ha:a.sz<=33554432) (hb:b.sz<=33554432):CallsD Γ prog 153 [.agg a.C,.agg b.C] (.tup [.agg (Sc.mul a b).C,.one (.raw (.int .i64 (Fc.er (a.ok/\b.ok))))]):=by
 have ⟨hal,hah⟩:=Sc.v0h ha;have ⟨hbl,hbh⟩:=Sc.v0h hb;by_cases h1:a.ok
 . by_cases h2:b.ok
   . rw [Fc.wop ⟨h1,h2⟩,show Sc.mul a b=Sc.wm5 [Fc.mul a.low b.low,Fc.mul a.low b.high,Fc.mul a.high b.low,Fc.mul a.high b.high] from if_pos ⟨h1,h2⟩];have s1:=Fc.z5x a.low b.low;have s2:=Fc.z5x a.low b.high;have s3:=Fc.z5x a.high b.low;have s4:=Fc.z5x a.high b.high
     have hA:=wgg (Γ:=Γ) [Fc.mul a.low b.low,Fc.mul a.low b.high,Fc.mul a.high b.low,Fc.mul a.high b.high] (by simp) (by simp) (fun f hf=>by
      simp only [List.mem_cons,List.not_mem_nil,or_false] at hf
      rcases hf with rfl | rfl | rfl | rfl<;>omega)
     refine CallsD.run [] Go.Proofs.Tryz.func153 rfl rfl rfl ?_;simp only [Go.Proofs.Tryz.f153];refine hgR ?_
     first | refine wml (zp1 a (by omega) h1) ?_ | refine ysi (zp1 a (by omega) h1) ?_
     refine hg ?_
     first | refine wml (zp1 b (by omega) h2) ?_ | refine ysi (zp1 b (by omega) h2) ?_
     refine hg ?_
     first | refine wml (zwb a.low b.low (by omega) (by omega)) ?_ | refine ysi (zwb a.low b.low (by omega) (by omega)) ?_
     refine hg ?_
     first | refine wml (zwb a.low b.high (by omega) (by omega)) ?_ | refine ysi (zwb a.low b.high (by omega) (by omega)) ?_
     refine hg ?_
     first | refine wml (zwb a.high b.low (by omega) (by omega)) ?_ | refine ysi (zwb a.high b.low (by omega) (by omega)) ?_
     refine hg ?_
     first | refine wml (zwb a.high b.high (by omega) (by omega)) ?_ | refine ysi (zwb a.high b.high (by omega) (by omega)) ?_
     refine hg ?_
     first | refine wml hA ?_ | refine ysi hA ?_
     refine hg ?_;refine hik ?_;refine hg ?_;exact (.tup (.cons (.refl _) (.cons (.refl _) .nil)))
   . rw [Fc.w7p (fun h=>h2 h.2),show Sc.mul a b=Sc.zero from if_neg (fun h=>h2 h.2)];refine CallsD.run [] Go.Proofs.Tryz.func153 rfl rfl rfl ?_;simp only [Go.Proofs.Tryz.f153];refine hgR ?_
     first | refine wml (zp1 a (by omega) h1) ?_ | refine ysi (zp1 a (by omega) h1) ?_
     refine hg ?_
     first | refine wml (zgb b (by omega) h2) ?_ | refine ysi (zgb b (by omega) h2) ?_
     refine hg ?_;exact (.tup (.cons zyb (.cons (.refl _) .nil)))
 . rw [Fc.w7p (fun h=>h1 h.1),show Sc.mul a b=Sc.zero from if_neg (fun h=>h1 h.1)];refine CallsD.run [] Go.Proofs.Tryz.func153 rfl rfl rfl ?_;simp only [Go.Proofs.Tryz.f153];refine hgR ?_
   first | refine wml (zgb a (by omega) h1) ?_ | refine ysi (zgb a (by omega) h1) ?_
   refine hg ?_;exact (.tup (.cons zyb (.cons (.refl _) .nil)))
end Go.Hp.T
namespace Go.Slot
open Go Go.RowKit Go.Slot.T
structure Af where
 c:Fc
 l:List Fc
def oks (l:List Fc):Prop:=∀ f∈l,f.ok
instance (l:List Fc):Decidable (oks l):=inferInstanceAs (Decidable (∀ f∈l,f.ok))
theorem y4q {f:Fc} {l:List Fc}:oks (f::l)↔f.ok/\oks l:=⟨fun h=>⟨h f (by simp),fun g hg=>h g (by simp [hg])⟩,fun h g hg=>by
 rcases List.mem_cons.1 hg with rfl | hg
 . exact h.1
 . exact h.2 g hg⟩
theorem zbr:∀(l:List Fc),(l.any fun f=>!decide f.ok) = !decide (oks l)
 | []=>by simp [oks]
 | f::l=>by
  rw [List.any_cons,zbr l,decide_eq_decide.2 y4q,Bool.decide_and,Bool.not_and]
namespace Af
def C (a:Af):List Cell:=[.raw (.int .i64 a.c.s),.ints .i64 a.c.L,.raw (.int .i64 a.c.t),.ints .i64 a.c.M,.sl 4 (a.l.map Fc.C)]
theorem C_eq {a:Af}:a.C=[.raw (.int .i64 a.c.s),.ints .i64 a.c.L,.raw (.int .i64 a.c.t),.ints .i64 a.c.M,.sl 4 (a.l.map Fc.C)]:=_root_.id rfl
def ok (a:Af) (n:Nat):Prop:=a.l.length=n/\a.c.ok/\oks a.l
instance (a:Af) (n:Nat):Decidable (a.ok n):=inferInstanceAs (Decidable (_/\_))
def zero:Af:=⟨Fc.zero,[]⟩
def le (a:Af) (n:Nat):Prop:=a.c.sz<=n/\∀ f∈a.l,f.sz<=n
def sum:Fc->List Fc->List Fc->Fc
 | s,c::cs,v::vs=>sum (Fc.add s (Fc.mul c v)) cs vs
 | s,_,_=>s
def copy (f:Fc):Fc:=Fc.add f (Fc.of 0)
def at' (a:Af) (v:List Fc):Fc:=if a.ok v.length/\oks v then sum (copy a.c) a.l v else Fc.zero
def each (op:Fc->Fc->Fc) (a b:Af):Af:=⟨op a.c b.c,List.zipWith op a.l b.l⟩
def times (a:Af) (f:Fc):Af:=if a.ok a.l.length/\f.ok then each (fun x _=>Fc.mul x f) a a else zero
end Af
attribute [go_sem] Af.C_eq
end Go.Slot
