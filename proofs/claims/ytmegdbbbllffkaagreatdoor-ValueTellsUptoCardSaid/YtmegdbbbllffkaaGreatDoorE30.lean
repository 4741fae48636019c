/- The proof, part E30: Fc, Fd, Ig. -/
import Derived.Test.YtmegdbbbllffkaaGreatDoorE29
import Derived.Test.YtmegdbbbllffkaaGreatDoorE26
namespace Go.Slot.T
open Go Go.RowKit Go.Slot
open Go.Proofs.Tryz (prog)
set_option maxRecDepth 10000
set_option maxHeartbeats 4000000
theorem zb4 (a b:Fc) (ha:a.sz<=67108864) (hb:b.sz<=67108864) :
 yn2 prog 127 [.agg a.C,.agg b.C] (.tup [.agg (Fc.sub a b).C,.one (.raw (.int .i64 (Fc.er (a.ok/\b.ok))))]):=by
 by_cases h1:a.ok
 . by_cases h2:b.ok
   . rw [Fc.v2c ⟨h1,h2⟩];obtain ⟨x,rfl⟩:=Fc.xst h1;obtain ⟨y,rfl⟩:=Fc.xst h2;have lx:=szO ha;have ly:=szO hb;have hA:=wnb (Fc.of x) (Fc.of (-y)) ha (by rw [Fc.wr7];exact hb);rw [Fc.v2c ⟨Fc.zav _,Fc.zav _⟩,Fc.vfs,<-Rat.sub_eq_add_neg] at hA;rw [Fc.v62];refine yn2.run [] Go.Proofs.Tryz.func127 rfl rfl ?_;simp only [Go.Proofs.Tryz.f127];refine rgR ?_;refine v1h (w4o x (by omega)) ?_;refine rg ?_;refine v1h (w4o y (by omega)) ?_;refine rg ?_;refine v1h (yvd y.num (by unfold okZ;omega)) ?_;refine rg ?_;refine v1h hA ?_;refine rg ?_;refine indk (by kernel_rfl) ?_;refine rg ?_;exact ⟨_,rfl,.tup (.cons (.refl _) (.cons (.refl _) .nil))⟩
   . rw [Fc.zab (fun h=>h2 h.2),show Fc.sub a b=Fc.zero from Fc.zmk (fun h=>h2 h.2)];obtain ⟨x,rfl⟩:=Fc.xst h1;refine yn2.run [] Go.Proofs.Tryz.func127 rfl rfl ?_;simp only [Go.Proofs.Tryz.f127];refine rgR ?_;refine v1h (w4o x (by omega)) ?_;refine rg ?_;refine v1h (yx8 b (by omega) h2) ?_;refine rg ?_;exact ⟨_,rfl,.tup (.cons xxc (.cons (.refl _) .nil))⟩
 . rw [Fc.zab (fun h=>h1 h.1),show Fc.sub a b=Fc.zero from Fc.zmk (fun h=>h1 h.1)];refine yn2.run [] Go.Proofs.Tryz.func127 rfl rfl ?_;simp only [Go.Proofs.Tryz.f127];refine rgR ?_;refine v1h (yx8 a (by omega) h1) ?_;refine rg ?_;exact ⟨_,rfl,.tup (.cons xxc (.cons (.refl _) .nil))⟩
theorem xxk (a b:Fc) (ha:a.sz<=67108864) (hb:b.sz<=67108864) :
 yn2 prog 16 [.agg a.C,.agg b.C] (.tup [.agg (Fc.mul a b).C,.one (.raw (.int .i64 (Fc.er (a.ok/\b.ok))))]):=by
 by_cases h1:a.ok
 . by_cases h2:b.ok
   . rw [Fc.v2c ⟨h1,h2⟩];obtain ⟨x,rfl⟩:=Fc.xst h1;obtain ⟨y,rfl⟩:=Fc.xst h2;have lx:=szO ha;have ly:=szO hb;have l1:=wm8 x.num y.num;have l4:=ysr x.den y.den;rw [Fc.ymd,Rat.mul_def'];refine yn2.run [] Go.Proofs.Tryz.func16 rfl rfl ?_;simp only [Go.Proofs.Tryz.f16];refine rgR ?_;refine v1h (w4o x (by omega)) ?_;refine rg ?_;refine v1h (w4o y (by omega)) ?_;refine rg ?_;refine v1h (xhe x.num y.num (by unfold okZ;omega) (by unfold okZ;omega)) ?_;refine rg ?_;refine v1h (xdb x.den y.den x.den_nz y.den_nz (by omega) (by omega)) ?_;refine rg ?_;refine v1h (xph (x.num*y.num) (x.den*y.den) (by unfold okZ;omega) (Nat.mul_ne_zero x.den_nz y.den_nz) (by omega)) ?_;refine rg ?_;refine indk (by kernel_rfl) ?_;refine rg ?_;exact ⟨_,rfl,.tup (.cons (.refl _) (.cons (.refl _) .nil))⟩
   . rw [Fc.zab (fun h=>h2 h.2),show Fc.mul a b=Fc.zero from Fc.zmk (fun h=>h2 h.2)];obtain ⟨x,rfl⟩:=Fc.xst h1;refine yn2.run [] Go.Proofs.Tryz.func16 rfl rfl ?_;simp only [Go.Proofs.Tryz.f16];refine rgR ?_;refine v1h (w4o x (by omega)) ?_;refine rg ?_;refine v1h (yx8 b (by omega) h2) ?_;refine rg ?_;exact ⟨_,rfl,.tup (.cons xxc (.cons (.refl _) .nil))⟩
 . rw [Fc.zab (fun h=>h1 h.1),show Fc.mul a b=Fc.zero from Fc.zmk (fun h=>h1 h.1)];refine yn2.run [] Go.Proofs.Tryz.func16 rfl rfl ?_;simp only [Go.Proofs.Tryz.f16];refine rgR ?_;refine v1h (yx8 a (by omega) h1) ?_;refine rg ?_;exact ⟨_,rfl,.tup (.cons xxc (.cons (.refl _) .nil))⟩
theorem zrw (a b:Fc) (ha:a.sz<=67108864) (hb:b.sz<=67108864) :
 yn2 prog 130 [.agg a.C,.agg b.C] (.one (.raw (.int .i64 (Fc.cmp a b)))):=by
 by_cases h1:a.ok
 . by_cases h2:b.ok
   . obtain ⟨x,rfl⟩:=Fc.xst h1;obtain ⟨y,rfl⟩:=Fc.xst h2;have lx:=szO ha;have ly:=szO hb;have l1:=wm8 x.num y.den;have l2:=wm8 y.num x.den;rw [Int.natAbs_natCast] at l1 l2;rw [Fc.ysh,<-Fc.vi3];refine yn2.run [] Go.Proofs.Tryz.func130 rfl rfl ?_;simp only [Go.Proofs.Tryz.f130];refine rgR ?_;refine v1h (w4o x (by omega)) ?_;refine rg ?_;refine v1h (w4o y (by omega)) ?_;refine rg ?_;refine v1h (wvq x.num y.den (by unfold okZ;omega) y.den_nz (by omega)) ?_;refine rg ?_;refine v1h (wvq y.num x.den (by unfold okZ;omega) x.den_nz (by omega)) ?_;refine rg ?_;refine v1h (x7n (x.num*y.den) (y.num*x.den) (by unfold okZ;omega) (by unfold okZ;omega)) ?_;refine rg ?_;refine indk (by kernel_rfl) ?_;refine rg ?_;exact ⟨_,rfl,.one (.refl _)⟩
   . rw [show Fc.cmp a b=0 from if_neg (fun h=>h2 h.2)];obtain ⟨x,rfl⟩:=Fc.xst h1;refine yn2.run [] Go.Proofs.Tryz.func130 rfl rfl ?_;simp only [Go.Proofs.Tryz.f130];refine rgR ?_;refine v1h (w4o x (by omega)) ?_;refine rg ?_;refine v1h (yx8 b (by omega) h2) ?_;refine rg ?_;exact ⟨_,rfl,.one (.refl _)⟩
 . rw [show Fc.cmp a b=0 from if_neg (fun h=>h1 h.1)];refine yn2.run [] Go.Proofs.Tryz.func130 rfl rfl ?_;simp only [Go.Proofs.Tryz.f130];refine rgR ?_;refine v1h (yx8 a (by omega) h1) ?_;refine rg ?_;exact ⟨_,rfl,.one (.refl _)⟩
theorem zkz (x:Int) (hx:okZ x):yn2 prog 204 [.agg [.raw (.int .i64 (sg x)),.ints .i64 (dig x.natAbs)]] (.agg [.raw (.int .i64 (sg x)),.ints .i64 (dig x.natAbs)]):=by
 have hx':okZ (-x):=by unfold okZ;rw [Int.natAbs_neg];exact hx
 have h2:=yvd (-x) hx';rw [Int.neg_neg] at h2;refine yn2.run [] Go.Proofs.Tryz.func204 rfl rfl ?_;simp only [Go.Proofs.Tryz.f204];refine rgR ?_;refine v1h (yvd x hx) ?_;refine rg ?_;refine v1h h2 ?_;refine rg ?_;exact ⟨_,rfl,.one (.refl _)⟩
theorem wt2 (d:Nat) (hd:d≠0) (hl:(dig d).length<=268435456):yn2 prog 204 [.agg [.raw (.int .i64 1),.ints .i64 (dig d)]] (.agg [.raw (.int .i64 1),.ints .i64 (dig d)]):=by
 have:=zkz (d:Int) hl
 rw [wwm hd] at this;exact this
theorem xmd (x y:Rat) (s:Int) (hs:-1<=s/\s<=1) (ha:(Fc.of x).sz<=67108864) (hb:(Fc.of y).sz<=67108864) :
 yn2 prog 173 [.agg (Fc.of x).C,.agg (Fc.of y).C,.one (.raw (.int .i64 s))] (.tup [.agg (Fc.of (if Fc.ordQ x y*s<0 then y else x)).C,.one (.raw (.int .i64 0))]):=by
 have lx:=szO ha;have ly:=szO hb;have hc:=zrw (Fc.of x) (Fc.of y) ha hb;rw [Fc.ysh] at hc
 have hr:-1<=Fc.ordQ x y*s/\Fc.ordQ x y*s<=1:=by
  rcases Fc.ygb x y with ⟨_,e⟩ | ⟨_,e⟩ | ⟨_,e⟩<;>rw [e]<;>omega
 refine yn2.run [] Go.Proofs.Tryz.func173 rfl rfl ?_;simp only [Go.Proofs.Tryz.f173];refine rgR ?_;refine v1h (w4o x (by omega)) ?_;refine rg ?_;refine v1h (w4o y (by omega)) ?_;refine rg ?_;refine v1h hc ?_;refine rg ?_;refine z08 (fun h=>?_) (fun h=>?_)
 . rw [if_pos h];refine rg ?_;refine v1h (zkz y.num (by unfold okZ;omega)) ?_;refine rg ?_;refine v1h (wt2 y.den y.den_nz (by omega)) ?_;refine rg ?_;refine indk (by kernel_rfl) ?_;refine rg ?_;exact ⟨_,rfl,.tup (.cons (.refl _) (.cons (.refl _) .nil))⟩
 . rw [if_neg h];refine rg ?_;refine v1h (zkz x.num (by unfold okZ;omega)) ?_;refine rg ?_;refine v1h (wt2 x.den x.den_nz (by omega)) ?_;refine rg ?_;refine indk (by kernel_rfl) ?_;refine rg ?_;exact ⟨_,rfl,.tup (.cons (.refl _) (.cons (.refl _) .nil))⟩
theorem xwz (a b:Fc) (s:Int) (h:¬(a.ok/\b.ok)) (ha:a.sz<=67108864) (hb:b.sz<=67108864) :
 yn2 prog 173 [.agg a.C,.agg b.C,.one (.raw (.int .i64 s))] (.tup [.agg Fc.zero.C,.one (.raw (.int .i64 1))]):=by
 by_cases h1:a.ok
 . have h2:¬b.ok:=fun h2=>h ⟨h1,h2⟩
   obtain ⟨x,rfl⟩:=Fc.xst h1;refine yn2.run [] Go.Proofs.Tryz.func173 rfl rfl ?_;simp only [Go.Proofs.Tryz.f173];refine rgR ?_;refine v1h (w4o x (by omega)) ?_;refine rg ?_;refine v1h (yx8 b (by omega) h2) ?_;refine rg ?_;exact ⟨_,rfl,.tup (.cons xxc (.cons (.refl _) .nil))⟩
 . refine yn2.run [] Go.Proofs.Tryz.func173 rfl rfl ?_;simp only [Go.Proofs.Tryz.f173];refine rgR ?_;refine v1h (yx8 a (by omega) h1) ?_;refine rg ?_;exact ⟨_,rfl,.tup (.cons xxc (.cons (.refl _) .nil))⟩
theorem vdh (a b:Fc) (ha:a.sz<=67108864) (hb:b.sz<=67108864) :
 yn2 prog 129 [.agg a.C,.agg b.C] (.tup [.agg (Fc.maxf a b).C,.one (.raw (.int .i64 (Fc.er (a.ok/\b.ok))))]):=by
 by_cases h:a.ok/\b.ok
 . rw [Fc.v2c h];obtain ⟨x,rfl⟩:=Fc.xst h.1;obtain ⟨y,rfl⟩:=Fc.xst h.2;have hE:=xmd x y 1 (by decide) ha hb
   have e:(if Fc.ordQ x y*1<0 then y else x)=max x y:=by
    rw [Rat.max_def]
    rcases Fc.ygb x y with ⟨h,e⟩ | ⟨h,e⟩ | ⟨h,e⟩<;>rw [e]
    . rw [if_pos (by decide),if_pos (Rat.le_of_lt h)]
    . rw [if_neg (by decide),if_pos (by rw [h];exact Rat.le_refl),h]
    . rw [if_neg (by decide),if_neg (fun h'=>Rat.not_le.2 h h')]
   rw [e] at hE;rw [Fc.vq2];refine yn2.run [] Go.Proofs.Tryz.func129 rfl rfl ?_;simp only [Go.Proofs.Tryz.f129];refine rgR ?_;refine v1h hE ?_;refine rg ?_;exact ⟨_,rfl,.tup (.cons (.refl _) (.cons (.refl _) .nil))⟩
 . rw [Fc.zab h,show Fc.maxf a b=Fc.zero from Fc.zmk h];have hE:=xwz a b 1 h ha hb;refine yn2.run [] Go.Proofs.Tryz.func129 rfl rfl ?_;simp only [Go.Proofs.Tryz.f129];refine rgR ?_;refine v1h hE ?_;refine rg ?_;exact ⟨_,rfl,.tup (.cons (.refl _) (.cons (.refl _) .nil))⟩
instance:DecidableEq Fc:=fun a b=>decidable_of_iff (a.s=b.s/\a.L=b.L/\a.t=b.t/\a.M=b.M) ⟨fun h=>by cases a;cases b;simp at h;simp [h],fun h=>by rw [h];exact ⟨rfl,rfl,rfl,rfl⟩⟩
theorem x4e (n:Int) (hn:inI n):yn2 prog 39 [.one (.raw (.int .i64 n))] (.agg (Fc.of (n:Rat)).C):=by
 have h1:=cOf 1 (by decide);rw [show sg 1=1 from rfl] at h1;refine yn2.run [] Go.Proofs.Tryz.func39 rfl rfl ?_;simp only [Go.Proofs.Tryz.f39];refine rgR ?_;refine v1h (cOf n hn) ?_;refine rg ?_;refine v1h h1 ?_;refine rg ?_;exact ⟨_,rfl,.one (.refl _)⟩
end Go.Slot.T
namespace Go.Hp.T
open Go Go.RowKit Go.Slot Go.Hp Go.Slot.T
open Go.Proofs.Tryz (prog)
set_option maxRecDepth 10000
set_option maxHeartbeats 4000000
variable {Γ:List (Nat×List Cell)}
abbrev zC (z:Int):List Cell:=[.raw (.int .i64 (sg z)),.ints .i64 (dig z.natAbs)]
theorem y67 (z:Int) (d:Nat) (hz:okZ z) (hd:d≠0) (hl:(dig d).length<=268435456):CallsD Γ prog 43 [.agg (zC z),.agg (zC d)] (.tup [.agg (Fc.of (Rat.divInt z d)).C,.one (cI 0)]):=by
 have:=toD (Γ:=Γ) (xph z d hz hd hl)
 rw [Rat.divInt_ofNat];unfold zC;rw [wwm hd];exact this
theorem wfo (z:Int) (d:Nat) (hz:okZ z) (hd:d≠0) (hl:(dig d).length<=268435456):CallsD Γ prog 43 [.agg (zC z),.agg (zC (-(d:Int)))] (.tup [.agg (Fc.of (Rat.divInt z (-(d:Int)))).C,.one (cI 0)]):=by
 have hdd:okZ (-(d:Int)):=by unfold okZ;rw [show (-(d:Int)).natAbs=d by omega];exact hl
 have hzz:okZ (-z):=by unfold okZ at hz ⊢;rw [Int.natAbs_neg];exact hz
 have hdz:okZ (d:Int):=hl;have hs:sg (-(d:Int)) = -1:=xxz (by omega);have hgp:0<(Int.gcd (-z) d:Int):=(zr2 (-z) hd).2.2;obtain ⟨p1,p2,p3⟩:=zr2 (-z) hd;have hden:=w2p (mkRat (-z) d);rw [p2] at hden
 have hgl:okZ (Int.gcd (-z) d:Int):=by
  have:(Int.gcd (-z) d:Int).natAbs<=d:=by
   have:Int.gcd (-z) d ∣ d:=by have:=Int.gcd_dvd_natAbs_right (-z) d;simpa using this
   exact Nat.le_of_dvd (Nat.pos_of_ne_zero hd) this
  exact Nat.le_trans (wxv this) hl
 have hn1:=yvd z hz;have hn2:=yvd (-(d:Int)) hdd;rw [Int.neg_neg,hs,wwm hd] at hn2;have hr:=zcq (-(d:Int)) hdd;rw [hs] at hr;have hg:=xuv (-z) d hzz hdz;have hd1:=vjt (-z) (Int.gcd (-z) d:Int) hzz hgl hgp;have hd2:=vjt d (Int.gcd (-z) d:Int) hdz hgl hgp;rw [wwm hd] at hg hd2;rw [hden] at hd2
 have hden2:(mkRat (-z) d).den=((d:Int) / (Int.gcd (-z) d:Int)).natAbs:=by omega
 have hfin:(Fc.of (Rat.divInt z (-(d:Int)))).C=[.raw (.int .i64 (sg (-z / (Int.gcd (-z) d:Int)))),.ints .i64 (dig (-z / (Int.gcd (-z) d:Int)).natAbs),.raw (.int .i64 1),.ints .i64 (dig ((d:Int) / (Int.gcd (-z) d:Int)).natAbs)]:=by
  rw [Rat.divInt_neg',Rat.divInt_ofNat,<-p1,<-hden2];rfl
 rw [hfin];generalize (Int.gcd (-z) d:Int)=g at *;unfold zC;rw [hs];refine CallsD.run [] Go.Proofs.Tryz.func43 rfl rfl rfl ?_;simp only [Go.Proofs.Tryz.f43];refine hgR ?_
 repeat' ((first | refine hfk ?_ ?_<;>intros | refine hik ?_ | with_reducible first | refine v6l (toD (zcq z hz)) ?_ | refine vgi (toD (zcq z hz)) ?_ | refine v6l (toD hr) ?_ | refine vgi (toD hr) ?_ | refine v6l (toD hn1) ?_ | refine vgi (toD hn1) ?_ | refine v6l (toD hn2) ?_ | refine vgi (toD hn2) ?_ | refine v6l (toD hg) ?_ | refine vgi (toD hg) ?_ | refine v6l (toD hd1) ?_ | refine vgi (toD hd1) ?_ | refine v6l (toD hd2) ?_ | refine vgi (toD hd2) ?_)<;>refine hgS ?_)
 exact RLe.ofEq rfl
theorem yy9 (z q:Int) (hz:okZ z) (hq:q≠0) (hl:okZ q):CallsD Γ prog 43 [.agg (zC z),.agg (zC q)] (.tup [.agg (Fc.of (Rat.divInt z q)).C,.one (cI 0)]):=by
 unfold okZ at hl
 rcases Int.lt_or_gt_of_ne hq with h | h
 . have e:q = -((q.natAbs:Nat):Int):=by omega
   have:=wfo (Γ:=Γ) z q.natAbs hz (by omega) hl
   rw [<-e] at this;exact this
 . have e:((q.natAbs:Nat):Int)=q:=by omega
   have:=y67 (Γ:=Γ) z q.natAbs hz (by omega) hl
   rw [e] at this;exact this
theorem zl0 (p q:Int) (hp:inI p) (hq:inI q) (hq0:q≠0):CallsD Γ prog 87 [.one (cI p),.one (cI q)] (.tup [.agg (Fc.of (Rat.divInt p q)).C,.one (cI 0)]):=by
 have okI:∀ n:Int,inI n->okZ n:=fun n hn=>by
  unfold okZ
  have:=vun (n:=n.natAbs) (by unfold inI at hn;omega)
  omega
 refine CallsD.run [] Go.Proofs.Tryz.func87 rfl rfl rfl ?_;simp only [Go.Proofs.Tryz.f87];refine hgR ?_
 repeat' ((first | refine hfk ?_ ?_<;>intros | refine hik ?_ | with_reducible first | refine v6l (toD (cOf p hp)) ?_ | refine vgi (toD (cOf p hp)) ?_ | refine v6l (toD (cOf q hq)) ?_ | refine vgi (toD (cOf q hq)) ?_ | refine v6l (yy9 p q (okI p hp) hq0 (okI q hq)) ?_ | refine vgi (yy9 p q (okI p hp) hq0 (okI q hq)) ?_)<;>refine hgS ?_)
 exact RLe.ofEq rfl
theorem zgz (x y:Rat):x / y=Rat.divInt (x.num*y.den) (x.den*y.num):=by
 rw [Rat.div_def,Rat.inv_def]
 conv=>lhs;rw [<-Rat.num_divInt_den x]
 rw [Rat.divInt_mul_divInt]
abbrev fQ (x:Rat):List Cell:=[.raw (.int .i64 (sg x.num)),.ints .i64 (dig x.num.natAbs),.raw (.int .i64 1),.ints .i64 (dig x.den)]
abbrev qs (x:Rat):Nat:=(Fc.of x).sz
theorem xib (x:Rat) (h:qs x<=268435456):CallsD Γ prog 26 [.agg (fQ x)] (.one (cB true)):=toD (w4o x h)
theorem qMul (x y:Rat) (hx:qs x<=67108864) (hy:qs y<=67108864):CallsD Γ prog 16 [.agg (fQ x),.agg (fQ y)] (.tup [.agg (fQ (x*y)),.one (cI 0)]):=by
 have:=toD (Γ:=Γ) (xxk (Fc.of x) (Fc.of y) hx hy)
 rw [Fc.ymd,Fc.v2c ⟨Fc.zav x,Fc.zav y⟩] at this;exact this
theorem qInt (n:Int) (hn:inI n):CallsD Γ prog 39 [.one (cI n)] (.agg (fQ (n:Rat))):=toD (x4e n hn)
theorem qOf (p q:Int) (hp:inI p) (hq:inI q) (hq0:q≠0):CallsD Γ prog 87 [.one (cI p),.one (cI q)] (.tup [.agg (fQ (Rat.divInt p q)),.one (cI 0)]):=zl0 p q hp hq hq0
theorem qDiv (x y:Rat) (hy:y≠0) (hx:qs x<=67108864) (hyl:qs y<=67108864):CallsD Γ prog 88 [.agg (fQ x),.agg (fQ y)] (.tup [.agg (fQ (x / y)),.one (cI 0)]):=by
 have lx:=szO hx;have ly:=szO hyl;have l1:=wm8 x.num y.den;have l4:=wm8 (x.den:Int) y.num
 have hyn:y.num≠0:=fun h=>hy (Rat.num_eq_zero.1 h)
 have hsy:sg y.num≠0:=by have:=wzq y.num;omega
 have hD:okZ (x.den:Int):=by unfold okZ;have:=lx.2;simp only [Int.natAbs_natCast];omega
 have hDy:okZ (y.den:Int):=by unfold okZ;have:=ly.2;simp only [Int.natAbs_natCast];omega
 have t1:=xhe x.num y.den (by unfold okZ;omega) hDy;have t2:=xhe (x.den:Int) y.num hD (by unfold okZ;omega);rw [wwm y.den_nz] at t1;rw [wwm x.den_nz] at t2;simp only [Int.natAbs_natCast] at t1 t2;have hden:((x.den:Int)*y.num)≠0:=Int.mul_ne_zero (by have:=x.den_nz;omega) hyn;have hn:=yy9 (Γ:=Γ) (x.num*y.den) (x.den*y.num) (by unfold okZ;simp only [Int.natAbs_natCast] at l1;omega) hden (by unfold okZ;simp only [Int.natAbs_natCast] at l4;omega);rw [zgz];refine CallsD.run [] Go.Proofs.Tryz.func88 rfl rfl rfl ?_;simp only [Go.Proofs.Tryz.f88];refine hgR ?_
 repeat' ((first | refine hfk ?_ ?_<;>intros | refine hik ?_ | with_reducible first | refine hcA ?_ | refine hcB ?_ | refine v6l (xib x (by omega)) ?_ | refine vgi (xib x (by omega)) ?_ | refine v6l (xib y (by omega)) ?_ | refine vgi (xib y (by omega)) ?_ | refine v6l (toD t1) ?_ | refine vgi (toD t1) ?_ | refine v6l (toD t2) ?_ | refine vgi (toD t2) ?_)<;>refine hgS ?_)
 exact RLe.ofEq rfl
end Go.Hp.T
namespace Go.Hp.T
open Go Go.RowKit Go.Slot Go.Hp
set_option maxRecDepth 10000
variable {q b e x:Int} {a f:Rat}
structure Un where
 d:Dm
 f:Rat
abbrev unC (u:Un):List Cell:=[cI u.d.a,cI u.d.b,cI u.d.c,cI u.d.d,cI u.d.e,cI u.d.f,.raw (.int .i64 (sg u.f.num)),.ints .i64 (dig u.f.num.natAbs),.raw (.int .i64 1),.ints .i64 (dig u.f.den)]
abbrev unZ:List Cell:=[cI 0,cI 0,cI 0,cI 0,cI 0,cI 0,cI 0,.zc,cI 0,.zc]
def unO:Option Un->List Cell
 | some u=>unC u
 | none=>unZ
def xkq (b e:Int):Dm:=⟨bif decide (b=0) then e else 0,bif decide (b=1) then e else 0,bif decide (b=2) then e else 0,bif decide (b=3) then e else 0,bif decide (b=4) then e else 0,bif decide (b=5) then e else 0⟩
def unOf (b e p q:Int):Un:=⟨xkq b e,Rat.divInt p q⟩
def symF (s:ByteArray):Option Un:=
 bif seq s ⟨#[103]⟩ then some (unOf 0 1 1 1) else
 bif seq s ⟨#[116]⟩ then some (unOf 0 1 1000000 1) else
 bif seq s ⟨#[109]⟩ then some (unOf 1 1 1 1) else
 bif seq s ⟨#[108]⟩ then some (unOf 1 3 1 1000) else
 bif seq s ⟨#[115]⟩ then some (unOf 2 1 1 1) else
 bif seq s ⟨#[104]⟩ then some (unOf 2 1 3600 1) else
 bif seq s ⟨#[100]⟩ then some (unOf 2 1 86400 1) else
 bif seq s ⟨#[74]⟩ then some (unOf 3 1 1 1) else
 bif seq s ⟨#[87,104]⟩ then some (unOf 3 1 3600 1) else
 bif seq s ⟨#[99,101,110,116]⟩ then some (unOf 4 1 1 1) else
 bif seq s ⟨#[101,117,114]⟩ then some (unOf 4 1 100 1) else
 bif seq s ⟨#[112,99]⟩ then some (unOf 5 1 1 1) else none
def wcs (s:ByteArray) (i:Nat):ByteArray:=s.extract i s.size
def zt0 (s:ByteArray) (i:Nat):ByteArray:=s.extract 0 i
def preF (c:Int):Option (Int×Int):=bif decide (c=107) then some (1000,1) else bif decide (c=77) then some (1000000,1) else bif decide (c=71) then some (1000000000,1) else bif decide (c=109) then some (1,1000) else none
def preO:Option (Int×Int)->Int×Int
 | some p=>p
 | none=>(0,0)
def wem (s:ByteArray):Bool:=seq s ⟨#[103]⟩||seq s ⟨#[109]⟩||seq s ⟨#[108]⟩||seq s ⟨#[115]⟩||seq s ⟨#[74]⟩||seq s ⟨#[87,104]⟩
theorem yxt (s:ByteArray) (i:Nat):(wcs s i).size=s.size-i:=by unfold wcs;simp
theorem v1j (s:ByteArray) (i:Nat) (h:i<=s.size):(zt0 s i).size=i:=by unfold zt0;simp;omega
structure It where
 w:ByteArray
 e:Int
instance:Inhabited It:=⟨⟨⟨#[]⟩,0⟩⟩
def It.C (x:It):List Cell:=[cS x.w,cI x.e]
abbrev itC (x:It):List Cell:=[cS x.w,cI x.e]
theorem It.C_eq (x:It):x.C=itC x:=rfl
attribute [go_sem] It.C_eq
def y6h (s:ByteArray):ByteArray:=wcs s (z1a yio s)
def x6x (s:ByteArray):Bool:=decide (¬(y6h s).size=0)&&decide (50<=x41 (y6h s) 0)&&decide (x41 (y6h s) 0<=57)
def vl9 (s:ByteArray):It:=⟨zt0 s (z1a yio s),bif x6x s then x41 (y6h s) 0-48 else 1⟩
def x9p (s:ByteArray):ByteArray:=bif x6x s then wcs (y6h s) 1 else y6h s
def zr8 (s:ByteArray):Bool:=decide (0<(z1a yio s:Int))
def ykz (s:ByteArray):Option Un:=
 bif (symF s).isSome then symF s else
 bif !(preF (x41 s 0)).isSome||!(symF (wcs s 1)).isSome||!wem (wcs s 1) then none else
 match preF (x41 s 0),symF (wcs s 1) with
 | some p,some u=>some ⟨u.d,u.f*Rat.divInt p.1 p.2⟩
 | _,_=>none
def iter {α:Type} (g:α->α):Nat->α->α
 | 0,a=>a
 | n+1,a=>iter g n (g a)
theorem xp7 {α:Type} (g:α->α):∀(n:Nat) (a:α),iter g (n+1) a=g (iter g n a)
 | 0,_=>rfl
 | n+1,a=>by rw [iter,xp7 g n (g a),iter]
def ymb (a f:Rat) (e:Int):Rat:=bif decide (0<e) then iter (· * f) e.natAbs a else iter (· / f) e.natAbs a
theorem yfd (x y:Rat):qs (x*y)<=qs x+qs y:=Fc.zxl x y
theorem z7q (x:Rat):qs x⁻¹<=qs x+1:=by
 by_cases h:x=0
 . subst h;rw [Rat.inv_zero];exact Nat.le_succ _
 . show (Fc.of x⁻¹).sz<=(Fc.of x).sz+1
   have hn:x.num≠0:=fun e=>h (Rat.num_eq_zero.1 e)
   rw [Fc.xx5,Fc.xx5,Rat.num_inv,Rat.den_inv,if_neg hn]
   have:(x.num.sign*(x.den:Int)).natAbs=x.den:=by
    rw [Int.natAbs_mul,Int.natAbs_sign];simp [hn]
   rw [this];omega
theorem x3w (x y:Rat):qs (x / y)<=qs x+qs y+1:=by
 rw [Rat.div_def]
 have:=yfd x y⁻¹
 have:=z7q y
 omega
def Dm.in03 (d:Dm):Prop:=(0<=d.a/\d.a<=3)/\(0<=d.b/\d.b<=3)/\(0<=d.c/\d.c<=3)/\(0<=d.d/\d.d<=3)/\(0<=d.e/\d.e<=3)/\(0<=d.f/\d.f<=3)
theorem x8s {p:Int} (hp:1<=p/\p<=1000000000) (hq:1<=q/\q<=1000000000):qs (Rat.divInt p q)<=4/\Rat.divInt p q≠0:=by
 obtain ⟨n,rfl⟩:∃ n:Nat,q=n:=⟨q.toNat,by omega⟩;rw [Rat.divInt_ofNat];refine ⟨?_,(Rat.mkRat_ne_zero (by omega)).2 (by omega)⟩
 have:=Fc.x60 p n (by omega)
 have h1:=Slot.T.vun (n:=p.natAbs) (by omega);have h2:=Slot.T.vun (n:=n) (by omega);show (Fc.of _).sz<=4;omega
theorem vgb (he:0<=e/\e<=3):(xkq b e).in03:=by
 have key:∀ p:Bool,0<=(bif p then e else 0)/\(bif p then e else 0)<=3:=fun p=>by cases p<;>simp<;>omega
 exact ⟨key _,key _,key _,key _,key _,key _⟩
theorem zd3 {p:Int} (he:0<=e/\e<=3) (hp:1<=p/\p<=1000000000) (hq:1<=q/\q<=1000000000):(unOf b e p q).d.in03/\qs (unOf b e p q).f<=4/\(unOf b e p q).f≠0:=⟨vgb he,x8s hp hq⟩
theorem xhk {s:ByteArray} {u:Un} (h:symF s=some u):u.d.in03/\qs u.f<=4/\u.f≠0:=by
 unfold symF at h
 repeat' first
  | (cases h;exact zd3 (by omega) (by omega) (by omega))
  | (cases hc:seq s _<;>rw [hc] at h<;>simp only [cond_true,cond_false] at h)
 cases h
theorem zz1 {c:Int} {p:Int×Int} (h:preF c=some p):(1<=p.1/\p.1<=1000000000)/\(1<=p.2/\p.2<=1000000000):=by
 unfold preF at h
 repeat' first
  | (cases h;done)
  | (cases h;simp;done)
  | (cases hc:decide (c=_)<;>rw [hc] at h<;>simp only [cond_true,cond_false] at h)
theorem xk3 {s:ByteArray} {u:Un} (h:ykz s=some u):u.d.in03/\qs u.f<=8/\u.f≠0:=by
 unfold ykz at h
 cases h1:(symF s).isSome with
 | true=>
  rw [h1,cond_true] at h;obtain ⟨a,b,c⟩:=xhk h;exact ⟨a,by omega,c⟩
 | false=>
  rw [h1,cond_false] at h
  cases h2:(!(preF (x41 s 0)).isSome||!(symF (wcs s 1)).isSome||!wem (wcs s 1)) with
  | true=>rw [h2,cond_true] at h;cases h
  | false=>
   rw [h2,cond_false] at h;split at h
   . rename_i p v hp hv
     cases h;obtain ⟨a,b,c⟩:=xhk hv;obtain ⟨d,e⟩:=zz1 hp;obtain ⟨f,g⟩:=x8s d e;refine ⟨a,?_,?_⟩
     . have:=yfd v.f (Rat.divInt p.1 p.2)
       show qs (v.f*_)<=8;omega
     . exact fun h0=>by
        rcases Rat.mul_eq_zero.1 h0 with h0 | h0
        . exact c h0
        . exact g h0
   . cases h
def pw (a f:Rat) (x:Int) (i:Nat):Rat:=bif decide (0<x) then iter (· * f) i a else iter (· / f) i a
theorem wuy (a f:Rat) (x:Int):pw a f x 0=a:=by unfold pw;cases decide (0<x)<;>rfl
theorem xg4 (h:0<x) (i:Nat):pw a f x (i+1)=pw a f x i*f:=by unfold pw;rw [decide_eq_true h];exact xp7 _ _ _
theorem zqi (h:¬0<x) (i:Nat):pw a f x (i+1)=pw a f x i / f:=by unfold pw;rw [decide_eq_false h];exact xp7 _ _ _
theorem zki (a f:Rat) (x:Int):∀ i,qs (pw a f x i)<=qs a+i*(qs f+1)
 | 0=>by rw [wuy];omega
 | i+1=>by
  have ih:=zki a f x i;rw [Nat.add_mul,Nat.one_mul];by_cases h:0<x
  . rw [xg4 h]
    have:=yfd (pw a f x i) f
    omega
  . rw [zqi h]
    have:=x3w (pw a f x i) f
    omega
theorem xbq (a f:Rat) (x:Int):ymb a f x=pw a f x x.natAbs:=rfl
theorem z0m (s:ByteArray):1<=(vl9 s).e/\(vl9 s).e<=9:=by
 unfold vl9
 cases h:x6x s with
 | false=>simp
 | true=>
  simp only [x6x,Bool.and_eq_true,decide_eq_true_eq] at h;simp only [cond_true];omega
theorem x87 (s:ByteArray):(x9p s).size<=s.size:=by
 unfold x9p y6h
 cases x6x s<;>simp only [cond_true,cond_false,yxt]<;>omega
def y5c (c:Int) (x:It):It:=bif decide (c=47) then ⟨x.w,0-x.e⟩ else x
def vhb (s p:ByteArray):Bool:=decide ((p.size:Int)<=s.size)&&seq (zt0 s p.size) p
def ztm (s:ByteArray):ByteArray:=bif vhb s ⟨#[49]⟩ then wcs s 1 else ⟨#[42]⟩++s
def ymw:Nat->ByteArray->List It->Option (List It)
 | 0,_,_=>none
 | n+1,r,acc=>bif decide (r.size=0) then some acc else
  bif !zr8 (wcs r 1)||(decide (¬x41 r 0=42)&&decide (¬x41 r 0=47)) then none else
  ymw n (x9p (wcs r 1)) (acc++[y5c (x41 r 0) (vl9 (wcs r 1))])
def vhi (s:ByteArray):Option (List It):=bif decide (s.size=0) then some [] else bif decide (40<(s.size:Int)) then none else ymw (s.size+2) (ztm s) []
def itO:Option (List It)->List It
 | some l=>l
 | none=>[]
def It.ok (x:It):Prop:=1<=x.w.size/\x.w.size<=1000/\-9<=x.e/\x.e<=9
theorem y7f {r:ByteArray} (h:zr8 r=true) (hr:r.size<=1000) (c:Int):(y5c c (vl9 r)).ok:=by
 have he:=z0m r;have hw:(vl9 r).w.size=z1a yio r:=v1j _ _ (wtz _ _);have hl:=wtz yio r
 have h0:1<=z1a yio r:=by
  have:(0:Int)<(z1a yio r:Int):=by simpa [zr8] using h
  omega
 unfold y5c
 cases decide (c=47)
 . exact ⟨by simp only [cond_false];omega,by simp only [cond_false];omega,by simp only [cond_false];omega,by simp only [cond_false];omega⟩
 . exact ⟨by simp only [cond_true];omega,by simp only [cond_true];omega,by simp only [cond_true];omega,by simp only [cond_true];omega⟩
theorem yev : ∀ (n : Nat) (r : ByteArray) (acc l : List It), ymw n r acc = some l → r.size ≤ 1000 → (∀ x ∈ acc, x.ok) → l.length ≤ acc.length + r.size ∧ ∀ x ∈ l, x.ok
 | 0,_,_,_,h,_,_=>by cases h
 | n + 1, r, acc, l, h, hr, ha => by
  rw [ymw] at h;by_cases h0:r.size=0
  . rw [decide_eq_true h0,cond_true] at h;cases h;exact ⟨by omega,ha⟩
  . rw [decide_eq_false h0, cond_false] at h
    cases hb:(!zr8 (wcs r 1)||(decide (¬x41 r 0=42)&&decide (¬x41 r 0=47))) with
    | true=>rw [hb,cond_true] at h;cases h
    | false=>
     rw [hb,cond_false] at h
     have hok:zr8 (wcs r 1)=true:=by
      cases hc:zr8 (wcs r 1) with
      | true=>rfl
      | false=>rw [hc] at hb;simp at hb
     have hd:=yxt r 1;have hcs:=x87 (wcs r 1)
     obtain ⟨h1,h2⟩:=yev n _ _ _ h (by omega) (fun x hx=>by
      rcases List.mem_append.1 hx with hx | hx
      . exact ha x hx
      . simp at hx;subst hx;exact y7f hok (by omega) _)
     refine ⟨?_,h2⟩;rw [List.length_append,List.length_singleton] at h1;omega
theorem yqi {s : ByteArray} {l : List It} (h : vhi s = some l) : l.length ≤ 41 ∧ ∀ x ∈ l, x.ok := by
 unfold vhi at h;by_cases h0:s.size=0
 . rw [decide_eq_true h0,cond_true] at h;cases h;simp
 . rw [decide_eq_false h0, cond_false] at h;by_cases h1:40<(s.size:Int)
   . rw [decide_eq_true h1,cond_true] at h;cases h
   . rw [decide_eq_false h1,cond_false] at h
     have hsz:(ztm s).size<=s.size+1:=by
      unfold ztm;have h42:(⟨#[42]⟩:ByteArray).size=1:=rfl
      cases vhb s ⟨#[49]⟩
      . simp only [cond_false,ByteArray.size_append];omega
      . simp only [cond_true,yxt];omega
     obtain ⟨a,b⟩:=yev _ _ _ _ h (by omega) (fun x hx=>by cases hx);exact ⟨by simp at a;omega,b⟩
def Dm.acc (x y:Dm) (e:Int):Dm:=⟨x.a+y.a*e,x.b+y.b*e,x.c+y.c*e,x.d+y.d*e,x.e+y.e*e,x.f+y.f*e⟩
def wf3:List It->Un->Option Un
 | [],u=>some u
 | x::l,u=>match ykz x.w with
  | none=>none
  | some v=>wf3 l ⟨u.d.acc v.d x.e,ymb u.f v.f x.e⟩
def zte (s:ByteArray):Option Un×Int:=match vhi s with
 | none=>(none,12)
 | some l=>match wf3 l ⟨Dm.zero,(1:Int)⟩ with
  | none=>(none,11)
  | some u=>bif zmf u.d then (some u,0) else (none,3)
def Dm.le (d:Dm) (n:Int):Prop:=(-n<=d.a/\d.a<=n)/\(-n<=d.b/\d.b<=n)/\(-n<=d.c/\d.c<=n)/\(-n<=d.d/\d.d<=n)/\(-n<=d.e/\d.e<=n)/\(-n<=d.f/\d.f<=n)
theorem yos {a:Int} (ha:0<=a/\a<=3) (he:-9<=e/\e<=9):-27<=a*e/\a*e<=27:=by
 have:a=0\/a=1\/a=2\/a=3:=by omega
 rcases this with rfl | rfl | rfl | rfl<;>omega
theorem Dm.v1r {x y:Dm} {n:Int} (hx:x.le n) (hy:y.in03) (he:-9<=e/\e<=9):(x.acc y e).le (n+27):=by
 obtain ⟨a1,a2,a3,a4,a5,a6⟩:=hx;obtain ⟨b1,b2,b3,b4,b5,b6⟩:=hy;have c1:=yos b1 he;have c2:=yos b2 he;have c3:=yos b3 he;have c4:=yos b4 he;have c5:=yos b5 he;have c6:=yos b6 he;unfold Dm.le Dm.acc;simp only;omega
theorem zn6:qs ((1:Int):Rat)<=1:=by
 show max (dig (1:Nat)).length (dig (1:Nat)).length<=1
 have:=vwv (n:=1) (k:=1) (by decide)
 omega
def dmO:Option Un->Dm
 | some u=>u.d
 | none=>Dm.zero
def fcO (i:Nat):Option Un->Cell
 | some u=>(fQ u.f).getD i .zc
 | none=>[cI 0,.zc,cI 0,.zc].getD i .zc
abbrev unX (o:Option Un):List Cell:=[cI (dmO o).a,cI (dmO o).b,cI (dmO o).c,cI (dmO o).d,cI (dmO o).e,cI (dmO o).f,fcO 0 o,fcO 1 o,fcO 2 o,fcO 3 o]
theorem vtx (o:Option Un):unO o=unX o:=by cases o<;>rfl
end Go.Hp.T
