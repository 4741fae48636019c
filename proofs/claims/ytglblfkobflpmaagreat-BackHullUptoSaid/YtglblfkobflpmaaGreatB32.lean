/- The proof, part B32: Sd, Se, Sp. -/
import Derived.Test.YtglblfkobflpmaaGreatB31
import Derived.Test.YtglblfkobflpmaaGreatB29
import Derived.Test.YtglblfkobflpmaaGreatB30
namespace Go.Hp.T
open Go Go.RowKit Go.Slot Go.Hp Go.Slot.T
open Go.Proofs.Tryz (prog)
attribute [local irreducible] hide RH
set_option maxRecDepth 10000
set_option maxHeartbeats 4000000
variable {Γ:List (Nat×List Cell)}
def ivO:Option Iv->Sc
 | none=>Sc.zero
 | some v=>ivS v
abbrev scC (s:Sc):List Cell:=[.raw (.int .i64 s.low.s),.ints .i64 s.low.L,.raw (.int .i64 s.low.t),.ints .i64 s.low.M,.raw (.int .i64 s.high.s),.ints .i64 s.high.L,.raw (.int .i64 s.high.t),.ints .i64 s.high.M]
abbrev scZ:List Cell:=[cI 0,.zc,cI 0,.zc,cI 0,.zc,cI 0,.zc]
theorem z7t {e:Int}:RLe (.tup [.agg scZ,.one (cI e)]) (.tup [.agg (scC Sc.zero),.one (cI e)]):=.tup (.cons zyb (.cons (.refl _) .nil))
theorem z8z {b:Bool}:RLe (.tup [.agg scZ,.one (cB b)]) (.tup [.agg (scC Sc.zero),.one (cB b)]):=.tup (.cons zyb (.cons (.refl _) .nil))
theorem yyk:qs (0:Rat)<=67108864:=by have:=x11 (n:=0) (by unfold inI;omega);exact Nat.le_trans this (by decide)
theorem xu6:qs ((1:Int):Rat)<=4:=x11 (n:=1) (by unfold inI;omega)
theorem ze3 (a b:Iv) (h:b.has 0=true) (ha:ivZ a<=67108864) (hb:ivZ b<=67108864):CallsD Γ prog 154 [.agg (ivC a),.agg (ivC b)] (.tup [.agg (scC Sc.zero),.one (cI 15)]):=by
 have h1:=yp4 (Γ:=Γ) a ha;have h2:=yp4 (Γ:=Γ) b hb;have h3:=oInt (Γ:=Γ) 0 (by unfold inI;omega);have h4:=iHas (Γ:=Γ) b ((0:Int):Rat) hb yyk;rw [show b.has ((0:Int):Rat)=true from h] at h4;refine CallsD.run [] Go.Proofs.Tryz.func154 rfl rfl rfl ?_;simp only [Go.Proofs.Tryz.f154];refine hgR ?_
 repeat' ((first | refine hfk ?_ ?_<;>intros | refine hik ?_ | with_reducible first | refine wml (h1) ?_ | refine ysi (h1) ?_ | refine wml (h2) ?_ | refine ysi (h2) ?_ | refine wml (h3) ?_ | refine ysi (h3) ?_ | refine wml (h4) ?_ | refine ysi (h4) ?_)<;>refine hgS ?_)
 exact z7t
theorem xxa {b:Iv} (h:b.has 0=false):b.lo≠0/\b.hi≠0:=by
 have:=b.h
 unfold Iv.has at h;constructor
 . intro e;rw [e] at h this;simp [this] at h
 . intro e;rw [e] at h this;simp [this] at h
theorem vwh (a b:Iv) (h:b.has 0=false) (ha:ivZ a<=33554432) (hb:ivZ b<=33554400):CallsD Γ prog 154 [.agg (ivC a),.agg (ivC b)] (ivR (a.mul b.inv)):=by
 have h1:=yp4 (Γ:=Γ) a (by omega);have h2:=yp4 (Γ:=Γ) b (by omega);have h3:=oInt (Γ:=Γ) 0 (by unfold inI;omega);have h4:=iHas (Γ:=Γ) b ((0:Int):Rat) (by omega) yyk;rw [show b.has ((0:Int):Rat)=false from h] at h4;have h5:=oInt (Γ:=Γ) 1 (by unfold inI;omega);have q1:=xu6;have d1:=oDiv (Γ:=Γ) (some ((1:Int):Rat)) (some b.hi) (Nat.le_trans q1 (by omega)) (zhi hb);have d2:=oDiv (Γ:=Γ) (some ((1:Int):Rat)) (some b.lo) (Nat.le_trans q1 (by omega)) (zlo hb)
 have e1:∀ x:Rat,x≠0->divO (some ((1:Int):Rat)) (some x)=some (1 / x)/\divE (some ((1:Int):Rat)) (some x)=0:=fun x hx=>by
  simp only [divO,divE,hx,decide_false,cond_false];exact ⟨rfl,trivial⟩
 obtain ⟨n1,n2⟩:=xxa h;rw [(e1 _ n2).1,(e1 _ n2).2] at d1;rw [(e1 _ n1).1,(e1 _ n1).2] at d2;have e2:b.inv=⟨1 / b.hi,1 / b.lo,Iv.v7v h⟩:=dif_pos h;have s1:=x6h ((1:Int):Rat) b.hi;have s2:=x6h ((1:Int):Rat) b.lo;have m:=iMul (Γ:=Γ) a b.inv ha (by rw [e2];show max (qs (1 / b.hi)) (qs (1 / b.lo))<=_;have s1:qs (1 / b.hi)<=_:=s1;have s2:qs (1 / b.lo)<=_:=s2;have z1:qs b.hi<=33554400:=zhi hb;have z2:qs b.lo<=33554400:=zlo hb;omega);rw [e2] at m ⊢;refine CallsD.run [] Go.Proofs.Tryz.func154 rfl rfl rfl ?_;simp only [Go.Proofs.Tryz.f154];refine hgR ?_
 repeat' ((first | refine hfk ?_ ?_<;>intros | refine hik ?_ | with_reducible first | refine wml (h1) ?_ | refine ysi (h1) ?_ | refine wml (h2) ?_ | refine ysi (h2) ?_ | refine wml (h3) ?_ | refine ysi (h3) ?_ | refine wml (h4) ?_ | refine ysi (h4) ?_ | refine wml (h5) ?_ | refine ysi (h5) ?_ | refine wml (d1) ?_ | refine ysi (d1) ?_ | refine wml (d2) ?_ | refine ysi (d2) ?_ | refine wml (m) ?_ | refine ysi (m) ?_)<;>refine hgS ?_)
 exact RLe.ofEq rfl
theorem vbp (q:Rat) (h:qs q<=67108864):CallsD Γ prog 178 [.agg (qC (some q))] (.agg (qC (some q))):=toD (xby (qF (some q)) h)
theorem zwz (x y:Rat) (hx:qs x<=67108864) (hy:qs y<=67108864):CallsD Γ prog 181 [.agg (qC (some x)),.agg (qC (some y))] (.tup [.agg (qC (some (min x y))),.agg (qC (some (max x y)))]):=by
 have h1:=oCmp (Γ:=Γ) (some x) (some y) hx hy;have h2:=vbp (Γ:=Γ) x hx;have h3:=vbp (Γ:=Γ) y hy;have e:=@vcc x y;by_cases hle:x<=y
 . rw [decide_eq_true hle] at e;have e:=of_decide_eq_true e;rw [show min x y=x by rw [Rat.min_def,if_pos hle],show max x y=y by rw [Rat.max_def,if_pos hle]];have e:cmpO (some x) (some y)<=0:=e;generalize cmpO (some x) (some y)=c at h1 e;refine CallsD.run [] Go.Proofs.Tryz.func181 rfl rfl rfl ?_;simp only [Go.Proofs.Tryz.f181];refine hgR ?_
   repeat' ((first | refine hfk ?_ ?_<;>intros | refine hik ?_ | with_reducible first | refine wml (h1) ?_ | refine ysi (h1) ?_ | refine wml (h2) ?_ | refine ysi (h2) ?_ | refine wml (h3) ?_ | refine ysi (h3) ?_)<;>refine hgS ?_)
   all_goals first
    | (exfalso;omega)
    | exact RLe.ofEq rfl
 . rw [decide_eq_false hle] at e;have e:=of_decide_eq_false e;rw [show min x y=y by rw [Rat.min_def,if_neg hle],show max x y=x by rw [Rat.max_def,if_neg hle]];have e:¬cmpO (some x) (some y)<=0:=e;generalize cmpO (some x) (some y)=c at h1 e;refine CallsD.run [] Go.Proofs.Tryz.func181 rfl rfl rfl ?_;simp only [Go.Proofs.Tryz.f181];refine hgR ?_
   repeat' ((first | refine hfk ?_ ?_<;>intros | refine hik ?_ | with_reducible first | refine wml (h1) ?_ | refine ysi (h1) ?_ | refine wml (h2) ?_ | refine ysi (h2) ?_ | refine wml (h3) ?_ | refine ysi (h3) ?_)<;>refine hgS ?_)
   all_goals first
    | (exfalso;omega)
    | exact RLe.ofEq rfl
theorem iMin (a b:Iv) (ha:ivZ a<=67108864) (hb:ivZ b<=67108864):CallsD Γ prog 155 [.agg (ivC a),.agg (ivC b)] (ivR (a.minI b)):=by
 have h1:=yp4 (Γ:=Γ) a ha;have h2:=yp4 (Γ:=Γ) b hb;have h3:=zwz (Γ:=Γ) a.lo b.lo (zlo ha) (zlo hb);have h4:=zwz (Γ:=Γ) a.hi b.hi (zhi ha) (zhi hb);refine CallsD.run [] Go.Proofs.Tryz.func155 rfl rfl rfl ?_;simp only [Go.Proofs.Tryz.f155];refine hgR ?_
 repeat' ((first | refine hfk ?_ ?_<;>intros | refine hik ?_ | with_reducible first | refine wml (h1) ?_ | refine ysi (h1) ?_ | refine wml (h2) ?_ | refine ysi (h2) ?_ | refine wml (h3) ?_ | refine ysi (h3) ?_ | refine wml (h4) ?_ | refine ysi (h4) ?_)<;>refine hgS ?_)
 exact RLe.ofEq rfl
theorem iMax (a b:Iv) (ha:ivZ a<=67108864) (hb:ivZ b<=67108864):CallsD Γ prog 156 [.agg (ivC a),.agg (ivC b)] (ivR (a.maxI b)):=by
 have h1:=yp4 (Γ:=Γ) a ha;have h2:=yp4 (Γ:=Γ) b hb;have h3:=zwz (Γ:=Γ) a.lo b.lo (zlo ha) (zlo hb);have h4:=zwz (Γ:=Γ) a.hi b.hi (zhi ha) (zhi hb);refine CallsD.run [] Go.Proofs.Tryz.func156 rfl rfl rfl ?_;simp only [Go.Proofs.Tryz.f156];refine hgR ?_
 repeat' ((first | refine hfk ?_ ?_<;>intros | refine hik ?_ | with_reducible first | refine wml (h1) ?_ | refine ysi (h1) ?_ | refine wml (h2) ?_ | refine ysi (h2) ?_ | refine wml (h3) ?_ | refine ysi (h3) ?_ | refine wml (h4) ?_ | refine ysi (h4) ?_)<;>refine hgS ?_)
 exact RLe.ofEq rfl
theorem zqk (a b:Iv) (ha:ivZ a<=67108864) (hb:ivZ b<=67108864):CallsD Γ prog 149 [.agg (ivC a),.agg (ivC b)] (ivR (a.hull b)):=by
 have h1:=yp4 (Γ:=Γ) a ha;have h2:=yp4 (Γ:=Γ) b hb
 have h3:=toD (Γ:=Γ) (wgg [qF (some a.lo),qF (some a.hi),qF (some b.lo),qF (some b.hi)] (Nat.succ_pos _) (show (4:Nat)<=1048576 by decide) (fun f hf=>by
  simp only [List.mem_cons,List.not_mem_nil,or_false] at hf
  rcases hf with rfl | rfl | rfl | rfl
  . exact Nat.le_trans (Nat.le_max_left _ _) ha
  . exact Nat.le_trans (Nat.le_max_right _ _) ha
  . exact Nat.le_trans (Nat.le_max_left _ _) hb
  . exact Nat.le_trans (Nat.le_max_right _ _) hb))
 rw [show Sc.wm5 [qF (some a.lo),qF (some a.hi),qF (some b.lo),qF (some b.hi)]=ivS (a.hull b) from v2d _ _ _ _] at h3;have h3:CallsD Γ prog 179 [.one (.sl 4 [qC (some a.lo),qC (some a.hi),qC (some b.lo),qC (some b.hi)])] (.agg (ivC (a.hull b))):=h3;refine CallsD.run [] Go.Proofs.Tryz.func149 rfl rfl rfl ?_;simp only [Go.Proofs.Tryz.f149];refine hgR ?_
 repeat' ((first | refine hfk ?_ ?_<;>intros | refine hik ?_ | with_reducible first | refine wml (h1) ?_ | refine ysi (h1) ?_ | refine wml (h2) ?_ | refine ysi (h2) ?_ | refine wml (h3) ?_ | refine ysi (h3) ?_)<;>refine hgS ?_)
 exact RLe.ofEq rfl
def Iv.meet (a b:Iv):Option Iv:=if h:max a.lo b.lo<=min a.hi b.hi then some ⟨_,_,h⟩ else none
theorem zjo (a b:Iv) (ha:ivZ a<=67108864) (hb:ivZ b<=67108864):CallsD Γ prog 157 [.agg (ivC a),.agg (ivC b)] (.tup [.agg (scC (ivO (a.meet b))),.one (cB (a.meets b))]):=by
 have h1:=yp4 (Γ:=Γ) a ha;have h2:=yp4 (Γ:=Γ) b hb;have h3:=zwz (Γ:=Γ) a.lo b.lo (zlo ha) (zlo hb);have h4:=zwz (Γ:=Γ) a.hi b.hi (zhi ha) (zhi hb)
 have hs1:qs (max a.lo b.lo)<=67108864:=by rcases xzd a.lo b.lo with e | e<;>rw [e]<;>first | exact zlo ha | exact zlo hb
 have hs2:qs (min a.hi b.hi)<=67108864:=by rcases w8f a.hi b.hi with e | e<;>rw [e]<;>first | exact zhi ha | exact zhi hb
 have h5:=oCmp (Γ:=Γ) (some (max a.lo b.lo)) (some (min a.hi b.hi)) hs1 hs2;have e:=@vcc (max a.lo b.lo) (min a.hi b.hi);by_cases hle:max a.lo b.lo<=min a.hi b.hi
 . rw [decide_eq_true hle] at e;have e:=of_decide_eq_true e;have e:cmpO (some (max a.lo b.lo)) (some (min a.hi b.hi))<=0:=e;rw [show a.meet b=some ⟨_,_,hle⟩ from dif_pos hle,show a.meets b=true from decide_eq_true hle];generalize cmpO (some (max a.lo b.lo)) (some (min a.hi b.hi))=c at h5 e;refine CallsD.run [] Go.Proofs.Tryz.func157 rfl rfl rfl ?_;simp only [Go.Proofs.Tryz.f157];refine hgR ?_
   repeat' ((first | refine hfk ?_ ?_<;>intros | refine hik ?_ | with_reducible first | refine wml (h1) ?_ | refine ysi (h1) ?_ | refine wml (h2) ?_ | refine ysi (h2) ?_ | refine wml (h3) ?_ | refine ysi (h3) ?_ | refine wml (h4) ?_ | refine ysi (h4) ?_ | refine wml (h5) ?_ | refine ysi (h5) ?_)<;>refine hgS ?_)
   all_goals first
    | (exfalso;omega)
    | exact RLe.ofEq rfl
 . rw [decide_eq_false hle] at e;have e:=of_decide_eq_false e;have e:¬cmpO (some (max a.lo b.lo)) (some (min a.hi b.hi))<=0:=e;rw [show a.meet b=none from dif_neg hle,show a.meets b=false from decide_eq_false hle];generalize cmpO (some (max a.lo b.lo)) (some (min a.hi b.hi))=c at h5 e;refine CallsD.run [] Go.Proofs.Tryz.func157 rfl rfl rfl ?_;simp only [Go.Proofs.Tryz.f157];refine hgR ?_
   repeat' ((first | refine hfk ?_ ?_<;>intros | refine hik ?_ | with_reducible first | refine wml (h1) ?_ | refine ysi (h1) ?_ | refine wml (h2) ?_ | refine ysi (h2) ?_ | refine wml (h3) ?_ | refine ysi (h3) ?_ | refine wml (h4) ?_ | refine ysi (h4) ?_ | refine wml (h5) ?_ | refine ysi (h5) ?_)<;>refine hgS ?_)
   all_goals first
    | (exfalso;omega)
    | exact z8z
theorem vr6 (a b:Iv) (ha:ivZ a<=67108864) (hb:ivZ b<=67108864):CallsD Γ prog 158 [.agg (ivC a),.agg (ivC b)] (.one (cB (decide (a=b)))):=by
 have h1:=wpd (Γ:=Γ) (some a.lo) (some b.lo) (zlo ha) (zlo hb);have h2:=wpd (Γ:=Γ) (some a.hi) (some b.hi) (zhi ha) (zhi hb)
 have e:decide (a=b)=(decide (some a.lo=some b.lo)&&decide (some a.hi=some b.hi)):=by
  rw [<-Bool.decide_and];exact decide_eq_decide.2 ⟨fun h=>by rw [h];exact ⟨rfl,rfl⟩,fun h=>Iv.ext' (Option.some.inj h.1) (Option.some.inj h.2)⟩
 rw [e];generalize decide (some a.lo=some b.lo)=c at h1;generalize decide (some a.hi=some b.hi)=d at h2;refine CallsD.run [] Go.Proofs.Tryz.func158 rfl rfl rfl ?_;simp only [Go.Proofs.Tryz.f158];refine hgR ?_
 repeat' ((first | refine hfk ?_ ?_<;>intros | refine hik ?_ | with_reducible first | refine wml (h1) ?_ | refine ysi (h1) ?_ | refine wml (h2) ?_ | refine ysi (h2) ?_)<;>refine hgS ?_)
 all_goals refine lfE ?_;first | exact trivial | rfl
end Go.Hp.T
namespace Go.Hp.T
open Go Go.RowKit Go.Slot Go.Hp Go.Slot.T
set_option maxRecDepth 10000
set_option maxHeartbeats 4000000
inductive Kn where
 | tru (c d:Bool)
 | num (v:Iv)
deriving DecidableEq
instance:Inhabited Kn:=⟨.tru false false⟩
def Kn.t:Kn->Bool
 | .tru _ _=>true
 | .num _=>false
def Kn.c:Kn->Bool
 | .tru c _=>c
 | .num _=>false
def Kn.d:Kn->Bool
 | .tru _ d=>d
 | .num _=>false
def Kn.s:Kn->Sc
 | .tru _ _=>Sc.zero
 | .num v=>ivS v
def Kn.v:Kn->Iv
 | .tru _ _=>default
 | .num v=>v
def Kn.C (k:Kn):List Cell:=cB k.t::cB k.c::cB k.d::scC k.s
abbrev knC (k:Kn):List Cell:=[cB k.t,cB k.c,cB k.d,.raw (.int .i64 k.s.low.s),.ints .i64 k.s.low.L,.raw (.int .i64 k.s.low.t),.ints .i64 k.s.low.M,.raw (.int .i64 k.s.high.s),.ints .i64 k.s.high.L,.raw (.int .i64 k.s.high.t),.ints .i64 k.s.high.M]
theorem Kn.C_eq (k:Kn):k.C=knC k:=_root_.id rfl
theorem Kn.znv {c d:Bool}:(Kn.tru c d).t=true:=_root_.id rfl
theorem Kn.vrn {c d:Bool}:(Kn.tru c d).c=c:=_root_.id rfl
theorem Kn.zmc {c d:Bool}:(Kn.tru c d).d=d:=_root_.id rfl
theorem Kn.yf5 {c d:Bool}:(Kn.tru c d).s=Sc.zero:=_root_.id rfl
theorem Kn.x48 {v:Iv}:(Kn.num v).t=false:=_root_.id rfl
theorem Kn.ydp {v:Iv}:(Kn.num v).c=false:=_root_.id rfl
theorem Kn.x29 {v:Iv}:(Kn.num v).d=false:=_root_.id rfl
theorem Kn.znw {v:Iv}:(Kn.num v).s.low=qF (some v.lo):=_root_.id rfl
theorem Kn.vnm {v:Iv}:(Kn.num v).s.high=qF (some v.hi):=_root_.id rfl
abbrev Kr:=Int ⊕ Kn
instance:Inhabited Kr:=⟨.inl 0⟩
def krE:Kr->Int
 | .inl e=>e
 | .inr _=>0
def krK:Kr->Kn
 | .inl _=>.tru false false
 | .inr k=>k
def krT:Kr->Bool
 | .inl _=>false
 | .inr k=>k.t
theorem xi1 {e:Int}:krE (.inl e)=e:=_root_.id rfl
theorem xag {k:Kn}:krE (.inr k)=0:=_root_.id rfl
theorem z0j {e:Int}:krT (.inl e)=false:=_root_.id rfl
theorem vld {k:Kn}:krT (.inr k)=k.t:=_root_.id rfl
theorem xf3 {e:Int}:krK (.inl e)=.tru false false:=_root_.id rfl
theorem zvy {k:Kn}:krK (.inr k)=k:=_root_.id rfl
attribute [go_sem] Kn.C_eq Kn.znv Kn.vrn Kn.zmc Kn.yf5 Kn.x48 Kn.ydp Kn.x29 Kn.znw Kn.vnm xi1 xag z0j vld xf3 zvy
abbrev krC (r:Kr):List Cell:=[cB (krT r),cB (krK r).c,cB (krK r).d,.raw (.int .i64 (krK r).s.low.s),.ints .i64 (krK r).s.low.L,.raw (.int .i64 (krK r).s.low.t),.ints .i64 (krK r).s.low.M,.raw (.int .i64 (krK r).s.high.s),.ints .i64 (krK r).s.high.L,.raw (.int .i64 (krK r).s.high.t),.ints .i64 (krK r).s.high.M]
abbrev krR (r:Kr):AV:=.tup [.agg (krC r),.one (cI (krE r))]
abbrev krV (r:Kr):SV:=.tup [.agg ((krC r).map .dat),.one (.dat (cI (krE r)))]
abbrev Vi:=List (ByteArray×Iv)
def envI (l:Vi):List (Value×SV):=envM (fun v=>.agg ((ivC v).map .dat)) l
theorem vnw {T:Vi} {s:ByteArray}:yvo (envI T) (.string s)=some ((z2f T s).map fun v=>.agg ((ivC v).map .dat)):=x0f
theorem z2k {T:Vi} {s:ByteArray} {v:Iv}:updM (envI T) (.string s) (.agg [.dat (.raw (.int .i64 (qF (some v.lo)).s)),.dat (.ints .i64 (qF (some v.lo)).L),.dat (.raw (.int .i64 (qF (some v.lo)).t)),.dat (.ints .i64 (qF (some v.lo)).M),.dat (.raw (.int .i64 (qF (some v.hi)).s)),.dat (.ints .i64 (qF (some v.hi)).L),.dat (.raw (.int .i64 (qF (some v.hi)).t)),.dat (.ints .i64 (qF (some v.hi)).M)])=some (envI (updF T s v)):=y5p (C:=fun v=>.agg ((ivC v).map .dat))
attribute [go_sem] vnw z2k
structure Zn where
 name:ByteArray
 s:Sc
instance:Inhabited Zn:=⟨⟨⟨#[]⟩,Sc.zero⟩⟩
def Zn.C (x:Zn):List Cell:=cS x.name::scC x.s
abbrev znC (x:Zn):List Cell:=[cS x.name,.raw (.int .i64 x.s.low.s),.ints .i64 x.s.low.L,.raw (.int .i64 x.s.low.t),.ints .i64 x.s.low.M,.raw (.int .i64 x.s.high.s),.ints .i64 x.s.high.L,.raw (.int .i64 x.s.high.t),.ints .i64 x.s.high.M]
theorem Zn.C_eq (x:Zn):x.C=znC x:=_root_.id rfl
attribute [go_sem] Zn.C_eq
def ivOf (s:Sc):Iv:=if h:s.low.val<=s.high.val then ⟨s.low.val,s.high.val,h⟩ else default
theorem wdg (v:Iv):ivOf (ivS v)=v:=by
 unfold ivOf;have e1:(ivS v).low.val=v.lo:=Fc.xhg _;have e2:(ivS v).high.val=v.hi:=Fc.xhg _;rw [dif_pos (by rw [e1,e2];exact v.h)];exact Iv.ext' e1 e2
abbrev rZ (V:Vi) (l:List Zn):Option Vi:=gE Zn.name (fun b=>decide b.s.ok) (fun b=>ivOf b.s) (fun _=>false) V l
abbrev rTi (V:Vi) (T:Vt) (l:List Tb):Option Vt:=gE Tb.name tbOk id (fun s=>(z2f V s).isSome) T l
abbrev entZ (zs:List Zn) (ms:List Tb):Option (Vi×Vt):=entG Zn.name (fun b=>decide b.s.ok) (fun b=>ivOf b.s) tbOk zs ms
def waw (n:Int) (u:ByteArray):Kr:=bif decide (¬(xx7 u).2=0) then .inl 14 else match mulO (some (n:Rat)) (facO u) with
 | some q=>.inr (.num (Iv.pt q))
 | none=>.inl 14
def veg (V:Vi) (s:ByteArray):Kr:=match z2f V s with
 | none=>.inl 11
 | some v=>.inr (.num v)
def vq6:Kn->Kn->Kr
 | .tru c d,.tru c' d'=>.inr (.tru (c||c') (d||d'))
 | .num a,.num b=>.inr (.num (a.hull b))
 | _,_=>.inl 13
def chH (r0 r1 r2:Kr):Kr:=match r0 with
 | .inl e=>.inl e
 | .inr (.num _)=>.inl 13
 | .inr (.tru c d)=>bif !c then r2 else match r1 with
  | .inl e=>.inl e
  | .inr a=>bif !d then .inr a else match r2 with
   | .inl e=>.inl e
   | .inr b=>vq6 a b
def truH (o:Int) (a b:Kn):Kn:=bif decide (o=4) then .tru a.d a.c else bif decide (o=14) then .tru (a.c&&b.c) (a.d||b.d) else .tru (a.c||b.c) (a.d&&b.d)
def numH (o:Int) (a b:Iv):Kr:=
 bif decide (o=6) then .inr (.num (a.add b)) else
 bif decide (o=7) then .inr (.num (a.sub b)) else
 bif decide (o=8) then .inr (.num (a.mul b)) else
 bif decide (o=9) then (bif b.has 0 then .inl 15 else .inr (.num (a.mul b.inv))) else
 bif decide (o=10) then .inr (.num (a.minI b)) else
 bif decide (o=11) then .inr (.num (a.maxI b)) else
 bif decide (o=12) then .inr (.tru (decide (a.lo<b.hi)) (decide (b.lo<=a.hi))) else
 .inr (.tru (a.meets b) (!(decide (a=b)&&decide (a.lo=a.hi))))
def vhp (t:Tb) (k:Iv):List Rw->Iv->Iv
 | [],v=>v
 | r::l,v=>vhp t k l (bif k.has (r.k:Rat) then v.hull (Iv.pt ((xwc t (some (r.k:Rat))).1.getD 0)) else v)
def yyv (t:Tb) (k:Iv):Kr:=bif decide ((xwc t (some k.lo)).2=0) then .inr (.num (vhp t k t.rows (Iv.pt ((xwc t (some k.lo)).1.getD 0)))) else .inl (xwc t (some k.lo)).2
def vv5 (o:Int):Bool:=decide (o=4)||decide (o=14)||decide (o=15)
def opH (T:Vt) (o:Int) (s:ByteArray) (l:List Kn):Kr:=
 bif decide (o=2)&&!(z2f T s).isSome then .inl 11 else
 bif l.any (fun k=>!(k.t==vv5 o)) then .inl 13 else
 bif vv5 o then .inr (truH o (l.getD 0 default) (l.getD 1 default)) else
 bif decide (o=2) then yyv ((z2f T s).getD default) (l.getD 0 default).v else
 numH o (l.getD 0 default).v (l.getD 1 default).v
def seqH:List Kr->Int ⊕ List Kn
 | []=>.inr []
 | .inl e::_=>.inl e
 | .inr k::l=>match seqH l with
  | .inl e=>.inl e
  | .inr ks=>.inr (k::ks)
def v9t (T:Vt) (o:Int) (s:ByteArray) (q:Int ⊕ List Kn):Kr:=match q with
 | .inl e=>.inl e
 | .inr ks=>opH T o s ks
mutual
def Ex.hul (V:Vi) (T:Vt):Ex->Kr
 | .mk o n u s l=>bif decide (o=0) then waw n u else bif decide (o=1) then veg V s else
  bif decide (o=5) then chH ((Ex.hulA V T l).getD 0 default) ((Ex.hulA V T l).getD 1 default) ((Ex.hulA V T l).getD 2 default) else v9t T o s (seqH (Ex.hulA V T l))
def Ex.hulA (V:Vi) (T:Vt):List Ex->List Kr
 | []=>[]
 | y::l=>Ex.hul V T y::Ex.hulA V T l
end
theorem Ex.xoc (V:Vi) (T:Vt):∀ l:List Ex,Ex.hulA V T l=l.map (Ex.hul V T)
 | []=>by rw [Ex.hulA];rfl
 | y::l=>by rw [Ex.hulA,Ex.xoc V T l];rfl
theorem Ex.y3z (V:Vi) (T:Vt) (x:Ex):x.hul V T=bif decide (x.op=0) then waw x.n x.unit else bif decide (x.op=1) then veg V x.name else
 bif decide (x.op=5) then chH ((x.args.map (Ex.hul V T)).getD 0 default) ((x.args.map (Ex.hul V T)).getD 1 default) ((x.args.map (Ex.hul V T)).getD 2 default) else v9t T x.op x.name (seqH (x.args.map (Ex.hul V T))):=by
 cases x with
 | mk o n u s l=>rw [Ex.hul,Ex.xoc];rfl
def hulF (x:Ex) (zs:List Zn) (ms:List Tb):Kr:=bif !zqs x||x.wqm then .inl 2 else match entZ zs ms with
 | none=>.inl 1
 | some p=>x.hul p.1 p.2
def ybu (t:Bool):Kr->Kr
 | .inl e=>.inl e
 | .inr k=>bif k.t==t then .inr k else .inl 13
theorem zdj:∀{l:List Kr} {ks:List Kn},seqH l=.inr ks->ks.length=l.length/\∀ i,i<l.length->l.getD i default=.inr (ks.getD i default)
 | [],ks,h=>by rw [seqH] at h;cases h;exact ⟨rfl,fun i hi=>by simp at hi⟩
 | .inl e::l,ks,h=>by rw [seqH] at h;cases h
 | .inr k::l,ks,h=>by
  rw [seqH] at h
  cases hs:seqH l with
  | inl e=>rw [hs] at h;cases h
  | inr r2=>
   rw [hs] at h;cases h;obtain ⟨h1,h2⟩:=zdj hs;refine ⟨by simp [h1],fun i hi=>?_⟩
   cases i with
   | zero=>rfl
   | succ i=>simpa using h2 i (by simpa using hi)
theorem wx9:∀{l:List Kr} {e:Int},seqH l=.inl e->Sum.inl e∈l
 | [],e,h=>by rw [seqH] at h;cases h
 | .inl e'::l,e,h=>by rw [seqH] at h;cases h;exact List.mem_cons_self
 | .inr k::l,e,h=>by
  rw [seqH] at h
  cases hs:seqH l with
  | inl e'=>rw [hs] at h;cases h;exact List.mem_cons_of_mem _ (wx9 hs)
  | inr r2=>rw [hs] at h;cases h
def Kok (n:Nat):Kr->Prop
 | .inl e=>e≠0
 | .inr (.tru _ _)=>True
 | .inr (.num v)=>ivZ v<=n
theorem Kok.mono {n m:Nat} (h:n<=m):∀{r:Kr},Kok n r->Kok m r
 | .inl _,q=>q
 | .inr (.tru _ _),_=>trivial
 | .inr (.num _),q=>Nat.le_trans q h
theorem xyu (q:Rat):ivZ (Iv.pt q)=qs q:=Nat.max_self _
theorem wqd {a b c d:Rat} {n:Nat} (h1:qs a<=n) (h2:qs b<=n) (h3:qs c<=n) (h4:qs d<=n):qs (mn4 a b c d)<=n/\qs (mx4 a b c d)<=n:=by
 constructor
 . rcases wik a b c d with e | e | e | e<;>rw [e]<;>assumption
 . rcases vve a b c d with e | e | e | e<;>rw [e]<;>assumption
theorem xxk (v:Iv):qs v.lo<=ivZ v:=Nat.le_max_left _ _
theorem vow (v:Iv):qs v.hi<=ivZ v:=Nat.le_max_right _ _
theorem wjr {a b c d:Rat} {n:Nat} (h1:qs a<=n) (h2:qs b<=n) (h3:qs c<=n) (h4:qs d<=n):ivZ (Iv.round a b c d)<=n:=by
 have:=wqd h1 h2 h3 h4
 exact Nat.max_le.2 this
theorem ybx (a b:Iv):ivZ (a.add b)<=ivZ a+ivZ b+1:=by
 have h1:qs (a.lo+b.lo)<=qs a.lo+qs b.lo+1:=Fc.v2c a.lo b.lo;have h2:qs (a.hi+b.hi)<=qs a.hi+qs b.hi+1:=Fc.v2c a.hi b.hi
 have:=xxk a;have:=xxk b;have:=vow a;have:=vow b
 exact Nat.max_le.2 ⟨by show qs (a.lo+b.lo)<=_;omega,by show qs (a.hi+b.hi)<=_;omega⟩
theorem yv6 (a b:Iv):ivZ (a.sub b)<=ivZ a+ivZ b+1:=by
 have:=ybx a b.neg
 rw [wx7] at this;exact this
theorem vq0 (a b:Iv):ivZ (a.mul b)<=ivZ a+ivZ b:=by
 have:=xxk a;have:=xxk b;have:=vow a;have:=vow b
 have h1:=vmu a.lo b.lo;have h2:=vmu a.lo b.hi;have h3:=vmu a.hi b.lo;have h4:=vmu a.hi b.hi;exact wjr (by omega) (by omega) (by omega) (by omega)
theorem xuc {a b:Iv} {n:Nat} (ha:ivZ a<=n) (hb:ivZ b<=n):ivZ (a.hull b)<=n:=by
 have:=xxk a;have:=xxk b;have:=vow a;have:=vow b
 exact wjr (by omega) (by omega) (by omega) (by omega)
theorem ylh {a b:Iv} {n:Nat} (ha:ivZ a<=n) (hb:ivZ b<=n):ivZ (a.minI b)<=n:=by
 have:=xxk a;have:=xxk b;have:=vow a;have:=vow b
 refine Nat.max_le.2 ⟨?_,?_⟩
 . show qs (min a.lo b.lo)<=n
   rcases w8f a.lo b.lo with e | e<;>rw [e]<;>omega
 . show qs (min a.hi b.hi)<=n
   rcases w8f a.hi b.hi with e | e<;>rw [e]<;>omega
theorem z2c {a b:Iv} {n:Nat} (ha:ivZ a<=n) (hb:ivZ b<=n):ivZ (a.maxI b)<=n:=by
 have:=xxk a;have:=xxk b;have:=vow a;have:=vow b
 refine Nat.max_le.2 ⟨?_,?_⟩
 . show qs (max a.lo b.lo)<=n
   rcases xzd a.lo b.lo with e | e<;>rw [e]<;>omega
 . show qs (max a.hi b.hi)<=n
   rcases xzd a.hi b.hi with e | e<;>rw [e]<;>omega
theorem ys0 (b:Iv):ivZ b.inv<=ivZ b+5:=by
 unfold Iv.inv
 have:=xxk b;have:=vow b
 split
 . have s1:qs (1 / b.hi)<=_:=x6h ((1:Int):Rat) b.hi;have s2:qs (1 / b.lo)<=_:=x6h ((1:Int):Rat) b.lo
   have:=xu6
   exact Nat.max_le.2 ⟨by show qs (1 / b.hi)<=_;omega,by show qs (1 / b.lo)<=_;omega⟩
 . omega
theorem xh4 {t:Tb} (ht:tbOk t=true) (q:Rat):((xwc t (some q)).2=0/\∃ w,(xwc t (some q)).1=some w/\qs w<=4204)\/((xwc t (some q)).2=4/\(xwc t (some q)).1=none):=by
 obtain ⟨⟨u,hu,hq⟩,_,_,hr⟩:=yg5 ht;have hz:=x24 t (some q);unfold xwc at hz ⊢;rw [show vgr (fun s=>(xx7 s).2) t=true from ht] at hz ⊢;simp only [Bool.not_true,cond_false] at hz ⊢
 cases h0:decide (aft q t.rows=0) with
 | true=>exact .inr ⟨rfl,rfl⟩
 | false=>
  rw [h0] at hz;refine .inl ⟨rfl,((t.rows.getD (aft q t.rows-1) default).v:Rat)*u.f,?_,?_⟩
  . simp only [cond_false];unfold zfd facO;rw [hu];rfl
  . have:qz (zfd t (t.rows.getD (aft q t.rows-1) default).v)<=4204:=hz
    unfold zfd facO at this;rw [hu] at this;exact this
theorem x8z {t:Tb} (ht:tbOk t=true) (k:Iv):∀(l:List Rw) (v:Iv),ivZ v<=4204->ivZ (vhp t k l v)<=4204
 | [],v,h=>h
 | r::l,v,h=>by
  refine x8z ht k l _ ?_
  cases k.has (r.k:Rat) with
  | false=>exact h
  | true=>
   refine xuc h ?_;rw [xyu]
   rcases xh4 ht (r.k:Rat) with ⟨_,w,hw,hq⟩ | ⟨_,hw⟩<;>rw [hw]
   . exact hq
   . have:=x11 (n:=0) (by unfold inI;omega)
     exact Nat.le_trans this (by decide)
theorem xxh {t:Tb} (ht:tbOk t=true) (k:Iv):Kok 4204 (yyv t k):=by
 unfold yyv
 rcases xh4 ht k.lo with ⟨h,w,hw,hq⟩ | ⟨h,hw⟩
 . rw [h,decide_eq_true rfl,cond_true,hw];exact x8z ht k _ _ (by rw [xyu];exact hq)
 . rw [h];exact (by decide:(4:Int)≠0)
theorem wv0 (o:Int) (a b:Iv):Kok (ivZ a+ivZ b+5) (numH o a b):=by
 have h1:=ybx a b;have h2:=yv6 a b;have h3:=vq0 a b;have h4:=vq0 a b.inv;have h5:=ys0 b;have h6:=ylh (a:=a) (b:=b) (n:=ivZ a+ivZ b+5) (by omega) (by omega);have h7:=z2c (a:=a) (b:=b) (n:=ivZ a+ivZ b+5) (by omega) (by omega);unfold numH
 repeat' first
  | exact trivial
  | (show ivZ _<=_;omega)
  | (show (15:Int)≠0;decide)
  | (cases decide (o=_)<;>simp only [cond_true,cond_false])
  | (cases b.has 0<;>simp only [cond_true,cond_false])
def Ism (B:Nat) (V:Vi):Prop:=∀ s v,z2f V s=some v->ivZ v+10<=B
theorem vme {V:Vi} {T:Vt} {B:Nat} (hB:4300<=B) (hV:Ism B V) (hT:∀ s t,z2f T s=some t->t.Sm/\tbOk t=true):∀ x:Ex,x.shaped=true->x.wqm=false->Kok (B*x.nd) (x.hul V T):=by
 refine Ex.ind (fun x ih hsh hcl=>?_);rw [Ex.ypb,Bool.and_eq_true,List.all_eq_true] at hsh;rw [Ex.xrx,Bool.or_eq_false_iff,decide_eq_false_iff_not,List.any_eq_false] at hcl;obtain ⟨hnode,hargs⟩:=hsh;have hnd:=Ex.xk0 x;have h1:B<=B*x.nd:=Nat.le_mul_of_pos_right _ (by omega)
 have hmem:∀ i,i<x.args.length->Kok (B*(x.args.getD i default).nd) ((x.args.map (Ex.hul V T)).getD i default):=fun i hi=>by
  have hm:=y7p hi;rw [getD_map hi];exact ih _ hm (hargs _ hm) (by simpa using hcl.2 _ hm)
 have hle:∀ i,i<x.args.length->B*(x.args.getD i default).nd<=B*x.nd:=fun i hi=>Nat.mul_le_mul_left _ (by have:=Ex.xka (y7p hi);omega)
 rw [Ex.y3z];by_cases h0:x.op=0
 . rw [decide_eq_true h0,cond_true];have hn:=xsm hnode h0;unfold waw
   rcases ver x.unit with ⟨u,h,hq⟩ | ⟨e,he,h⟩
   . unfold facO;rw [h];show ivZ (Iv.pt ((x.n:Rat)*u.f))<=_;rw [xyu];have h2:=vmu (x.n:Rat) u.f;have h3:qs (x.n:Rat)<=4:=x11 (n:=x.n) (by unfold inI;omega);omega
   . rw [h,show decide (¬e=0)=true from decide_eq_true he];exact (by decide:(14:Int)≠0)
 rw [decide_eq_false h0,cond_false];by_cases h01:x.op=1
 . rw [decide_eq_true h01,cond_true];unfold veg
   cases hl:z2f V x.name with
   | none=>exact (by decide:(11:Int)≠0)
   | some v=>
    have:=hV _ _ hl
    show ivZ v<=_;omega
 rw [decide_eq_false h01,cond_false]
 have hne:x.args.length≠0:=fun h=>by
  unfold xes at hnode;rw [decide_eq_false h0,decide_eq_false h01,h] at hnode;simp at hnode
 obtain ⟨hl2,hl3⟩:=zd3 hnode hcl.1 hne;by_cases h5:x.op=5
 . rw [decide_eq_true h5,cond_true];have hl:=hl3 h5;have k0:=hmem 0 (by omega);have k1:=(hmem 1 (by omega)).mono (hle 1 (by omega));have k2:=(hmem 2 (by omega)).mono (hle 2 (by omega));generalize (x.args.map (Ex.hul V T)).getD 0 default=r0 at k0;generalize (x.args.map (Ex.hul V T)).getD 1 default=r1 at k1;generalize (x.args.map (Ex.hul V T)).getD 2 default=r2 at k2;unfold chH
   rcases r0 with e | ⟨c,d⟩ | v
   . exact k0
   . cases c
     . exact k2
     . rcases r1 with e | a
       . exact k1
       . cases d
         . exact k1
         . rcases r2 with e | b
           . exact k2
           . rcases a with ⟨c,d⟩ | a<;>rcases b with ⟨c',d'⟩ | b
             . exact trivial
             . exact (by decide:(13:Int)≠0)
             . exact (by decide:(13:Int)≠0)
             . exact xuc k1 k2
   . exact (by decide:(13:Int)≠0)
 rw [decide_eq_false h5,cond_false]
 cases hs:seqH (x.args.map (Ex.hul V T)) with
 | inl e=>
  obtain ⟨i,hi,he⟩:=List.getElem_of_mem (wx9 hs);rw [List.length_map] at hi
  have:=hmem i hi
  rw [show (x.args.map (Ex.hul V T)).getD i default=.inl e from by rw [<-he];simp [hi]] at this;exact this
 | inr ks=>
  obtain ⟨hlen,hget⟩:=zdj hs;rw [List.length_map] at hlen hget;show Kok _ (opH T x.op x.name ks);unfold opH
  cases hA:decide (x.op=2)&&!(z2f T x.name).isSome with
  | true=>exact (by decide:(11:Int)≠0)
  | false=>
   rw [cond_false]
   cases hany:ks.any (fun k=>!(k.t==vv5 x.op)) with
   | true=>exact (by decide:(13:Int)≠0)
   | false=>
    rw [cond_false]
    cases hlg:vv5 x.op with
    | true=>
     rw [cond_true];unfold truH
     cases decide (x.op=4)<;>cases decide (x.op=14)<;>exact trivial
    | false=>
     rw [cond_false];by_cases h2:x.op=2
     . rw [decide_eq_true h2] at hA ⊢;rw [cond_true]
       cases hl:z2f T x.name with
       | none=>rw [hl] at hA;cases hA
       | some t=>exact (xxh (hT _ _ hl).2 _).mono (by omega)
     . rw [decide_eq_false h2,cond_false]
       have h4:x.op≠4:=fun h=>by unfold vv5 at hlg;rw [decide_eq_true h] at hlg;simp at hlg
       have hl:=hl2 h2 h4;have ha:=wv0 x.op (ks.getD 0 default).v (ks.getD 1 default).v;have m0:=hmem 0 (by omega);have m1:=hmem 1 (by omega);rw [hget 0 (by omega)] at m0;rw [hget 1 (by omega)] at m1
       have hv:∀(k:Kn) (n:Nat),Kok n (.inr k)->B<=n->ivZ k.v<=n:=fun k n h hn=>by
        cases k with
        | tru c d=>
         show ivZ (Iv.pt 0)<=n;rw [xyu]
         have:qs (0:Rat)<=4:=x11 (n:=0) (by unfold inI;omega)
         omega
        | num v=>exact h
       have b0:B<=B*(x.args.getD 0 default).nd:=Nat.le_mul_of_pos_right _ (by have:=Ex.xk0 (x.args.getD 0 default);omega);have b1:B<=B*(x.args.getD 1 default).nd:=Nat.le_mul_of_pos_right _ (by have:=Ex.xk0 (x.args.getD 1 default);omega);have m0:=hv _ _ m0 b0;have m1:=hv _ _ m1 b1;have hn2:=Ex.nd2 hl;have hd:=Nat.mul_add B (x.args.getD 0 default).nd (x.args.getD 1 default).nd;have he:B*((x.args.getD 0 default).nd+(x.args.getD 1 default).nd+1)<=B*x.nd:=Nat.mul_le_mul_left _ (by omega);rw [Nat.mul_add,hd] at he;exact ha.mono (by omega)
theorem y1h {B:Nat} {zs:List Zn} {ms:List Tb} {V:Vi} {T:Vt} (h:entZ zs ms=some (V,T)) (hb:∀ b∈zs,b.s.sz+10<=B):Ism B V:=fun s v hv=>by
 obtain ⟨h1,_,_,h4,_⟩:=vxk h;rw [h4] at hv;obtain ⟨b,hb1,rfl⟩:=Option.map_eq_some_iff.1 hv;have hm:=(ypj hb1).1;obtain ⟨w,hw⟩:=vnd (of_decide_eq_true (h1 b hm))
 have:=hb b hm
 rw [hw] at this ⊢;rw [wdg];exact this
theorem v5e {zs:List Zn} {ms:List Tb} {V:Vi} {T:Vt} (h:entZ zs ms=some (V,T)) (hb:∀ t∈ms,t.Sm):∀ s t,z2f T s=some t->t.Sm/\tbOk t=true:=fun s t ht=>by
 obtain ⟨_,h2,_,_,h5⟩:=vxk h;rw [h5] at ht;have hm:=(ypj ht).1;exact ⟨hb t hm,h2 t hm⟩
def Iv.In (a:Iv) (q:Rat):Prop:=a.lo<=q/\q<=a.hi
def Iv.Le (a b:Iv):Prop:=b.lo<=a.lo/\a.hi<=b.hi
theorem Iv.yeq {a:Iv} {q:Rat}:a.has q=true↔a.In q:=by
 unfold Iv.has Iv.In;rw [Bool.and_eq_true,decide_eq_true_eq,decide_eq_true_eq]
theorem Iv.Le.refl (a:Iv):a.Le a:=⟨Rat.le_refl,Rat.le_refl⟩
theorem Iv.Le.trans {a b c:Iv} (h1:a.Le b) (h2:b.Le c):a.Le c:=⟨Rat.le_trans h2.1 h1.1,Rat.le_trans h1.2 h2.2⟩
theorem Iv.Le.in {a b:Iv} {q:Rat} (h:a.Le b) (hq:a.In q):b.In q:=⟨Rat.le_trans h.1 hq.1,Rat.le_trans hq.2 h.2⟩
theorem Iv.w3w {q r:Rat}:(Iv.pt q).In r↔r=q:=⟨fun h=>Rat.le_antisymm h.2 h.1,fun h=>by rw [h];exact ⟨Rat.le_refl,Rat.le_refl⟩⟩
theorem zp5 {a:Iv} {x:Rat} (h:a.In x):a.neg.In (-x):=⟨Rat.neg_le_neg h.2,Rat.neg_le_neg h.1⟩
theorem yv3 {a b:Iv} {x y:Rat} (h:a.In x) (h':b.In y):(a.add b).In (x+y):=⟨yvt h.1 h'.1,yvt h.2 h'.2⟩
theorem z7j {a b:Iv} {x y:Rat} (h:a.In x) (h':b.In y):(a.sub b).In (x-y):=by
 rw [Rat.sub_eq_add_neg];exact yv3 h (zp5 h')
theorem wlw {c y l u:Rat} (h1:l<=y) (h2:y<=u):(c*l<=c*y/\c*y<=c*u)\/(c*u<=c*y/\c*y<=c*l):=by
 rcases Rat.le_total (a:=0) (b:=c) with hc | hc
 . exact .inl ⟨Rat.mul_le_mul_of_nonneg_left h1 hc,Rat.mul_le_mul_of_nonneg_left h2 hc⟩
 . have hc':0<=-c:=by have:=Rat.neg_le_neg hc;rwa [Rat.neg_zero] at this
   have e:∀ a b:Rat,a<=b->c*b<=c*a:=fun a b h=>by
    have:=Rat.neg_le_neg (Rat.mul_le_mul_of_nonneg_left h hc')
    rwa [Rat.neg_mul,Rat.neg_mul,Rat.neg_neg,Rat.neg_neg] at this
   exact .inr ⟨e _ _ h2,e _ _ h1⟩
theorem ymw {a b:Iv} {x y:Rat} (h:a.In x) (h':b.In y):(a.mul b).In (x*y):=by
 obtain ⟨m1,m2,m3,m4⟩:=xx9 (a.lo*b.lo) (a.lo*b.hi) (a.hi*b.lo) (a.hi*b.hi);obtain ⟨n1,n2,n3,n4⟩:=zl0 (a.lo*b.lo) (a.lo*b.hi) (a.hi*b.lo) (a.hi*b.hi);show mn4 _ _ _ _<=x*y/\x*y<=mx4 _ _ _ _;generalize mn4 (a.lo*b.lo) (a.lo*b.hi) (a.hi*b.lo) (a.hi*b.hi)=m at *;generalize mx4 (a.lo*b.lo) (a.lo*b.hi) (a.hi*b.lo) (a.hi*b.hi)=n at *
 have hl:m<=a.lo*y/\a.lo*y<=n:=by
  rcases wlw (c:=a.lo) h'.1 h'.2 with ⟨p,q⟩ | ⟨p,q⟩
  . exact ⟨Rat.le_trans m1 p,Rat.le_trans q n2⟩
  . exact ⟨Rat.le_trans m2 p,Rat.le_trans q n1⟩
 have hh:m<=a.hi*y/\a.hi*y<=n:=by
  rcases wlw (c:=a.hi) h'.1 h'.2 with ⟨p,q⟩ | ⟨p,q⟩
  . exact ⟨Rat.le_trans m3 p,Rat.le_trans q n4⟩
  . exact ⟨Rat.le_trans m4 p,Rat.le_trans q n3⟩
 rw [Rat.mul_comm a.lo] at hl;rw [Rat.mul_comm a.hi] at hh;rw [Rat.mul_comm x]
 rcases wlw (c:=y) h.1 h.2 with ⟨p,q⟩ | ⟨p,q⟩
 . exact ⟨Rat.le_trans hl.1 p,Rat.le_trans q hh.2⟩
 . exact ⟨Rat.le_trans hh.1 p,Rat.le_trans q hl.2⟩
theorem wrb {b:Iv} {y:Rat} (h0:b.has 0=false) (h:b.In y):b.inv.In (1 / y)/\y≠0:=by
 have e:b.inv=⟨1 / b.hi,1 / b.lo,Iv.v7v h0⟩:=dif_pos h0;rw [e];unfold Iv.has at h0;rw [Bool.and_eq_false_iff] at h0
 rcases h0 with h0 | h0
 . have hl:=Rat.not_le.1 (of_decide_eq_false h0);have hy:=yqd hl h.1;exact ⟨⟨xku h.2 hy,xku h.1 hl⟩,Rat.ne_of_gt hy⟩
 . have hl:=Rat.not_le.1 (of_decide_eq_false h0);have hy:=x0d h.2 hl;exact ⟨⟨vu0 h.2 hl,vu0 h.1 hy⟩,Rat.ne_of_lt hy⟩
theorem wmq {a b:Iv} {x y:Rat} (h0:b.has 0=false) (h:a.In x) (h':b.In y):(a.mul b.inv).In (x / y)/\y≠0:=by
 obtain ⟨h1,h2⟩:=wrb h0 h'
 have:=ymw h h1
 rw [Rat.div_def,Rat.one_mul] at this;rw [Rat.div_def];exact ⟨this,h2⟩
theorem yey {a b c d:Rat} (h1:a<=c) (h2:b<=d):min a b<=min c d:=xed (Rat.le_trans (x95 _ _) h1) (Rat.le_trans (v82 _ _) h2)
theorem wsn {a b c d:Rat} (h1:a<=c) (h2:b<=d):max a b<=max c d:=wja (Rat.le_trans h1 (z2m _ _)) (Rat.le_trans h2 (xta _ _))
theorem v7k {a b:Iv} {x y:Rat} (h:a.In x) (h':b.In y):(a.minI b).In (min x y):=⟨yey h.1 h'.1,yey h.2 h'.2⟩
theorem z2r {a b:Iv} {x y:Rat} (h:a.In x) (h':b.In y):(a.maxI b).In (max x y):=⟨wsn h.1 h'.1,wsn h.2 h'.2⟩
theorem vr2 (a b:Iv):a.Le (a.hull b):=⟨(xx9 _ _ _ _).1,(zl0 _ _ _ _).2.1⟩
theorem yjp (a b:Iv):b.Le (a.hull b):=⟨(xx9 _ _ _ _).2.2.1,(zl0 _ _ _ _).2.2.2⟩
theorem z2y {a b:Iv}:a.meets b=true↔∃ q,a.In q/\b.In q:=by
 unfold Iv.meets;rw [decide_eq_true_eq];constructor
 . intro h;exact ⟨max a.lo b.lo,⟨z2m _ _,Rat.le_trans h (x95 _ _)⟩,⟨xta _ _,Rat.le_trans h (v82 _ _)⟩⟩
 . rintro ⟨q,h1,h2⟩;exact wja (xed (Rat.le_trans h1.1 h1.2 ) (Rat.le_trans h1.1 h2.2)) (xed (Rat.le_trans h2.1 h1.2) (Rat.le_trans h2.1 h2.2))
def tw (t:Tb) (i:Nat):Rat:=(zfd t (t.rows.getD i default).v).getD 0
theorem y6b {t:Tb} (ht:tbOk t=true) (i:Nat):zfd t (t.rows.getD i default).v=some (tw t i):=by
 obtain ⟨⟨u,hu,hq⟩,_,_,_⟩:=yg5 ht;unfold tw zfd facO;rw [hu];rfl
theorem wfi {t:Tb} (ht:tbOk t=true) (q:Rat):xwc t (some q)=bif decide (aft q t.rows=0) then (none,4) else (some (tw t (aft q t.rows-1)),0):=by
 unfold xwc;rw [show vgr (fun s=>(xx7 s).2) t=true from ht];simp only [Bool.not_true,cond_false];rw [y6b ht]
theorem yu6 (q : Rat) : ∀ (l : List Rw), (∀ j, j < aft q l → (((l.getD j default).k : Rat) ≤ q)) ∧ (aft q l < l.length → ¬ (((l.getD (aft q l) default).k : Rat) ≤ q))
 | []=>⟨fun j h=>absurd h (Nat.not_lt_zero _),fun h=>absurd h (Nat.not_lt_zero _)⟩
 | r::l=>by
  obtain ⟨h1,h2⟩:=yu6 q l;unfold aft;by_cases h:(r.k:Rat)<=q
  . rw [decide_eq_true h,cond_true];refine ⟨fun j hj=>?_,fun hj=>?_⟩
    . cases j with
      | zero=>exact h
      | succ j=>exact h1 j (by omega)
    . exact h2 (by simpa using hj)
  . rw [decide_eq_false h,cond_false];exact ⟨fun j hj=>absurd hj (Nat.not_lt_zero _),fun _=>h⟩
theorem x6t {t:Tb} (ht:tbOk t=true) {j:Nat} (hj:j<t.rows.length):aft ((t.rows.getD j default).k:Rat) t.rows=j+1:=by
 have hr:=(yg5 ht).2.2.2;refine y5e (by omega) (fun i hi=>z8y (hr.mono (by omega) hj)) (fun hlt=>?_)
 have:=(hr (j+1) hlt).2.2 (by omega)
 rw [Nat.add_sub_cancel] at this;exact Rat.not_le.2 (Rat.intCast_lt_intCast.2 this)
theorem w3q {t:Tb} (ht:tbOk t=true) {j:Nat} (hj:j<t.rows.length):xwc t (some ((t.rows.getD j default).k:Rat))=(some (tw t j),0):=by
 rw [wfi ht,x6t ht hj];rfl
theorem yxf (q:Rat) (l:List Rw):aft q l<=l.length:=wrt q l
theorem wc7 {q q':Rat} (h:q<=q'):∀ l:List Rw,aft q l<=aft q' l
 | []=>Nat.le_refl _
 | r::l=>by
  unfold aft;by_cases hr:(r.k:Rat)<=q
  . rw [decide_eq_true hr,decide_eq_true (Rat.le_trans hr h),cond_true,cond_true];exact Nat.succ_le_succ (wc7 h l)
  . rw [decide_eq_false hr,cond_false];exact Nat.zero_le _
theorem v2q {t:Tb} (k:Iv):∀(l:List Rw) (v:Iv),v.Le (vhp t k l v)
 | [],v=>Iv.Le.refl v
 | r::l,v=>by
  refine Iv.Le.trans ?_ (v2q k l _)
  cases k.has (r.k:Rat) with
  | false=>exact Iv.Le.refl v
  | true=>exact vr2 _ _
theorem vxf {t:Tb} (k:Iv):∀(l:List Rw) (v:Iv) (r:Rw),r∈l->k.has (r.k:Rat)=true->(vhp t k l v).In ((xwc t (some (r.k:Rat))).1.getD 0)
 | r'::l,v,r,hm,hk=>by
  rcases List.mem_cons.1 hm with rfl | hm
  . refine (v2q k l _).in ?_;rw [hk,cond_true];exact (yjp _ _).in (Iv.w3w.2 rfl)
  . exact vxf k l _ r hm hk
theorem zde {t:Tb} (ht:tbOk t=true) (k:Iv):(aft k.lo t.rows=0/\yyv t k=.inl 4)\/(aft k.lo t.rows≠0/\yyv t k=.inr (.num (vhp t k t.rows (Iv.pt (tw t (aft k.lo t.rows-1)))))):=by
 unfold yyv;rw [wfi ht];by_cases h:aft k.lo t.rows=0
 . rw [decide_eq_true h];exact .inl ⟨h,rfl⟩
 . rw [decide_eq_false h];exact .inr ⟨h,rfl⟩
theorem ylg {t : Tb} (ht : tbOk t = true) {k v : Iv} (h : yyv t k = .inr (.num v)) {q : Rat} (hq : k.In q) : ∃ w, xwc t (some q) = (some w, 0) ∧ v.In w := by
 rcases zde ht k with ⟨_,e⟩ | ⟨h0,e⟩
 . rw [e] at h;cases h
 . rw [e] at h; cases h;have hm:=wc7 hq.1 t.rows;have hlen:=yxf q t.rows;refine ⟨tw t (aft q t.rows-1),?_,?_⟩
   . rw [wfi ht,decide_eq_false (by omega)];rfl
   . by_cases hk:k.lo<=((t.rows.getD (aft q t.rows-1) default).k:Rat)
     . have hj:aft q t.rows-1<t.rows.length:=by omega
       have:=vxf (t:=t) k t.rows (Iv.pt (tw t (aft k.lo t.rows-1))) _ (y7p hj) (Iv.yeq.2 ⟨hk,Rat.le_trans ((yu6 q t.rows).1 _ (by omega)) hq.2⟩)
       rw [w3q ht hj] at this;exact this
     . have e:aft k.lo t.rows=aft q t.rows:=by
        refine y5e hlen (fun j hj=>?_) (fun hlt=>?_)
        . have hr:=(yg5 ht).2.2.2;exact Rat.le_trans (z8y (hr.mono (show j<=aft q t.rows-1 by omega) (by omega))) (Rat.le_of_lt (Rat.not_le.1 hk))
        . exact fun h=>(yu6 q t.rows).2 hlt (Rat.le_trans h hq.1)
       rw [e];exact (v2q k t.rows _).in (Iv.w3w.2 rfl)
end Go.Hp.T
