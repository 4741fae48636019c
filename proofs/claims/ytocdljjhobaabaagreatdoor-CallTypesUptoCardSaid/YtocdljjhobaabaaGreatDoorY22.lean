/- The proof, part Y22: Ci, Cj, Ck, Lf, Cl, Cm, Fd, Ig. -/
import Derived.Test.YtocdljjhobaabaaGreatDoorY21
import Derived.Test.YtocdljjhobaabaaGreatDoorY18
namespace Go.Hp.T
open Go Go.RowKit Go.Slot Go.Hp Go.Slot.T
open Go.Proofs.Tryz (prog)
attribute [local irreducible] hide RH
set_option maxRecDepth 10000
set_option maxHeartbeats 8000000
variable {Γ:List (Nat×List Cell)}
def inI (z:Int):Prop:=-9223372036854775808<=z/\z<=9223372036854775807
instance (z:Int):Decidable (inI z):=inferInstanceAs (Decidable (_/\_))
theorem cInt (z:Int) (hz:okZ z):CallsD Γ prog 162 [.agg [.raw (.int .i64 (sg z)),.ints .i64 (dig z.natAbs)]]
 (.tup [.one (.raw (.int .i64 (if inI z then z else 0))),.one (.raw (.bool (decide (inI z))))]):=by
 have hs:=yvy z;have hn:=vco z;have hd:=xfr z.natAbs
 obtain ⟨r,hr⟩:∃ r,r=if inI z then z else 0:=⟨_,rfl⟩
 obtain ⟨ok,hok⟩:∃ ok,ok=decide (inI z):=⟨_,rfl⟩;rw [<-hr,<-hok]
 have bad:¬inI z->r=0/\ok=false:=fun h=>by rw [hr,hok,if_neg h,decide_eq_false h];exact ⟨rfl,rfl⟩
 have good:inI z->r=z/\ok=true:=fun h=>by rw [hr,hok,if_pos h,decide_eq_true h];exact ⟨rfl,rfl⟩
 clear hr hok;refine CallsD.run [] Go.Proofs.Tryz.func162 rfl rfl rfl ?_;simp only [Go.Proofs.Tryz.f162];refine hgR ?_
 first | refine v47 (vdu z hz) ?_ | refine vrf (vdu z hz) ?_
 refine hg ?_;refine xw4 (fun hbig _=>?_) (fun hbig _=>?_)
 . refine hg ?_
   obtain ⟨e1,e2⟩:=bad (fun h=>by
    have:(dig z.natAbs).length<=4:=xgb (by unfold inI at h;omega)
    omega)
   exact (by rw [e1,e2];exact .one (.refl _))
 have htop:(dig z.natAbs).length=4->(dig z.natAbs).getD 3 0<=8\/¬inI z:=fun h4=>by
  rcases Int.lt_or_le 8 ((dig z.natAbs).getD 3 0) with h | h
  . right
    intro hi;have h1:=yn1 (dig z.natAbs) 3;rw [xn2 (by omega),hn] at h1;have h2:=num_nonneg (hd.take 3);unfold inI at hi;omega
  . exact .inl h
 refine hg ?_;refine yxw [1,2,3,17,18] (fun x:Nat×Int=>[(4,.one (.dat (.raw (.int .u64 x.2)))),(19,.one (.dat (cI (x.1))))])
  (fun _=>[.box [.dat (cI (sg z)),.dat (.ints .i64 (dig z.natAbs))] (some 85)])
  (fun x=>x.1<=(dig z.natAbs).length/\x.2=num ((dig z.natAbs).take x.1)/\(x.1=4->(dig z.natAbs).getD 3 0<=8)) (fun x=>(dig z.natAbs).length-x.1) (0,0)
  ⟨Nat.zero_le _,by simp [num],by simp⟩ ?_ ?_
 . refine hg ?_;exact StH.same svl rfl
 rintro ⟨i,u⟩ ⟨hi,hu,h4⟩;simp only at hi hu h4;have hu0:=num_nonneg (hd.take i);have hu1:=yp6 (hd.take i);rw [List.length_take,Nat.min_eq_left hi,<-hu] at hu1;rw [<-hu] at hu0;refine hg ?_;refine xw4 (fun h _=>?_) (fun h _=>?_)
 . have hdi:=hd.getD i
   have hi3:i<=3:=by omega
   have hdB:i≠3\/(dig z.natAbs).getD i 0<=8->(dig z.natAbs).getD i 0*1048576 ^ i+u<=18446744073709551615:=fun h8=>by
    rcases xfs hi3 with ⟨h9,e⟩ | ⟨h9,e⟩ | ⟨h9,e⟩ | ⟨h9,e⟩<;>rw [e] at hu1 ⊢<;>omega
   have hdB0:0<=(dig z.natAbs).getD i 0*1048576 ^ i:=Int.mul_nonneg hdi.1 (Int.le_of_lt (wc0 i))
   have hstep:u+(dig z.natAbs).getD i 0*1048576 ^ i=num ((dig z.natAbs).take (i+1)):=by rw [yn1,hu,Int.mul_comm]
   refine hg ?_;refine y6q (fun h5 _=>?_) (fun h5 _=>?_)
   . have h5':=decide_eq_true h5;refine hg1 @h5' ?_;refine xw4 (fun h6 _=>?_) (fun h6 _=>?_)
     . have i3:i=3:=by omega
       subst i3
       have hni:¬inI z:=by
        rcases htop (by omega) with h7 | h7
        . omega
        . exact h7
       obtain ⟨e1,e2⟩:=bad hni;refine hg ?_;exact (by rw [e1,e2];exact .one (.refl _))
     . have hdB:=hdB (.inr (by omega));refine hg2 @shlB @orB ?_
       have h8:i+1=4->(dig z.natAbs).getD 3 0<=8:=fun e=>by
        have i3:i=3:=by omega
        subst i3;omega
       exact ⟨(i+1,u+(dig z.natAbs).getD i 0*1048576 ^ i),⟨by dsimp only;omega,hstep,h8⟩,by dsimp only;omega,StH.same svl rfl⟩
   . have hdB:=hdB (.inl (by omega));refine hg3 @h5 @shlB @orB ?_;exact ⟨(i+1,u+(dig z.natAbs).getD i 0*1048576 ^ i),⟨by dsimp only;omega,hstep,fun (e:i+1=4)=>by omega⟩,by dsimp only;omega,StH.same svl rfl⟩
 . have hil:i=(dig z.natAbs).length:=by omega
   rw [hil,List.take_length,hn] at hu
   have hub:u<=10376293541461622784:=by
    have:i<=4:=by omega
    rcases Nat.lt_or_ge i 4 with h7 | h7
    . rcases xfs (show i<=3 by omega) with ⟨h9,e⟩ | ⟨h9,e⟩ | ⟨h9,e⟩ | ⟨h9,e⟩<;>rw [e] at hu1<;>omega
    . have h8:=yn1 (dig z.natAbs) 3;rw [xn2 (by omega),hn] at h8;have h9:=yp6 (hd.take 3)
      have h10:((dig z.natAbs).take 3).length=3:=by simp;omega
      rw [h10] at h9
      have:=h4 (by omega)
      have h11:(1048576:Int) ^ 3=1152921504606846976:=by decide
      rw [h11] at h9 h8;omega
   refine hg ?_;refine y6q (fun h5 _=>?_) (fun h5 _=>?_)
   . refine hg1 @h5 ?_;refine xw4 (fun h6 _=>?_) (fun h6 _=>?_)
     . obtain ⟨e1,e2⟩:=good (by unfold inI;omega);refine hg2 @xpf @zx8 ?_;rw [e1,e2,show 0-u+18446744073709551616-18446744073709551616=z by omega];exact .one (.refl _)
     . obtain ⟨e1,e2⟩:=bad (by unfold inI;omega);refine hg ?_;refine y6q (fun h7 _=>absurd h7 (by omega)) (fun h7 _=>?_);refine hg1 @h7 ?_;exact (by rw [e1,e2];exact .one (.refl _))
   . refine hg1 @h5 ?_;refine y6q (fun h7 _=>?_) (fun h7 _=>absurd (by omega) h7);refine hg1 @h7 ?_;refine xw4 (fun h6 _=>?_) (fun h6 _=>?_)
     . obtain ⟨e1,e2⟩:=good (by unfold inI;omega);refine hg ?_;rw [e1,e2,show u=z by omega];exact .one (.refl _)
     . obtain ⟨e1,e2⟩:=bad (by unfold inI;omega);refine hg ?_;exact (by rw [e1,e2];exact .one (.refl _))
theorem cOne (z:Int) (hz:okZ z):CallsD Γ prog 141 [.agg [.raw (.int .i64 (sg z)),.ints .i64 (dig z.natAbs)]] (.one (.raw (.bool (decide (z=1))))):=by
 obtain ⟨r,hr⟩:∃ r,r=decide (z=1):=⟨_,rfl⟩;rw [<-hr];have hc:=cInt (Γ:=Γ) z hz;by_cases hi:inI z
 . rw [if_pos hi,decide_eq_true hi] at hc;refine CallsD.run [] Go.Proofs.Tryz.func141 rfl rfl rfl ?_;simp only [Go.Proofs.Tryz.f141];refine hgR ?_
   first | refine v47 hc ?_ | refine vrf hc ?_
   refine hg ?_;exact (by rw [hr];exact .one (.refl _))
 . rw [if_neg hi,decide_eq_false hi] at hc;refine CallsD.run [] Go.Proofs.Tryz.func141 rfl rfl rfl ?_;simp only [Go.Proofs.Tryz.f141];refine hgR ?_
   first | refine v47 hc ?_ | refine vrf hc ?_
   refine hg ?_;exact (by rw [hr,decide_eq_false (fun e=>hi (by unfold inI;omega))];exact .one (.refl _))
theorem z1k {n:Int} (_h:0<=n):iand .u64 n 1048575=n % 1048576:=by
 unfold iand
 have h1:(BitVec.ofInt IntKind.u64.bits n &&&BitVec.ofInt IntKind.u64.bits 1048575).toNat=(n % 1048576).toNat:=by
  show (BitVec.ofInt 64 n &&&BitVec.ofInt 64 1048575).toNat=_;rw [BitVec.toNat_and,BitVec.toNat_ofInt,BitVec.toNat_ofInt]
  have:((1048575:Int) % ((2 ^ 64:Nat):Int)).toNat=2 ^ 20-1:=by decide
  rw [this,Nat.and_two_pow_sub_one_eq_mod];omega
 rw [h1,wu64 (by omega)];omega
theorem yfc (n:Int):ishr .u64 n 20=n / 1048576:=by
 unfold ishr
 have:(2:Int) ^ (min (20:Int).toNat IntKind.u64.bits)=1048576:=by decide
 rw [this,Int.fdiv_eq_ediv_of_nonneg _ (by decide)]
theorem xek {n:Nat} (h:n<=18446744073709551615):(dig n).length<=4:=xgb (Nat.lt_of_le_of_lt h (by decide))
theorem cOfZ (n:Int) (hn:inI n):CallsD Γ prog 82 [.one (.raw (.int .i64 n))] (.agg [.raw (.int .i64 (sg n)),.ints .i64 (dig n.natAbs)]):=by
 unfold inI at hn;refine CallsD.run [(4,[.join])] Go.Proofs.Tryz.func82 rfl rfl rfl ?_;simp only [Go.Proofs.Tryz.f82];refine hgR ?_;refine z1o [2] (fun s:Int=>[(3,.one (.dat (cI s))),(4,.one (.dat (.raw (.int .u64 n.natAbs))))]) (fun _=>[.box [.dat (cI 0),.dat .zc] (some 85)])
  (fun s=>(s=1/\0<=n)\/(s = -1/\n<0)) ?_ ?_
 . by_cases h0:n<0
   . refine hg1 @xpf ?_;refine xw4 (fun h _=>?_) (fun h _=>absurd h0 h);refine hg1 @xpf ?_;refine ⟨-1,.inr ⟨rfl,h0⟩,?_⟩;rw [show 0-(n+18446744073709551616)+18446744073709551616=((n.natAbs:Nat):Int) by omega];exact StH.same svl rfl
   . refine hg ?_;refine xw4 (fun h _=>absurd h h0) (fun h _=>?_);refine hg ?_;refine ⟨1,.inl ⟨rfl,by omega⟩,?_⟩;rw [show n=((n.natAbs:Nat):Int) by omega];exact StH.same svl rfl
 rintro s hs
 have hN:(n.natAbs:Int)<=9223372036854775808:=by omega
 generalize hNN:n.natAbs=N at *;refine hg ?_;refine yxw [2,3] (fun x:Nat×List Int×Int=>[(4,.one (.dat (.raw (.int .u64 x.2.2)))),(5,.one (.sl 1 1 0 x.2.1.length))])
  (fun x=>[.box [.dat (cI 0),.dat .zc] (some 85),.arr (.ints .i64 x.2.1) 0 (some 3)])
  (fun x=>x.2.1.length=x.1/\x.1<=4/\digits x.2.1/\0<=x.2.2/\num x.2.1+1048576 ^ x.1*x.2.2=N) (fun x=>x.2.2.toNat) (0,[],N)
  ⟨rfl,Nat.zero_le _,digits.nil,by simp,by simp [num]⟩ ?_ ?_
 . refine hg ?_;refine StH.trans (StH.empty (d:=5) (es:=1) (c:=.ints .i64 []) (T:=some 3) rfl rfl trivial rfl) ?_;refine hg ?_;exact StH.same svl rfl
 rintro ⟨k,l,u⟩ ⟨hl,hk,hd,hu,he⟩;simp only at hl hk hd hu he;have hl0:=num_nonneg hd;have hp:=wc0 k
 have huN:u<=N:=by
  have:=Int.mul_le_mul_of_nonneg_right (show (1:Int)<=1048576 ^ k by omega) hu
  omega
 refine hg ?_;refine xw4 (fun h _=>?_) (fun h _=>?_)
 . have hk3:k<=3:=by
    rcases Nat.lt_or_ge k 4 with h4 | h4
    . omega
    . have h1:=y5g h4;have h2:=Int.mul_le_mul_of_nonneg_left (show (1:Int)<=u by omega) (Int.le_of_lt hp)
      have h3:(1048576:Int) ^ 4=1208925819614629174706176:=by decide
      omega
   refine hg2 @z1k @yfc ?_;refine ⟨(k+1,l++[u % 1048576],u / 1048576),⟨by simp [hl],by dsimp only;omega,hd.append (digits.cons (by omega) digits.nil),by dsimp only;omega,?_⟩,by dsimp only;omega,StH.back [2,3,4,5] 1 2 2 rfl rfl rfl rfl rfl (by kernel_rfl) (StH.same svl rfl)⟩;dsimp only;rw [wf0,hl,Int.pow_succ];have h:=Int.emod_add_mul_ediv u 1048576;simp only [num];generalize (1048576:Int) ^ k=P at *;generalize u % 1048576=r at *;generalize u / 1048576=q at *
   grind
 . have hu0:u=0:=by omega
   rw [hu0,Int.mul_zero,Int.add_zero] at he;have e:=z1l hd he;rw [Int.toNat_natCast,<-hNN] at e;have hdl:(dig N).length<=4:=xek (by omega);have hsg:=xre (Γ:=Γ) s l (by omega);unfold bigA at hsg;rw [e,<-v3c,yr8 (by omega)] at hsg;unfold zC at hsg;rw [hNN] at hsg;refine hg ?_
   first | refine v47 hsg ?_ | refine vrf hsg ?_
   refine hg ?_;exact (.one (.refl _))
theorem vbv (s:Int) (L:List Int) (t:Int) (M:List Int) (hL:L.length<=268435456) (hM:M.length<=268435456) :
 CallsD Γ prog 111 [.agg [.raw (.int .i64 s),.ints .i64 L,.raw (.int .i64 t),.ints .i64 M]] (.one (.raw (.bool (decide (vsx s L t M))))):=by
 obtain ⟨r,hr⟩:∃ r,r=decide (vsx s L t M):=⟨_,rfl⟩;rw [<-hr]
 have bad:¬vsx s L t M->r=false:=fun h=>by rw [hr,decide_eq_false h]
 by_cases h1:vd7 s L
 . obtain ⟨x,rfl,rfl⟩:=(ven _ _).1 h1;by_cases h2:vd7 t M
   . obtain ⟨y,rfl,rfl⟩:=(ven _ _).1 h2;refine CallsD.run [] Go.Proofs.Tryz.func111 rfl rfl rfl ?_;simp only [Go.Proofs.Tryz.f111];refine hgR ?_
     first | refine v47 (vdu x hL) ?_ | refine vrf (vdu x hL) ?_
     refine hg ?_
     first | refine v47 (vdu y hM) ?_ | refine vrf (vdu y hM) ?_
     refine hg ?_;refine xw4 (fun h3 _=>?_) (fun h3 _=>?_)
     . have e:=bad (fun h=>h3 h.2.2.1);subst e;refine hg ?_;exact (.one (.refl _))
     . have h3:sg y=1:=by omega
       have hgl:(dig (Int.gcd x y:Int).natAbs).length<=268435456:=by
        have:(Int.gcd x y:Int).natAbs<=y.natAbs:=by
         have hy:0<y.natAbs:=by rcases yvy y with ⟨h,e⟩ | ⟨h,e⟩ | ⟨h,e⟩<;>omega
         exact Nat.le_of_dvd hy (Nat.gcd_dvd_right _ _)
        exact Nat.le_trans (wo8 this) hM
       have e:r=decide ((Int.gcd x y:Int)=1):=by
        rw [hr];apply decide_eq_decide.2;unfold vsx;rw [zmz,zmz];constructor
        . exact fun h=>by have:=h.2.2.2;omega
        . exact fun h=>⟨h1,h2,h3,by omega⟩
       subst e;refine hg ?_
       first | refine v47 (zl1 x y hL hM) ?_ | refine vrf (zl1 x y hL hM) ?_
       refine hg ?_
       first | refine v47 (cOne _ hgl) ?_ | refine vrf (cOne _ hgl) ?_
       refine hg ?_;exact (.one (.refl _))
   . have e:=bad (fun h=>h2 h.2.1);subst e;refine CallsD.run [] Go.Proofs.Tryz.func111 rfl rfl rfl ?_;simp only [Go.Proofs.Tryz.f111];refine hgR ?_
     first | refine v47 (vdu x hL) ?_ | refine vrf (vdu x hL) ?_
     refine hg ?_
     first | refine v47 (xjm t M hM h2) ?_ | refine vrf (xjm t M hM h2) ?_
     refine hg ?_;exact (.one (.refl _))
 . have e:=bad (fun h=>h1 h.1);subst e;refine CallsD.run [] Go.Proofs.Tryz.func111 rfl rfl rfl ?_;simp only [Go.Proofs.Tryz.f111];refine hgR ?_
   first | refine v47 (xjm s L hL h1) ?_ | refine vrf (xjm s L hL h1) ?_
   refine hg ?_;exact (.one (.refl _))
end Go.Hp.T
namespace Go.Slot
open Go Go.RowKit
structure Fc where
 s:Int
 L:List Int
 t:Int
 M:List Int
namespace Fc
def C (f:Fc):List Cell:=[.raw (.int .i64 f.s),.ints .i64 f.L,.raw (.int .i64 f.t),.ints .i64 f.M]
theorem C_eq {f:Fc}:f.C=[.raw (.int .i64 f.s),.ints .i64 f.L,.raw (.int .i64 f.t),.ints .i64 f.M]:=_root_.id rfl
def ok (f:Fc):Prop:=vsx f.s f.L f.t f.M
instance (f:Fc):Decidable f.ok:=inferInstanceAs (Decidable (vsx _ _ _ _))
def of (r:Rat):Fc:=⟨sg r.num,dig r.num.natAbs,1,dig r.den⟩
def zero:Fc:=⟨0,[],0,[]⟩
def val (f:Fc):Rat:=mkRat (f.s*num f.L) (num f.M).toNat
def sz (f:Fc):Nat:=max f.L.length f.M.length
theorem vef (r:Rat):(of r).ok:=(vz3 _ _ _ _).2 ⟨r,rfl,rfl,rfl,rfl⟩
theorem v1q (r:Rat):(of r).val=r:=by
 show mkRat (sg r.num*num (dig r.num.natAbs)) (num (dig r.den)).toNat=r;rw [zmz,wft,Int.toNat_natCast,Rat.mkRat_self]
theorem ydf {f:Fc} (h:f.ok):f=of f.val:=by
 obtain ⟨r,h1,h2,h3,h4⟩:=(vz3 _ _ _ _).1 h
 have:f=of r:=by cases f;simp only [of] at *;subst h1 h2 h3 h4;rfl
 rw [this,v1q]
theorem y4k {f:Fc} (h:f.ok):∃ r,f=of r:=⟨_,ydf h⟩
def op2 (g:Rat->Rat->Rat) (a b:Fc):Fc:=if a.ok/\b.ok then of (g a.val b.val) else zero
def er (p:Prop) [Decidable p]:Int:=if p then 0 else 1
def mul:=op2 (· * ·)
theorem y4n (g:Rat->Rat->Rat) (x y:Rat):op2 g (of x) (of y)=of (g x y):=by unfold op2;rw [if_pos ⟨vef x,vef y⟩,v1q,v1q]
theorem wjm {g:Rat->Rat->Rat} {a b:Fc} (h:¬(a.ok/\b.ok)):op2 g a b=zero:=if_neg h
theorem zhy (x y:Rat):mul (of x) (of y)=of (x*y):=y4n _ x y
theorem v48 {p:Prop} [Decidable p] (h:p):er p=0:=if_pos h
theorem zhu {p:Prop} [Decidable p] (h:¬p):er p=1:=if_neg h
theorem vqh (x:Rat):(of x).sz=max (dig x.num.natAbs).length (dig x.den).length:=rfl
theorem vqg (n:Int) (d:Nat) (hd:d≠0):(of (mkRat n d)).sz<=max (dig n.natAbs).length (dig d).length:=by
 rw [vqh,Rat.num_mkRat,Rat.den_mkRat,if_neg hd,if_neg hd]
 have h1:(n / (d.gcd n.natAbs:Nat)).natAbs<=n.natAbs:=by
  rw [Int.natAbs_ediv_of_dvd (by rw [<-Int.dvd_natAbs,Int.ofNat_dvd];exact Nat.gcd_dvd_right _ _),Int.natAbs_natCast];exact Nat.div_le_self _ _
 have h2:d / d.gcd n.natAbs<=d:=Nat.div_le_self _ _
 have:=wo8 h1
 have:=wo8 h2
 omega
theorem zdh (x y:Rat):(of (x*y)).sz<=(of x).sz+(of y).sz:=by
 rw [Rat.mul_def'];refine Nat.le_trans (vqg _ _ (Nat.mul_ne_zero x.den_nz y.den_nz)) ?_;have h2:=zyh x.num y.num;have h4:=yvv x.den y.den;rw [vqh,vqh];omega
end Fc
attribute [go_sem] Fc.C_eq
instance:DecidableEq Fc:=fun a b=>decidable_of_iff (a.s=b.s/\a.L=b.L/\a.t=b.t/\a.M=b.M) ⟨fun h=>by cases a;cases b;simp at h;simp [h],fun h=>by rw [h];exact ⟨rfl,rfl,rfl,rfl⟩⟩
end Go.Slot
namespace Go.Hp.T
open Go Go.RowKit Go.Slot Go.Hp Go.Slot.T
open Go.Proofs.Tryz (prog)
attribute [local irreducible] hide RH
set_option maxRecDepth 10000
set_option maxHeartbeats 8000000
variable {Γ:List (Nat×List Cell)}
theorem of_s {r:Rat}:(Fc.of r).s=sg r.num:=_root_.id rfl
theorem of_L {r:Rat}:(Fc.of r).L=dig r.num.natAbs:=_root_.id rfl
theorem of_t {r:Rat}:(Fc.of r).t=1:=_root_.id rfl
theorem of_M {r:Rat}:(Fc.of r).M=dig r.den:=_root_.id rfl
theorem zvg:Fc.zero.s=0:=_root_.id rfl
theorem yq9:Fc.zero.L=[]:=_root_.id rfl
theorem zu9:Fc.zero.t=0:=_root_.id rfl
theorem xod:Fc.zero.M=[]:=_root_.id rfl
attribute [go_sem] of_s of_L of_t of_M zvg yq9 zu9 xod
theorem yfu (r:Rat):sg (r.den:Int)=1:=ygw (by have:=Nat.pos_of_ne_zero r.den_nz;omega)
theorem zjk {d:Nat} (h:d≠0):sg (d:Int)=1:=ygw (by omega)
theorem szL {f:Fc} {n:Nat} (h:f.sz<=n):f.L.length<=n/\f.M.length<=n:=by unfold Fc.sz at h;omega
theorem szO {r:Rat} {n:Nat} (h:(Fc.of r).sz<=n):(dig r.num.natAbs).length<=n/\(dig r.den).length<=n:=szL h
theorem vkz (f:Fc) (h:f.sz<=268435456):CallsD Γ prog 111 [.agg f.C] (.one (.raw (.bool (decide f.ok)))):=
 vbv f.s f.L f.t f.M (szL h).1 (szL h).2
theorem w0j (r:Rat) (h:(Fc.of r).sz<=268435456):CallsD Γ prog 111 [.agg (Fc.of r).C] (.one (.raw (.bool true))):=by
 have:=vkz (Γ:=Γ) (Fc.of r) h
 rwa [decide_eq_true (Fc.vef r)] at this
theorem xki (f:Fc) (h:f.sz<=268435456) (hb:¬f.ok):CallsD Γ prog 111 [.agg f.C] (.one (.raw (.bool false))):=by
 have:=vkz (Γ:=Γ) f h
 rwa [decide_eq_false hb] at this
theorem yd0:AV.Le (.agg [.raw (.int .i64 0),.zc,.raw (.int .i64 0),.zc]) (.agg Fc.zero.C):=.agg (.cons (.refl _) (.cons (.w04 _) (.cons (.refl _) (.cons (.w04 _) .nil))))
theorem w1p (x y:Int) (hx:okZ x) (hy:okZ y) :
 CallsD Γ prog 112 [.agg [.raw (.int .i64 (sg x)),.ints .i64 (dig x.natAbs)],.agg [.raw (.int .i64 (sg y)),.ints .i64 (dig y.natAbs)]]
  (.agg [.raw (.int .i64 (sg (x*y))),.ints .i64 (dig (x*y).natAbs)]):=by
 refine CallsD.run [] Go.Proofs.Tryz.func112 rfl rfl rfl ?_;simp only [Go.Proofs.Tryz.f112];refine hgR ?_
 first | refine v47 (z9b x y hx hy) ?_ | refine vrf (z9b x y hx hy) ?_
 refine hg ?_;exact (.one (.refl _))
theorem zbs (x:Int) (d:Nat) (hx:okZ x) (hd:d≠0) (hl:(dig d).length<=268435456) :
 CallsD Γ prog 112 [.agg [.raw (.int .i64 (sg x)),.ints .i64 (dig x.natAbs)],.agg [.raw (.int .i64 1),.ints .i64 (dig d)]]
  (.agg [.raw (.int .i64 (sg (x*d))),.ints .i64 (dig (x*d).natAbs)]):=by
 have:=w1p (Γ:=Γ) x (d:Int) hx hl
 rw [zjk hd] at this;exact this
theorem vai (c d:Nat) (hc0:c≠0) (hd:d≠0) (hc:(dig c).length<=268435456) (hl:(dig d).length<=268435456) :
 CallsD Γ prog 112 [.agg [.raw (.int .i64 1),.ints .i64 (dig c)],.agg [.raw (.int .i64 1),.ints .i64 (dig d)]]
  (.agg [.raw (.int .i64 1),.ints .i64 (dig (c*d))]):=by
 have:=zbs (Γ:=Γ) (c:Int) d hc hd hl
 rw [zjk hc0,show (c:Int)*d=((c*d:Nat):Int) from (Int.natCast_mul c d).symm,zjk (Nat.mul_ne_zero hc0 hd)] at this;exact this
theorem zjf (z:Int) {d:Nat} (hd:d≠0):(mkRat z d).num=z / (Int.gcd z d:Int)/\((mkRat z d).den:Int)=d / (Int.gcd z d:Int)/\0<(Int.gcd z d:Int):=by
 have hgg:Int.gcd z d=d.gcd z.natAbs:=by rw [Int.gcd_eq_natAbs_gcd_natAbs,Int.natAbs_natCast,Nat.gcd_comm]
 have hp:0<d.gcd z.natAbs:=Nat.gcd_pos_of_pos_left _ (Nat.pos_of_ne_zero hd);rw [Rat.num_mkRat,Rat.den_mkRat,if_neg hd,if_neg hd,hgg];exact ⟨rfl,by rw [Int.natCast_ediv],by omega⟩
theorem wh7 (z:Int) (d:Nat) (hz:okZ z) (hd:d≠0) (hl:(dig d).length<=268435456) :
 CallsD Γ prog 110 [.agg [.raw (.int .i64 (sg z)),.ints .i64 (dig z.natAbs)],.agg [.raw (.int .i64 1),.ints .i64 (dig d)]]
  (.tup [.agg (Fc.of (mkRat z d)).C,.one (.raw (.int .i64 0))]):=by
 obtain ⟨p1,p2,p3⟩:=zjf z hd;have hden:=yfu (mkRat z d);rw [p2] at hden
 have hden2:(mkRat z d).den=((d:Int) / (Int.gcd z d:Int)).natAbs:=by omega
 have hgl:okZ (Int.gcd z d:Int):=by
  have:(Int.gcd z d:Int).natAbs<=d:=by
   have:Int.gcd z d ∣ d:=by have:=Int.gcd_dvd_natAbs_right z d;simpa using this
   exact Nat.le_of_dvd (Nat.pos_of_ne_zero hd) this
  exact Nat.le_trans (wo8 this) hl
 have hr:=vdu (Γ:=Γ) (d:Int) hl;have hgg:=zl1 (Γ:=Γ) z d hz hl;have hd1:=vbz (Γ:=Γ) z (Int.gcd z d:Int) hz hgl p3;have hd2:=vbz (Γ:=Γ) d (Int.gcd z d:Int) hl hgl p3;rw [zjk hd] at hr hgg hd2;rw [hden] at hd2;rw [show ((d:Nat):Int).natAbs=d from rfl] at hr hgg hd2
 have hfin:(Fc.of (mkRat z d)).C=[.raw (.int .i64 (sg (z / (Int.gcd z d:Int)))),.ints .i64 (dig (z / (Int.gcd z d:Int)).natAbs),.raw (.int .i64 1),.ints .i64 (dig ((d:Int) / (Int.gcd z d:Int)).natAbs)]:=by
  rw [<-p1,<-hden2];rfl
 rw [hfin];generalize (Int.gcd z d:Int)=g at *;refine CallsD.run [] Go.Proofs.Tryz.func110 rfl rfl rfl ?_;simp only [Go.Proofs.Tryz.f110];refine hgR ?_
 first | refine v47 (vdu z hz) ?_ | refine vrf (vdu z hz) ?_
 refine hg ?_
 first | refine v47 hr ?_ | refine vrf hr ?_
 refine hg ?_
 first | refine v47 hgg ?_ | refine vrf hgg ?_
 refine hg ?_
 first | refine v47 hd1 ?_ | refine vrf hd1 ?_
 refine hg ?_
 first | refine v47 hd2 ?_ | refine vrf hd2 ?_
 refine hg ?_;exact (.tup (.cons (.refl _) (.cons (.refl _) .nil)))
theorem zet (a b:Fc) (ha:a.sz<=67108864) (hb:b.sz<=67108864) :
 CallsD Γ prog 87 [.agg a.C,.agg b.C] (.tup [.agg (Fc.mul a b).C,.one (.raw (.int .i64 (Fc.er (a.ok/\b.ok))))]):=by
 by_cases h1:a.ok
 . by_cases h2:b.ok
   . rw [Fc.v48 ⟨h1,h2⟩];obtain ⟨x,rfl⟩:=Fc.y4k h1;obtain ⟨y,rfl⟩:=Fc.y4k h2;have lx:=szO ha;have ly:=szO hb;have l1:=zyh x.num y.num;have l4:=yvv x.den y.den;rw [Fc.zhy,Rat.mul_def'];refine CallsD.run [] Go.Proofs.Tryz.func87 rfl rfl rfl ?_;simp only [Go.Proofs.Tryz.f87];refine hgR ?_
     first | refine v47 (w0j x (by omega)) ?_ | refine vrf (w0j x (by omega)) ?_
     refine hg ?_
     first | refine v47 (w0j y (by omega)) ?_ | refine vrf (w0j y (by omega)) ?_
     refine hg ?_
     first | refine v47 (w1p x.num y.num (by unfold okZ;omega) (by unfold okZ;omega)) ?_ | refine vrf (w1p x.num y.num (by unfold okZ;omega) (by unfold okZ;omega)) ?_
     refine hg ?_
     first | refine v47 (vai x.den y.den x.den_nz y.den_nz (by omega) (by omega)) ?_ | refine vrf (vai x.den y.den x.den_nz y.den_nz (by omega) (by omega)) ?_
     refine hg ?_
     first | refine v47 (wh7 (x.num*y.num) (x.den*y.den) (by unfold okZ;omega) (Nat.mul_ne_zero x.den_nz y.den_nz) (by omega)) ?_ | refine vrf (wh7 (x.num*y.num) (x.den*y.den) (by unfold okZ;omega) (Nat.mul_ne_zero x.den_nz y.den_nz) (by omega)) ?_
     refine hg ?_;refine hik ?_;refine hg ?_;exact (.tup (.cons (.refl _) (.cons (.refl _) .nil)))
   . rw [Fc.zhu (fun h=>h2 h.2),show Fc.mul a b=Fc.zero from Fc.wjm (fun h=>h2 h.2)];obtain ⟨x,rfl⟩:=Fc.y4k h1;refine CallsD.run [] Go.Proofs.Tryz.func87 rfl rfl rfl ?_;simp only [Go.Proofs.Tryz.f87];refine hgR ?_
     first | refine v47 (w0j x (by omega)) ?_ | refine vrf (w0j x (by omega)) ?_
     refine hg ?_
     first | refine v47 (xki b (by omega) h2) ?_ | refine vrf (xki b (by omega) h2) ?_
     refine hg ?_;exact (.tup (.cons yd0 (.cons (.refl _) .nil)))
 . rw [Fc.zhu (fun h=>h1 h.1),show Fc.mul a b=Fc.zero from Fc.wjm (fun h=>h1 h.1)];refine CallsD.run [] Go.Proofs.Tryz.func87 rfl rfl rfl ?_;simp only [Go.Proofs.Tryz.f87];refine hgR ?_
   first | refine v47 (xki a (by omega) h1) ?_ | refine vrf (xki a (by omega) h1) ?_
   refine hg ?_;exact (.tup (.cons yd0 (.cons (.refl _) .nil)))
theorem yyc (n:Int) (hn:inI n):CallsD Γ prog 57 [.one (.raw (.int .i64 n))] (.agg (Fc.of (n:Rat)).C):=by
 have h1:=cOfZ (Γ:=Γ) 1 (by decide);rw [show sg 1=1 from rfl] at h1;refine CallsD.run [] Go.Proofs.Tryz.func57 rfl rfl rfl ?_;simp only [Go.Proofs.Tryz.f57];refine hgR ?_
 first | refine v47 (cOfZ n hn) ?_ | refine vrf (cOfZ n hn) ?_
 refine hg ?_
 first | refine v47 h1 ?_ | refine vrf h1 ?_
 refine hg ?_;exact (.one (.refl _))
end Go.Hp.T
namespace Go.Hp.T
open Go Go.RowKit Go.Slot Go.Hp Go.Slot.T
open Go.Proofs.Tryz (prog)
attribute [local irreducible] hide RH
set_option maxRecDepth 10000
set_option maxHeartbeats 4000000
variable {Γ:List (Nat×List Cell)}
abbrev zC (z:Int):List Cell:=[.raw (.int .i64 (sg z)),.ints .i64 (dig z.natAbs)]
theorem zuz (z:Int) (d:Nat) (hz:okZ z) (hd:d≠0) (hl:(dig d).length<=268435456):CallsD Γ prog 110 [.agg (zC z),.agg (zC d)] (.tup [.agg (Fc.of (Rat.divInt z d)).C,.one (cI 0)]):=by
 have:=toD (Γ:=Γ) (wh7 z d hz hd hl)
 rw [Rat.divInt_ofNat];unfold zC;rw [zjk hd];exact this
theorem yci (z:Int) (d:Nat) (hz:okZ z) (hd:d≠0) (hl:(dig d).length<=268435456):CallsD Γ prog 110 [.agg (zC z),.agg (zC (-(d:Int)))] (.tup [.agg (Fc.of (Rat.divInt z (-(d:Int)))).C,.one (cI 0)]):=by
 have hdd:okZ (-(d:Int)):=by unfold okZ;rw [show (-(d:Int)).natAbs=d by omega];exact hl
 have hzz:okZ (-z):=by unfold okZ at hz ⊢;rw [Int.natAbs_neg];exact hz
 have hdz:okZ (d:Int):=hl;have hs:sg (-(d:Int)) = -1:=zta (by omega);have hgp:0<(Int.gcd (-z) d:Int):=(zjf (-z) hd).2.2;obtain ⟨p1,p2,p3⟩:=zjf (-z) hd;have hden:=yfu (mkRat (-z) d);rw [p2] at hden
 have hgl:okZ (Int.gcd (-z) d:Int):=by
  have:(Int.gcd (-z) d:Int).natAbs<=d:=by
   have:Int.gcd (-z) d ∣ d:=by have:=Int.gcd_dvd_natAbs_right (-z) d;simpa using this
   exact Nat.le_of_dvd (Nat.pos_of_ne_zero hd) this
  exact Nat.le_trans (wo8 this) hl
 have hn1:=vuk (Γ:=Γ) z hz;have hn2:=vuk (Γ:=Γ) (-(d:Int)) hdd;rw [Int.neg_neg,hs,zjk hd] at hn2;have hr:=vdu (Γ:=Γ) (-(d:Int)) hdd;rw [hs] at hr;have hg:=zl1 (Γ:=Γ) (-z) d hzz hdz;have hd1:=vbz (Γ:=Γ) (-z) (Int.gcd (-z) d:Int) hzz hgl hgp;have hd2:=vbz (Γ:=Γ) d (Int.gcd (-z) d:Int) hdz hgl hgp;rw [zjk hd] at hg hd2;rw [hden] at hd2
 have hden2:(mkRat (-z) d).den=((d:Int) / (Int.gcd (-z) d:Int)).natAbs:=by omega
 have hfin:(Fc.of (Rat.divInt z (-(d:Int)))).C=[.raw (.int .i64 (sg (-z / (Int.gcd (-z) d:Int)))),.ints .i64 (dig (-z / (Int.gcd (-z) d:Int)).natAbs),.raw (.int .i64 1),.ints .i64 (dig ((d:Int) / (Int.gcd (-z) d:Int)).natAbs)]:=by
  rw [Rat.divInt_neg',Rat.divInt_ofNat,<-p1,<-hden2];rfl
 rw [hfin];generalize (Int.gcd (-z) d:Int)=g at *;unfold zC;rw [hs];refine CallsD.run [] Go.Proofs.Tryz.func110 rfl rfl rfl ?_;simp only [Go.Proofs.Tryz.f110];refine hgR ?_
 repeat' ((first | refine hfk ?_ ?_<;>intros | refine hik ?_ | with_reducible first | refine v47 (toD (vdu z hz)) ?_ | refine vrf (toD (vdu z hz)) ?_ | refine v47 (toD hr) ?_ | refine vrf (toD hr) ?_ | refine v47 (toD hn1) ?_ | refine vrf (toD hn1) ?_ | refine v47 (toD hn2) ?_ | refine vrf (toD hn2) ?_ | refine v47 (toD hg) ?_ | refine vrf (toD hg) ?_ | refine v47 (toD hd1) ?_ | refine vrf (toD hd1) ?_ | refine v47 (toD hd2) ?_ | refine vrf (toD hd2) ?_)<;>refine hgS ?_)
 exact RLe.ofEq rfl
theorem xy8 (z q:Int) (hz:okZ z) (hq:q≠0) (hl:okZ q):CallsD Γ prog 110 [.agg (zC z),.agg (zC q)] (.tup [.agg (Fc.of (Rat.divInt z q)).C,.one (cI 0)]):=by
 unfold okZ at hl
 rcases Int.lt_or_gt_of_ne hq with h | h
 . have e:q = -((q.natAbs:Nat):Int):=by omega
   have:=yci (Γ:=Γ) z q.natAbs hz (by omega) hl
   rw [<-e] at this;exact this
 . have e:((q.natAbs:Nat):Int)=q:=by omega
   have:=zuz (Γ:=Γ) z q.natAbs hz (by omega) hl
   rw [e] at this;exact this
theorem w6c (p q:Int) (hp:inI p) (hq:inI q) (hq0:q≠0):CallsD Γ prog 86 [.one (cI p),.one (cI q)] (.tup [.agg (Fc.of (Rat.divInt p q)).C,.one (cI 0)]):=by
 have okI:∀ n:Int,inI n->okZ n:=fun n hn=>by
  unfold okZ
  have:=xek (n:=n.natAbs) (by unfold inI at hn;omega)
  omega
 refine CallsD.run [] Go.Proofs.Tryz.func86 rfl rfl rfl ?_;simp only [Go.Proofs.Tryz.f86];refine hgR ?_
 repeat' ((first | refine hfk ?_ ?_<;>intros | refine hik ?_ | with_reducible first | refine v47 (toD (cOfZ p hp)) ?_ | refine vrf (toD (cOfZ p hp)) ?_ | refine v47 (toD (cOfZ q hq)) ?_ | refine vrf (toD (cOfZ q hq)) ?_ | refine v47 (xy8 p q (okI p hp) hq0 (okI q hq)) ?_ | refine vrf (xy8 p q (okI p hp) hq0 (okI q hq)) ?_)<;>refine hgS ?_)
 exact RLe.ofEq rfl
theorem x7f (x y:Rat):x / y=Rat.divInt (x.num*y.den) (x.den*y.num):=by
 rw [Rat.div_def,Rat.inv_def]
 conv=>lhs;rw [<-Rat.num_divInt_den x]
 rw [Rat.divInt_mul_divInt]
abbrev fQ (x:Rat):List Cell:=[.raw (.int .i64 (sg x.num)),.ints .i64 (dig x.num.natAbs),.raw (.int .i64 1),.ints .i64 (dig x.den)]
abbrev qs (x:Rat):Nat:=(Fc.of x).sz
theorem vh9 (x:Rat) (h:qs x<=268435456):CallsD Γ prog 111 [.agg (fQ x)] (.one (cB true)):=toD (w0j x h)
theorem qMul (x y:Rat) (hx:qs x<=67108864) (hy:qs y<=67108864):CallsD Γ prog 87 [.agg (fQ x),.agg (fQ y)] (.tup [.agg (fQ (x*y)),.one (cI 0)]):=by
 have:=toD (Γ:=Γ) (zet (Fc.of x) (Fc.of y) hx hy)
 rw [Fc.zhy,Fc.v48 ⟨Fc.vef x,Fc.vef y⟩] at this;exact this
theorem qInt (n:Int) (hn:inI n):CallsD Γ prog 57 [.one (cI n)] (.agg (fQ (n:Rat))):=toD (yyc n hn)
theorem qOf (p q:Int) (hp:inI p) (hq:inI q) (hq0:q≠0):CallsD Γ prog 86 [.one (cI p),.one (cI q)] (.tup [.agg (fQ (Rat.divInt p q)),.one (cI 0)]):=w6c p q hp hq hq0
theorem qDiv (x y:Rat) (hy:y≠0) (hx:qs x<=67108864) (hyl:qs y<=67108864):CallsD Γ prog 88 [.agg (fQ x),.agg (fQ y)] (.tup [.agg (fQ (x / y)),.one (cI 0)]):=by
 have lx:=szO hx;have ly:=szO hyl;have l1:=zyh x.num y.den;have l4:=zyh (x.den:Int) y.num
 have hyn:y.num≠0:=fun h=>hy (Rat.num_eq_zero.1 h)
 have hsy:sg y.num≠0:=by have:=yvy y.num;omega
 have hD:okZ (x.den:Int):=by unfold okZ;have:=lx.2;simp only [Int.natAbs_natCast];omega
 have hDy:okZ (y.den:Int):=by unfold okZ;have:=ly.2;simp only [Int.natAbs_natCast];omega
 have t1:=w1p (Γ:=Γ) x.num y.den (by unfold okZ;omega) hDy;have t2:=w1p (Γ:=Γ) (x.den:Int) y.num hD (by unfold okZ;omega);rw [zjk y.den_nz] at t1;rw [zjk x.den_nz] at t2;simp only [Int.natAbs_natCast] at t1 t2;have hden:((x.den:Int)*y.num)≠0:=Int.mul_ne_zero (by have:=x.den_nz;omega) hyn;have hn:=xy8 (Γ:=Γ) (x.num*y.den) (x.den*y.num) (by unfold okZ;simp only [Int.natAbs_natCast] at l1;omega) hden (by unfold okZ;simp only [Int.natAbs_natCast] at l4;omega);rw [x7f];refine CallsD.run [] Go.Proofs.Tryz.func88 rfl rfl rfl ?_;simp only [Go.Proofs.Tryz.f88];refine hgR ?_
 repeat' ((first | refine hfk ?_ ?_<;>intros | refine hik ?_ | with_reducible first | refine v47 (vh9 x (by omega)) ?_ | refine vrf (vh9 x (by omega)) ?_ | refine v47 (vh9 y (by omega)) ?_ | refine vrf (vh9 y (by omega)) ?_ | refine v47 (toD t1) ?_ | refine vrf (toD t1) ?_ | refine v47 (toD t2) ?_ | refine vrf (toD t2) ?_ | refine v47 (hn) ?_ | refine vrf (hn) ?_)<;>refine hgS ?_)
 exact RLe.ofEq rfl
end Go.Hp.T
namespace Go.Hp.T
open Go Go.RowKit Go.Slot Go.Hp
set_option maxRecDepth 10000
structure Un where
 d:Dm
 f:Rat
abbrev unC (u:Un):List Cell:=[cI u.d.a,cI u.d.b,cI u.d.c,cI u.d.d,cI u.d.e,cI u.d.f,.raw (.int .i64 (sg u.f.num)),.ints .i64 (dig u.f.num.natAbs),.raw (.int .i64 1),.ints .i64 (dig u.f.den)]
abbrev unZ:List Cell:=[cI 0,cI 0,cI 0,cI 0,cI 0,cI 0,cI 0,.zc,cI 0,.zc]
def unO:Option Un->List Cell
 | some u=>unC u
 | none=>unZ
def xmg (b e:Int):Dm:=⟨bif decide (b=0) then e else 0,bif decide (b=1) then e else 0,bif decide (b=2) then e else 0,bif decide (b=3) then e else 0,bif decide (b=4) then e else 0,bif decide (b=5) then e else 0⟩
def unOf (b e p q:Int):Un:=⟨xmg b e,Rat.divInt p q⟩
def symF (s:ByteArray):Option Un:=
 bif seq s ⟨#[103]⟩ then some (unOf 0 1 1 1) else
 bif seq s ⟨#[116]⟩ then some (unOf 0 1 1000000 1) else
 bif seq s ⟨#[109]⟩ then some (unOf 1 1 1 1) else
 bif seq s ⟨#[108]⟩ then some (unOf 1 3 1 1000) else
 bif seq s ⟨#[115]⟩ then some (unOf 2 1 1 1) else
 bif seq s ⟨#[104]⟩ then some (unOf 2 1 3600 1) else
 bif seq s ⟨#[100]⟩ then some (unOf 2 1 86400 1) else
 bif seq s ⟨#[74]⟩ then some (unOf 3 1 1 1) else
 bif seq s ⟨#[87,104]⟩ then some (unOf 3 1 3600 1) else
 bif seq s ⟨#[99,101,110,116]⟩ then some (unOf 4 1 1 1) else
 bif seq s ⟨#[101,117,114]⟩ then some (unOf 4 1 100 1) else
 bif seq s ⟨#[112,99]⟩ then some (unOf 5 1 1 1) else none
def ykb (s:ByteArray) (i:Nat):ByteArray:=s.extract i s.size
def zlk (s:ByteArray) (i:Nat):ByteArray:=s.extract 0 i
def preF (c:Int):Option (Int×Int):=bif decide (c=107) then some (1000,1) else bif decide (c=77) then some (1000000,1) else bif decide (c=71) then some (1000000000,1) else bif decide (c=109) then some (1,1000) else none
def preO:Option (Int×Int)->Int×Int
 | some p=>p
 | none=>(0,0)
def x4p (s:ByteArray):Bool:=seq s ⟨#[103]⟩||seq s ⟨#[109]⟩||seq s ⟨#[108]⟩||seq s ⟨#[115]⟩||seq s ⟨#[74]⟩||seq s ⟨#[87,104]⟩
theorem wco (s:ByteArray) (i:Nat):(ykb s i).size=s.size-i:=by unfold ykb;simp
theorem wcz (s:ByteArray) (i:Nat) (h:i<=s.size):(zlk s i).size=i:=by unfold zlk;simp;omega
structure It where
 w:ByteArray
 e:Int
instance:Inhabited It:=⟨⟨⟨#[]⟩,0⟩⟩
def It.C (x:It):List Cell:=[cS x.w,cI x.e]
abbrev itC (x:It):List Cell:=[cS x.w,cI x.e]
theorem It.C_eq (x:It):x.C=itC x:=rfl
attribute [go_sem] It.C_eq
def znz (s:ByteArray):ByteArray:=ykb s (vhr zlq s)
def xrv (s:ByteArray):Bool:=decide (¬(znz s).size=0)&&decide (50<=w7f (znz s) 0)&&decide (w7f (znz s) 0<=57)
def yqt (s:ByteArray):It:=⟨zlk s (vhr zlq s),bif xrv s then w7f (znz s) 0-48 else 1⟩
def ynj (s:ByteArray):ByteArray:=bif xrv s then ykb (znz s) 1 else znz s
def zoj (s:ByteArray):Bool:=decide (0<(vhr zlq s:Int))
def zcl (s:ByteArray):Option Un:=
 bif (symF s).isSome then symF s else
 bif !(preF (w7f s 0)).isSome||!(symF (ykb s 1)).isSome||!x4p (ykb s 1) then none else
 match preF (w7f s 0),symF (ykb s 1) with
 | some p,some u=>some ⟨u.d,u.f*Rat.divInt p.1 p.2⟩
 | _,_=>none
def iter {α:Type} (g:α->α):Nat->α->α
 | 0,a=>a
 | n+1,a=>iter g n (g a)
theorem vio {α:Type} (g:α->α):∀(n:Nat) (a:α),iter g (n+1) a=g (iter g n a)
 | 0,_=>rfl
 | n+1,a=>by rw [iter,vio g n (g a),iter]
def vfa (a f:Rat) (e:Int):Rat:=bif decide (0<e) then iter (· * f) e.natAbs a else iter (· / f) e.natAbs a
theorem y5e (x y:Rat):qs (x*y)<=qs x+qs y:=Fc.zdh x y
theorem w0x (x:Rat):qs x⁻¹<=qs x+1:=by
 by_cases h:x=0
 . subst h;rw [Rat.inv_zero];exact Nat.le_succ _
 . show (Fc.of x⁻¹).sz<=(Fc.of x).sz+1
   have hn:x.num≠0:=fun e=>h (Rat.num_eq_zero.1 e)
   rw [Fc.vqh,Fc.vqh,Rat.num_inv,Rat.den_inv,if_neg hn]
   have:(x.num.sign*(x.den:Int)).natAbs=x.den:=by
    rw [Int.natAbs_mul,Int.natAbs_sign];simp [hn]
   rw [this];omega
theorem yti (x y:Rat):qs (x / y)<=qs x+qs y+1:=by
 rw [Rat.div_def]
 have:=y5e x y⁻¹
 have:=w0x y
 omega
def Dm.in03 (d:Dm):Prop:=(0<=d.a/\d.a<=3)/\(0<=d.b/\d.b<=3)/\(0<=d.c/\d.c<=3)/\(0<=d.d/\d.d<=3)/\(0<=d.e/\d.e<=3)/\(0<=d.f/\d.f<=3)
theorem xuw {p q:Int} (hp:1<=p/\p<=1000000000) (hq:1<=q/\q<=1000000000):qs (Rat.divInt p q)<=4/\Rat.divInt p q≠0:=by
 obtain ⟨n,rfl⟩:∃ n:Nat,q=n:=⟨q.toNat,by omega⟩;rw [Rat.divInt_ofNat];refine ⟨?_,(Rat.mkRat_ne_zero (by omega)).2 (by omega)⟩
 have:=Fc.vqg p n (by omega)
 have h1:=xek (n:=p.natAbs) (by omega);have h2:=xek (n:=n) (by omega);show (Fc.of _).sz<=4;omega
theorem xh7 {b e:Int} (he:0<=e/\e<=3):(xmg b e).in03:=by
 have key:∀ p:Bool,0<=(bif p then e else 0)/\(bif p then e else 0)<=3:=fun p=>by cases p<;>simp<;>omega
 exact ⟨key _,key _,key _,key _,key _,key _⟩
theorem w4d {b e p q:Int} (he:0<=e/\e<=3) (hp:1<=p/\p<=1000000000) (hq:1<=q/\q<=1000000000):(unOf b e p q).d.in03/\qs (unOf b e p q).f<=4/\(unOf b e p q).f≠0:=⟨xh7 he,xuw hp hq⟩
theorem wi8 {s:ByteArray} {u:Un} (h:symF s=some u):u.d.in03/\qs u.f<=4/\u.f≠0:=by
 unfold symF at h
 repeat' first
  | (cases h;exact w4d (by omega) (by omega) (by omega))
  | (cases hc:seq s _<;>rw [hc] at h<;>simp only [cond_true,cond_false] at h)
 cases h
theorem y8o {c:Int} {p:Int×Int} (h:preF c=some p):(1<=p.1/\p.1<=1000000000)/\(1<=p.2/\p.2<=1000000000):=by
 unfold preF at h
 repeat' first
  | (cases h;done)
  | (cases h;simp;done)
  | (cases hc:decide (c=_)<;>rw [hc] at h<;>simp only [cond_true,cond_false] at h)
theorem xmf {s:ByteArray} {u:Un} (h:zcl s=some u):u.d.in03/\qs u.f<=8/\u.f≠0:=by
 unfold zcl at h
 cases h1:(symF s).isSome with
 | true=>
  rw [h1,cond_true] at h;obtain ⟨a,b,c⟩:=wi8 h;exact ⟨a,by omega,c⟩
 | false=>
  rw [h1,cond_false] at h
  cases h2:(!(preF (w7f s 0)).isSome||!(symF (ykb s 1)).isSome||!x4p (ykb s 1)) with
  | true=>rw [h2,cond_true] at h;cases h
  | false=>
   rw [h2,cond_false] at h;split at h
   . rename_i p v hp hv
     cases h;obtain ⟨a,b,c⟩:=wi8 hv;obtain ⟨d,e⟩:=y8o hp;obtain ⟨f,g⟩:=xuw d e;refine ⟨a,?_,?_⟩
     . have:=y5e v.f (Rat.divInt p.1 p.2)
       show qs (v.f*_)<=8;omega
     . exact fun h0=>by
        rcases Rat.mul_eq_zero.1 h0 with h0 | h0
        . exact c h0
        . exact g h0
   . cases h
def pw (a f:Rat) (x:Int) (i:Nat):Rat:=bif decide (0<x) then iter (· * f) i a else iter (· / f) i a
theorem zq6 (a f:Rat) (x:Int):pw a f x 0=a:=by unfold pw;cases decide (0<x)<;>rfl
theorem zh1 {a f:Rat} {x:Int} (h:0<x) (i:Nat):pw a f x (i+1)=pw a f x i*f:=by unfold pw;rw [decide_eq_true h];exact vio _ _ _
theorem xhn {a f:Rat} {x:Int} (h:¬0<x) (i:Nat):pw a f x (i+1)=pw a f x i / f:=by unfold pw;rw [decide_eq_false h];exact vio _ _ _
theorem xz4 (a f:Rat) (x:Int):∀ i,qs (pw a f x i)<=qs a+i*(qs f+1)
 | 0=>by rw [zq6];omega
 | i+1=>by
  have ih:=xz4 a f x i;rw [Nat.add_mul,Nat.one_mul];by_cases h:0<x
  . rw [zh1 h]
    have:=y5e (pw a f x i) f
    omega
  . rw [xhn h]
    have:=yti (pw a f x i) f
    omega
theorem y9h (a f:Rat) (x:Int):vfa a f x=pw a f x x.natAbs:=rfl
theorem xp1 (s:ByteArray):1<=(yqt s).e/\(yqt s).e<=9:=by
 unfold yqt
 cases h:xrv s with
 | false=>simp
 | true=>
  simp only [xrv,Bool.and_eq_true,decide_eq_true_eq] at h;simp only [cond_true];omega
theorem vvm (s:ByteArray):(ynj s).size<=s.size:=by
 unfold ynj znz
 cases xrv s<;>simp only [cond_true,cond_false,wco]<;>omega
def vsy (c:Int) (x:It):It:=bif decide (c=47) then ⟨x.w,0-x.e⟩ else x
def y8h (s p:ByteArray):Bool:=decide ((p.size:Int)<=s.size)&&seq (zlk s p.size) p
def xp0 (s:ByteArray):ByteArray:=bif y8h s ⟨#[49]⟩ then ykb s 1 else ⟨#[42]⟩++s
def yn7:Nat->ByteArray->List It->Option (List It)
 | 0,_,_=>none
 | n+1,r,acc=>bif decide (r.size=0) then some acc else
  bif !zoj (ykb r 1)||(decide (¬w7f r 0=42)&&decide (¬w7f r 0=47)) then none else
  yn7 n (ynj (ykb r 1)) (acc++[vsy (w7f r 0) (yqt (ykb r 1))])
def wsh (s:ByteArray):Option (List It):=bif decide (s.size=0) then some [] else bif decide (40<(s.size:Int)) then none else yn7 (s.size+2) (xp0 s) []
def itO:Option (List It)->List It
 | some l=>l
 | none=>[]
def It.ok (x:It):Prop:=1<=x.w.size/\x.w.size<=1000/\-9<=x.e/\x.e<=9
theorem vdf {r:ByteArray} (h:zoj r=true) (hr:r.size<=1000) (c:Int):(vsy c (yqt r)).ok:=by
 have he:=xp1 r;have hw:(yqt r).w.size=vhr zlq r:=wcz _ _ (zhj _ _);have hl:=zhj zlq r
 have h0:1<=vhr zlq r:=by
  have:(0:Int)<(vhr zlq r:Int):=by simpa [zoj] using h
  omega
 unfold vsy
 cases decide (c=47)
 . exact ⟨by simp only [cond_false];omega,by simp only [cond_false];omega,by simp only [cond_false];omega,by simp only [cond_false];omega⟩
 . exact ⟨by simp only [cond_true];omega,by simp only [cond_true];omega,by simp only [cond_true];omega,by simp only [cond_true];omega⟩
theorem w5b : ∀ (n : Nat) (r : ByteArray) (acc l : List It), yn7 n r acc = some l → r.size ≤ 1000 → (∀ x ∈ acc, x.ok) → l.length ≤ acc.length + r.size ∧ ∀ x ∈ l, x.ok
 | 0,_,_,_,h,_,_=>by cases h
 | n + 1, r, acc, l, h, hr, ha => by
  rw [yn7] at h;by_cases h0:r.size=0
  . rw [decide_eq_true h0,cond_true] at h;cases h;exact ⟨by omega,ha⟩
  . rw [decide_eq_false h0, cond_false] at h
    cases hb:(!zoj (ykb r 1)||(decide (¬w7f r 0=42)&&decide (¬w7f r 0=47))) with
    | true=>rw [hb,cond_true] at h;cases h
    | false=>
     rw [hb,cond_false] at h
     have hok:zoj (ykb r 1)=true:=by
      cases hc:zoj (ykb r 1) with
      | true=>rfl
      | false=>rw [hc] at hb;simp at hb
     have hd:=wco r 1;have hcs:=vvm (ykb r 1)
     obtain ⟨h1,h2⟩:=w5b n _ _ _ h (by omega) (fun x hx=>by
      rcases List.mem_append.1 hx with hx | hx
      . exact ha x hx
      . simp at hx;subst hx;exact vdf hok (by omega) _)
     refine ⟨?_,h2⟩;rw [List.length_append,List.length_singleton] at h1;omega
theorem y16 {s : ByteArray} {l : List It} (h : wsh s = some l) : l.length ≤ 41 ∧ ∀ x ∈ l, x.ok := by
 unfold wsh at h;by_cases h0:s.size=0
 . rw [decide_eq_true h0,cond_true] at h;cases h;simp
 . rw [decide_eq_false h0, cond_false] at h;by_cases h1:40<(s.size:Int)
   . rw [decide_eq_true h1,cond_true] at h;cases h
   . rw [decide_eq_false h1,cond_false] at h
     have hsz:(xp0 s).size<=s.size+1:=by
      unfold xp0;have h42:(⟨#[42]⟩:ByteArray).size=1:=rfl
      cases y8h s ⟨#[49]⟩
      . simp only [cond_false,ByteArray.size_append];omega
      . simp only [cond_true,wco];omega
     obtain ⟨a,b⟩:=w5b _ _ _ _ h (by omega) (fun x hx=>by cases hx);exact ⟨by simp at a;omega,b⟩
def Dm.acc (x y:Dm) (e:Int):Dm:=⟨x.a+y.a*e,x.b+y.b*e,x.c+y.c*e,x.d+y.d*e,x.e+y.e*e,x.f+y.f*e⟩
def v0e:List It->Un->Option Un
 | [],u=>some u
 | x::l,u=>match zcl x.w with
  | none=>none
  | some v=>v0e l ⟨u.d.acc v.d x.e,vfa u.f v.f x.e⟩
def whw (s:ByteArray):Option Un×Int:=match wsh s with
 | none=>(none,12)
 | some l=>match v0e l ⟨Dm.zero,(1:Int)⟩ with
  | none=>(none,11)
  | some u=>bif vk8 u.d then (some u,0) else (none,3)
def Dm.le (d:Dm) (n:Int):Prop:=(-n<=d.a/\d.a<=n)/\(-n<=d.b/\d.b<=n)/\(-n<=d.c/\d.c<=n)/\(-n<=d.d/\d.d<=n)/\(-n<=d.e/\d.e<=n)/\(-n<=d.f/\d.f<=n)
theorem yj7 {a e:Int} (ha:0<=a/\a<=3) (he:-9<=e/\e<=9):-27<=a*e/\a*e<=27:=by
 have:a=0\/a=1\/a=2\/a=3:=by omega
 rcases this with rfl | rfl | rfl | rfl<;>omega
theorem Dm.vo7 {x y:Dm} {e n:Int} (hx:x.le n) (hy:y.in03) (he:-9<=e/\e<=9):(x.acc y e).le (n+27):=by
 obtain ⟨a1,a2,a3,a4,a5,a6⟩:=hx;obtain ⟨b1,b2,b3,b4,b5,b6⟩:=hy;have c1:=yj7 b1 he;have c2:=yj7 b2 he;have c3:=yj7 b3 he;have c4:=yj7 b4 he;have c5:=yj7 b5 he;have c6:=yj7 b6 he;unfold Dm.le Dm.acc;simp only;omega
theorem xfh:qs ((1:Int):Rat)<=1:=by
 show max (dig (1:Nat)).length (dig (1:Nat)).length<=1
 have:=xgb (n:=1) (k:=1) (by decide)
 omega
def dmO:Option Un->Dm
 | some u=>u.d
 | none=>Dm.zero
def fcO (i:Nat):Option Un->Cell
 | some u=>(fQ u.f).getD i .zc
 | none=>[cI 0,.zc,cI 0,.zc].getD i .zc
abbrev unX (o:Option Un):List Cell:=[cI (dmO o).a,cI (dmO o).b,cI (dmO o).c,cI (dmO o).d,cI (dmO o).e,cI (dmO o).f,fcO 0 o,fcO 1 o,fcO 2 o,fcO 3 o]
theorem y4p (o:Option Un):unO o=unX o:=by cases o<;>rfl
end Go.Hp.T
