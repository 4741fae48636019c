/- The proof, part Q20: Ch, Le, Ci, Cj, Ck, Lf, Cl, Cm, Fd. -/
import Derived.Test.YtkbkjjahlafhoaaGreatDoorQ17
import Derived.Test.YtkbkjjahlafhoaaGreatDoorQ19
import Derived.Test.YtkbkjjahlafhoaaGreatDoorQ16
namespace Go.Hp.T
open Go Go.RowKit Go.Slot Go.Hp Go.Slot.T
open Go.Proofs.Tryz
attribute [local irreducible] hide RH
set_option maxRecDepth 10000
set_option maxHeartbeats 8000000
variable {Γ:List (Nat×List Cell)}
theorem cDiv (a b:Nat) (la:(dig a).length<=1073741824) (hl:(dig b).length<=1073741824) (hb:b≠0) :
 CallsD Γ prog 88 [.one (.ints .i64 (dig a)),.one (.ints .i64 (dig b))] (.tup [.one (.ints .i64 (dig (a / b))),.one (.ints .i64 (dig (a % b)))]):=by
 have ea:=wag a;have eb:=wag b
 have e1:(num (dig a) / num (dig b)).toNat=a / b:=by rw [ea,eb];exact Int.toNat_natCast _
 have e2:(num (dig a) % num (dig b)).toNat=a % b:=by rw [ea,eb];exact Int.toNat_natCast _
 rw [<-e1,<-e2]
 rcases Nat.lt_or_ge a b with h | h
 . exact z5r _ _ (v8d _) (y1w _) (v8d _) (y1w _) la hl (by omega)
 . rcases Nat.lt_or_ge (dig b).length 2 with h1 | h1
   . have h0:(dig b).length≠0:=fun e=>hb (v60.1 (List.eq_nil_of_length_eq_zero e))
     exact xhu _ _ (v8d _) (y1w _) (v8d _) (y1w _) la (by omega) (by omega)
   . exact v13 _ _ (v8d _) (y1w _) (v8d _) (y1w _) la h1 (by omega)
theorem w9z (x y:Int) (hx:okZ x) (hy:okZ y) (hy0:0<y) :
 CallsD Γ prog 97 [.agg [.raw (.int .i64 (sg x)),.ints .i64 (dig x.natAbs)],.agg [.raw (.int .i64 (sg y)),.ints .i64 (dig y.natAbs)]]
  (.tup [.agg [.raw (.int .i64 (sg (x / y))),.ints .i64 (dig (x / y).natAbs)],.agg [.raw (.int .i64 (sg (x % y))),.ints .i64 (dig (x % y).natAbs)],.one (.raw (.int .i64 0))]):=by
 have sx:=yo8 x;have sy:=vge hy0;have hn:=Nat.div_add_mod x.natAbs y.natAbs;have hr:=Nat.mod_lt x.natAbs (show 0<y.natAbs by omega);have hqx:=Nat.div_le_self x.natAbs y.natAbs;have hrx:=Nat.mod_le x.natAbs y.natAbs;have hlq:=z6g hqx;have hlr:=z6g hrx;generalize hQ:x.natAbs / y.natAbs=Q at *;generalize hR:x.natAbs % y.natAbs=R at *
 have hyQ:((y.natAbs*Q:Nat):Int)=y*Q:=by rw [Int.natCast_mul];congr 1;omega
 have eR:=wag R;have eQ:=wag Q;have ey:=zyb y;have hlQ1:=wmg Q 1
 have h1l:(dig 1).length=1:=by rw [vv4 (by decide),v6p];rfl
 have hcd:=cDiv (Γ:=Γ) x.natAbs y.natAbs (by omega) (by omega) (by omega);rw [hQ,hR] at hcd;refine hE [] func97 f97.eq_1 ?_
 first | refine wdy (wbs x hx) ?_ | refine y04 (wbs x hx) ?_
 refine hg ?_
 first | refine wdy (wbs y hy) ?_ | refine y04 (wbs y hy) ?_
 refine hg ?_;refine y8g (fun h _=>absurd h (by omega)) (fun _ _=>?_);refine hg ?_
 first | refine wdy hcd ?_ | refine y04 hcd ?_
 refine hg2 @sy @Int.mul_one ?_;refine vpz (fun h1 _=>?_) (fun h1 _=>?_)
 . have hx0:x<0:=by omega
   refine hg3 @h1 @sy @Int.mul_one ?_;refine y8g (fun h2 _=>?_) (fun h2 _=>?_)
   . have hR0:R≠0:=fun e=>by rw [e,v6p] at h2;simp at h2
     obtain ⟨k1,k2⟩:=vb5 (x:=x) (y:=y) (q:=-((Q:Int)+1)) (r:=y-R) (by
      have:y * -((Q:Int)+1) = -(y*Q)-y:=by grind
      omega) (by omega) (by omega)
     have m1:(x / y).natAbs=Q+1:=by rw [k1];omega
     have m2:(x % y).natAbs=y.natAbs-R:=by rw [k2];omega
     have m3:(num (dig Q)+num [1]).toNat=Q+1:=by rw [eQ];simp [num]
     have m4:(num (dig y.natAbs)-num (dig R)).toNat=y.natAbs-R:=by rw [ey,eR];omega
     have hA:=w6d (Γ:=Γ) (dig Q) [1] (v8d _) (digits.cons (by decide) digits.nil) (by omega) (by simp);rw [m3,<-m1] at hA;have hS:=v3g (Γ:=Γ) (dig y.natAbs) (dig R) (v8d _) (v8d _) (by omega) (z6g (by omega)) (by omega);rw [m4,<-m2] at hS;have hs1:=yxk (Γ:=Γ) (-1) (x / y) (by rw [m1];omega) (by rw [k1];omega);have hs2:=yxk (Γ:=Γ) 1 (x % y) (by rw [m2];have:=z6g (show y.natAbs-R<=y.natAbs by omega);omega) (by rw [k2];omega);refine hg ?_
     first | refine wdy hA ?_ | refine y04 hA ?_
     refine hg ?_
     first | refine wdy hs1 ?_ | refine y04 hs1 ?_
     refine hg ?_
     first | refine wdy hS ?_ | refine y04 hS ?_
     refine hg ?_
     first | refine wdy hs2 ?_ | refine y04 hs2 ?_
     refine hg ?_;refine hik ?_;refine hg ?_;exact (.one (.refl _))
   . have hR0:R=0:=v60.1 (List.eq_nil_of_length_eq_zero (by omega))
     obtain ⟨k1,k2⟩:=vb5 (x:=x) (y:=y) (q:=-(Q:Int)) (r:=0) (by
      have:y * -(Q:Int) = -(y*Q):=by grind
      omega) (by omega) (by omega)
     have m1:(x / y).natAbs=Q:=by rw [k1];omega
     have m2:(x % y).natAbs=R:=by rw [k2];omega
     have hs1:=yxk (Γ:=Γ) (sg x) (x / y) (by rw [m1];omega) (by rw [k1];omega);have hs2:=yxk (Γ:=Γ) (sg x) (x % y) (by rw [m2];omega) (by rw [k2];omega);rw [<-m1,<-m2];refine hg2 @sy @Int.mul_one ?_
     first | refine wdy hs1 ?_ | refine y04 hs1 ?_
     refine hg ?_
     first | refine wdy hs2 ?_ | refine y04 hs2 ?_
     refine hg ?_;refine hik ?_;refine hg ?_;exact (.one (.refl _))
 . have hx0:0<=x:=by omega
   obtain ⟨k1,k2⟩:=vb5 (x:=x) (y:=y) (q:=(Q:Int)) (r:=(R:Int)) (by omega) (by omega) (by omega)
   have m1:(x / y).natAbs=Q:=by rw [k1];omega
   have m2:(x % y).natAbs=R:=by rw [k2];omega
   have hQ0:x=0->Q=0/\R=0:=fun e=>by subst e;simp at hqx hrx;exact ⟨hqx,hrx⟩
   have hs1:=yxk (Γ:=Γ) (sg x) (x / y) (by rw [m1];omega) (by rw [k1];omega);have hs2:=yxk (Γ:=Γ) (sg x) (x % y) (by rw [m2];omega) (by rw [k2];omega);rw [<-m1,<-m2];refine hg3 @h1 @sy @Int.mul_one ?_
   first | refine wdy hs1 ?_ | refine y04 hs1 ?_
   refine hg ?_
   first | refine wdy hs2 ?_ | refine y04 hs2 ?_
   refine hg ?_;refine hik ?_;refine hg ?_;exact (.one (.refl _))
theorem xka (x y:Int) (hx:okZ x) (hy:okZ y) :
 CallsD Γ prog 46 [.agg [.raw (.int .i64 (sg x)),.ints .i64 (dig x.natAbs)],.agg [.raw (.int .i64 (sg y)),.ints .i64 (dig y.natAbs)]]
  (.tup [.agg [.raw (.int .i64 (sg (Int.gcd x y:Int))),.ints .i64 (dig (Int.gcd x y:Int).natAbs)],.one (.raw (.int .i64 0))]):=by
 refine hE [] func46 f46.eq_1 ?_
 first | refine wdy (wbs x hx) ?_ | refine y04 (wbs x hx) ?_
 refine hg ?_
 first | refine wdy (wbs y hy) ?_ | refine y04 (wbs y hy) ?_
 refine hg ?_
 first | refine wdy (yf4 _ (by omega)) ?_ | refine y04 (yf4 _ (by omega)) ?_
 refine hg ?_;refine hik ?_;refine hg ?_;refine wf5 [2,3,4,5] (fun p:Nat×Nat=>[(6,.one (.dat (.ints .i64 (dig p.1)))),(7,.one (.dat (.ints .i64 (dig p.2))))])
  (fun _=>[.box [.dat (cI (sg x)),.dat (.ints .i64 (dig x.natAbs))] (some 49),.box [.dat (cI (sg y)),.dat (.ints .i64 (dig y.natAbs))] (some 49),.box [.dat (cI 0),.dat .zc] (some 49)])
  (fun p=>Nat.gcd p.1 p.2=Int.gcd x y/\(dig p.1).length<=268435456/\(dig p.2).length<=268435456) (fun p=>p.2) (x.natAbs,y.natAbs) ⟨rfl,hx,hy⟩ ?_ ?_
 . refine hg ?_;exact sS
 rintro ⟨m,n⟩ ⟨hgg,hm,hn⟩;simp only at hgg hm hn;refine hg ?_;refine y8g (fun h _=>?_) (fun h _=>?_)
 . have hn0:n≠0:=fun e=>by rw [e,v6p] at h;simp at h
   refine hg ?_
   first | refine wdy (cDiv m n (by omega) (by omega) hn0) ?_ | refine y04 (cDiv m n (by omega) (by omega) hn0) ?_
   refine hg ?_;refine ⟨(n,m % n),⟨?_,hn,Nat.le_trans (z6g (Nat.mod_le _ _)) hm⟩,Nat.mod_lt _ (by omega),sS⟩;dsimp only;rw [<-hgg,Nat.gcd_comm n,<-Nat.gcd_rec,Nat.gcd_comm]
 . have hn0:n=0:=v60.1 (List.eq_nil_of_length_eq_zero (by omega));subst hn0;rw [Nat.gcd_zero_right] at hgg
   have e:(Int.gcd x y:Int).natAbs=m:=by rw [<-hgg];rfl
   have hs:=yxk (Γ:=Γ) 1 (Int.gcd x y:Int) (by rw [e];omega) (.inl ⟨rfl,by omega⟩);rw [e] at hs ⊢;have hc:=zsw (Γ:=Γ) true (sg (Int.gcd x y:Int)) (dig m);refine hg ?_
   first | refine wdy (yf4 _ (by omega)) ?_ | refine y04 (yf4 _ (by omega)) ?_
   refine hg ?_
   first | refine wdy hs ?_ | refine y04 hs ?_
   refine hg ?_
   first | refine wdy hc ?_ | refine y04 hc ?_
   refine hg1 @bigC.eq_def ?_;exact (.one (.refl _))
end Go.Hp.T
namespace Go.Slot
open Go Go.RowKit
theorem xlf (z:Int):sg z*num (dig z.natAbs)=z:=by
 rw [zyb]
 rcases yo8 z with ⟨h,e⟩ | ⟨h,e⟩ | ⟨h,e⟩<;>rw [e]<;>omega
def yv2 (s:Int) (L:List Int) (t:Int) (M:List Int):Prop:=ww6 s L/\ww6 t M/\t=1/\Int.gcd (s*num L) (t*num M)=1
instance (s:Int) (L:List Int) (t:Int) (M:List Int):Decidable (yv2 s L t M):=inferInstanceAs (Decidable (_/\_))
theorem v44 (s:Int) (L:List Int) (t:Int) (M:List Int):yv2 s L t M↔∃ r:Rat,s=sg r.num/\L=dig r.num.natAbs/\t=1/\M=dig r.den:=by
 constructor
 . rintro ⟨h1,h2,h3,h4⟩;obtain ⟨x,rfl,rfl⟩:=(z6i _ _).1 h1;obtain ⟨y,h5,rfl⟩:=(z6i _ _).1 h2;rw [h5,xlf,xlf] at h4
   have hy:0<y:=by rcases yo8 y with ⟨h,e⟩ | ⟨h,e⟩ | ⟨h,e⟩<;>omega
   refine ⟨⟨x,y.natAbs,by omega,h4⟩,rfl,rfl,h3,rfl⟩
 . rintro ⟨r,rfl,rfl,rfl,rfl⟩;have hd:0<r.den:=Nat.pos_of_ne_zero r.den_nz;have hs:(1:Int)=sg (r.den:Int):=(vge (by omega)).symm
   have h2:ww6 1 (dig r.den):=by
    have:=xf0 (r.den:Int)
    rw [<-hs] at this;exact this
   refine ⟨xf0 _,h2,rfl,?_⟩;rw [xlf,wag,Int.one_mul];exact r.reduced
end Go.Slot
namespace Go.Hp.T
open Go Go.RowKit Go.Slot Go.Hp Go.Slot.T
open Go.Proofs.Tryz
attribute [local irreducible] hide RH
set_option maxRecDepth 10000
set_option maxHeartbeats 8000000
variable {Γ:List (Nat×List Cell)}
def inI (z:Int):Prop:=-9223372036854775808<=z/\z<=9223372036854775807
instance (z:Int):Decidable (inI z):=inferInstanceAs (Decidable (_/\_))
theorem cInt (z:Int) (hz:okZ z):CallsD Γ prog 90 [.agg [.raw (.int .i64 (sg z)),.ints .i64 (dig z.natAbs)]]
 (.tup [.one (.raw (.int .i64 (if inI z then z else 0))),.one (.raw (.bool (decide (inI z))))]):=by
 have hs:=yo8 z;have hn:=zyb z;have hd:=v8d z.natAbs
 obtain ⟨r,hr⟩:∃ r,r=if inI z then z else 0:=⟨_,rfl⟩
 obtain ⟨ok,hok⟩:∃ ok,ok=decide (inI z):=⟨_,rfl⟩;rw [<-hr,<-hok]
 have bad:¬inI z->r=0/\ok=false:=fun h=>by rw [hr,hok,if_neg h,decide_eq_false h];exact ⟨rfl,rfl⟩
 have good:inI z->r=z/\ok=true:=fun h=>by rw [hr,hok,if_pos h,decide_eq_true h];exact ⟨rfl,rfl⟩
 clear hr hok;refine hE [] func90 f90.eq_1 ?_
 first | refine wdy (wbs z hz) ?_ | refine y04 (wbs z hz) ?_
 refine hg ?_;refine y8g (fun hbig _=>?_) (fun hbig _=>?_)
 . refine hg ?_
   obtain ⟨e1,e2⟩:=bad (fun h=>by
    have:(dig z.natAbs).length<=4:=yzd (by unfold inI at h;omega)
    omega)
   exact (by rw [e1,e2];exact .one (.refl _))
 have htop:(dig z.natAbs).length=4->(dig z.natAbs).getD 3 0<=8\/¬inI z:=fun h4=>by
  rcases Int.lt_or_le 8 ((dig z.natAbs).getD 3 0) with h | h
  . right
    intro hi;have h1:=zb2 (dig z.natAbs) 3;rw [yln (by omega),hn] at h1;have h2:=num_nonneg (hd.take 3);unfold inI at hi;omega
  . exact .inl h
 refine hg ?_;refine wf5 [1,2,3,17,18] (fun x:Nat×Int=>[(4,.one (.dat (.raw (.int .u64 x.2)))),(19,.one (.dat (cI (x.1))))])
  (fun _=>[.box [.dat (cI (sg z)),.dat (.ints .i64 (dig z.natAbs))] (some 49)])
  (fun x=>x.1<=(dig z.natAbs).length/\x.2=num ((dig z.natAbs).take x.1)/\(x.1=4->(dig z.natAbs).getD 3 0<=8)) (fun x=>(dig z.natAbs).length-x.1) (0,0)
  ⟨Nat.zero_le _,by simp [num],by simp⟩ ?_ ?_
 . refine hg ?_;exact sS
 rintro ⟨i,u⟩ ⟨hi,hu,h4⟩;simp only at hi hu h4;have hu0:=num_nonneg (hd.take i);have hu1:=wg0 (hd.take i);rw [List.length_take,Nat.min_eq_left hi,<-hu] at hu1;rw [<-hu] at hu0;refine hg ?_;refine y8g (fun h _=>?_) (fun h _=>?_)
 . have hdi:=hd.getD i
   have hi3:i<=3:=by omega
   have hdB:i≠3\/(dig z.natAbs).getD i 0<=8->(dig z.natAbs).getD i 0*1048576 ^ i+u<=18446744073709551615:=fun h8=>by
    rcases wy7 hi3 with ⟨h9,e⟩ | ⟨h9,e⟩ | ⟨h9,e⟩ | ⟨h9,e⟩<;>rw [e] at hu1 ⊢<;>omega
   have hdB0:0<=(dig z.natAbs).getD i 0*1048576 ^ i:=Int.mul_nonneg hdi.1 (Int.le_of_lt (yxq i))
   have hstep:u+(dig z.natAbs).getD i 0*1048576 ^ i=num ((dig z.natAbs).take (i+1)):=by rw [zb2,hu,Int.mul_comm]
   refine hg ?_;refine vpz (fun h5 _=>?_) (fun h5 _=>?_)
   . have h5':=decide_eq_true h5;refine hg1 @h5' ?_;refine y8g (fun h6 _=>?_) (fun h6 _=>?_)
     . have i3:i=3:=by omega
       subst i3
       have hni:¬inI z:=by
        rcases htop (by omega) with h7 | h7
        . omega
        . exact h7
       obtain ⟨e1,e2⟩:=bad hni;refine hg ?_;exact (by rw [e1,e2];exact .one (.refl _))
     . have hdB:=hdB (.inr (by omega));refine hg2 @shlB @orB ?_
       have h8:i+1=4->(dig z.natAbs).getD 3 0<=8:=fun e=>by
        have i3:i=3:=by omega
        subst i3;omega
       exact ⟨(i+1,u+(dig z.natAbs).getD i 0*1048576 ^ i),⟨by dsimp only;omega,hstep,h8⟩,by dsimp only;omega,sS⟩
   . have hdB:=hdB (.inl (by omega));refine hg3 @h5 @shlB @orB ?_;exact ⟨(i+1,u+(dig z.natAbs).getD i 0*1048576 ^ i),⟨by dsimp only;omega,hstep,fun (e:i+1=4)=>by omega⟩,by dsimp only;omega,sS⟩
 . have hil:i=(dig z.natAbs).length:=by omega
   rw [hil,List.take_length,hn] at hu
   have hub:u<=10376293541461622784:=by
    have:i<=4:=by omega
    rcases Nat.lt_or_ge i 4 with h7 | h7
    . rcases wy7 (show i<=3 by omega) with ⟨h9,e⟩ | ⟨h9,e⟩ | ⟨h9,e⟩ | ⟨h9,e⟩<;>rw [e] at hu1<;>omega
    . have h8:=zb2 (dig z.natAbs) 3;rw [yln (by omega),hn] at h8;have h9:=wg0 (hd.take 3)
      have h10:((dig z.natAbs).take 3).length=3:=by simp;omega
      rw [h10] at h9
      have:=h4 (by omega)
      have h11:(1048576:Int) ^ 3=1152921504606846976:=by decide
      rw [h11] at h9 h8;omega
   refine hg ?_;refine vpz (fun h5 _=>?_) (fun h5 _=>?_)
   . refine hg1 @h5 ?_;refine y8g (fun h6 _=>?_) (fun h6 _=>?_)
     . obtain ⟨e1,e2⟩:=good (by unfold inI;omega);refine hg2 @zlx @v4b ?_;rw [e1,e2,show 0-u+18446744073709551616-18446744073709551616=z by omega];exact .one (.refl _)
     . obtain ⟨e1,e2⟩:=bad (by unfold inI;omega);refine hg ?_;refine vpz (fun h7 _=>absurd h7 (by omega)) (fun h7 _=>?_);refine hg1 @h7 ?_;exact (by rw [e1,e2];exact .one (.refl _))
   . refine hg1 @h5 ?_;refine vpz (fun h7 _=>?_) (fun h7 _=>absurd (by omega) h7);refine hg1 @h7 ?_;refine y8g (fun h6 _=>?_) (fun h6 _=>?_)
     . obtain ⟨e1,e2⟩:=good (by unfold inI;omega);refine hg ?_;rw [e1,e2,show u=z by omega];exact .one (.refl _)
     . obtain ⟨e1,e2⟩:=bad (by unfold inI;omega);refine hg ?_;exact (by rw [e1,e2];exact .one (.refl _))
theorem cOne (z:Int) (hz:okZ z):CallsD Γ prog 47 [.agg [.raw (.int .i64 (sg z)),.ints .i64 (dig z.natAbs)]] (.one (.raw (.bool (decide (z=1))))):=by
 obtain ⟨r,hr⟩:∃ r,r=decide (z=1):=⟨_,rfl⟩;rw [<-hr];have hc:=cInt (Γ:=Γ) z hz;by_cases hi:inI z
 . rw [if_pos hi,decide_eq_true hi] at hc;refine hE [] func47 f47.eq_1 ?_
   first | refine wdy hc ?_ | refine y04 hc ?_
   refine hg ?_;exact (by rw [hr];exact .one (.refl _))
 . rw [if_neg hi,decide_eq_false hi] at hc;refine hE [] func47 f47.eq_1 ?_
   first | refine wdy hc ?_ | refine y04 hc ?_
   refine hg ?_;exact (by rw [hr,decide_eq_false (fun e=>hi (by unfold inI;omega))];exact .one (.refl _))
theorem w6r {n:Int} (_h:0<=n):iand .u64 n 1048575=n % 1048576:=by
 unfold iand
 have h1:(BitVec.ofInt IntKind.u64.bits n &&&BitVec.ofInt IntKind.u64.bits 1048575).toNat=(n % 1048576).toNat:=by
  show (BitVec.ofInt 64 n &&&BitVec.ofInt 64 1048575).toNat=_;rw [BitVec.toNat_and,BitVec.toNat_ofInt,BitVec.toNat_ofInt]
  have:((1048575:Int) % ((2 ^ 64:Nat):Int)).toNat=2 ^ 20-1:=by decide
  rw [this,Nat.and_two_pow_sub_one_eq_mod];omega
 rw [h1,wu64 (by omega)];omega
theorem zb0 (n:Int):ishr .u64 n 20=n / 1048576:=by
 unfold ishr
 have:(2:Int) ^ (min (20:Int).toNat IntKind.u64.bits)=1048576:=by decide
 rw [this,Int.fdiv_eq_ediv_of_nonneg _ (by decide)]
theorem zlm {n:Nat} (h:n<=18446744073709551615):(dig n).length<=4:=yzd (Nat.lt_of_le_of_lt h (by decide))
theorem cOfZ (n:Int) (hn:inI n):CallsD Γ prog 85 [.one (.raw (.int .i64 n))] (.agg [.raw (.int .i64 (sg n)),.ints .i64 (dig n.natAbs)]):=by
 unfold inI at hn;refine hE [(4,[.join])] func85 f85.eq_1 ?_;refine y7q [2] (fun s:Int=>[(3,.one (.dat (cI s))),(4,.one (.dat (.raw (.int .u64 n.natAbs))))]) (fun _=>[.box [.dat (cI 0),.dat .zc] (some 49)])
  (fun s=>(s=1/\0<=n)\/(s = -1/\n<0)) ?_ ?_
 . by_cases h0:n<0
   . refine hg1 @zlx ?_;refine y8g (fun h _=>?_) (fun h _=>absurd h0 h);refine hg1 @zlx ?_;refine ⟨-1,.inr ⟨rfl,h0⟩,?_⟩;rw [show 0-(n+18446744073709551616)+18446744073709551616=((n.natAbs:Nat):Int) by omega];exact sS
   . refine hg ?_;refine y8g (fun h _=>absurd h h0) (fun h _=>?_);refine hg ?_;refine ⟨1,.inl ⟨rfl,by omega⟩,?_⟩;rw [show n=((n.natAbs:Nat):Int) by omega];exact sS
 rintro s hs
 have hN:(n.natAbs:Int)<=9223372036854775808:=by omega
 generalize hNN:n.natAbs=N at *;refine hg ?_;refine wf5 [2,3] (fun x:Nat×List Int×Int=>[(4,.one (.dat (.raw (.int .u64 x.2.2)))),(5,.one (.sl 1 1 0 x.2.1.length))])
  (fun x=>[.box [.dat (cI 0),.dat .zc] (some 49),.arr (.ints .i64 x.2.1) 0 (some 3)])
  (fun x=>x.2.1.length=x.1/\x.1<=4/\digits x.2.1/\0<=x.2.2/\num x.2.1+1048576 ^ x.1*x.2.2=N) (fun x=>x.2.2.toNat) (0,[],N)
  ⟨rfl,Nat.zero_le _,digits.nil,by simp,by simp [num]⟩ ?_ ?_
 . refine hg ?_;refine StH.trans (StH.empty (d:=5) (es:=1) (c:=.ints .i64 []) (T:=some 3) rfl rfl trivial rfl) ?_;refine hg ?_;exact sS
 rintro ⟨k,l,u⟩ ⟨hl,hk,hd,hu,he⟩;simp only at hl hk hd hu he;have hl0:=num_nonneg hd;have hp:=yxq k
 have huN:u<=N:=by
  have:=Int.mul_le_mul_of_nonneg_right (show (1:Int)<=1048576 ^ k by omega) hu
  omega
 refine hg ?_;refine y8g (fun h _=>?_) (fun h _=>?_)
 . have hk3:k<=3:=by
    rcases Nat.lt_or_ge k 4 with h4 | h4
    . omega
    . have h1:=yyb h4;have h2:=Int.mul_le_mul_of_nonneg_left (show (1:Int)<=u by omega) (Int.le_of_lt hp)
      have h3:(1048576:Int) ^ 4=1208925819614629174706176:=by decide
      omega
   refine hg2 @w6r @zb0 ?_;refine ⟨(k+1,l++[u % 1048576],u / 1048576),⟨by simp [hl],by dsimp only;omega,hd.append (digits.cons (by omega) digits.nil),by dsimp only;omega,?_⟩,by dsimp only;omega,StH.back [2,3,4,5] 1 2 2 rfl rfl rfl rfl rfl (by kernel_rfl) (sS)⟩;dsimp only;rw [yhq,hl,Int.pow_succ];have h:=Int.emod_add_mul_ediv u 1048576;simp only [num];generalize (1048576:Int) ^ k=P at *;generalize u % 1048576=r at *;generalize u / 1048576=q at *
   grind
 . have hu0:u=0:=by omega
   rw [hu0,Int.mul_zero,Int.add_zero] at he;have e:=xrd hd he;rw [Int.toNat_natCast,<-hNN] at e;have hdl:(dig N).length<=4:=zlm (by omega);have hsg:=zfz (Γ:=Γ) s l (by omega);unfold bigA at hsg;rw [e,<-wvg,xgc (by omega)] at hsg;unfold Go.Slot.zC at hsg;rw [hNN] at hsg;refine hg ?_
   first | refine wdy hsg ?_ | refine y04 hsg ?_
   refine hg ?_;exact (.one (.refl _))
theorem vg0 (s:Int) (L:List Int) (t:Int) (M:List Int) (hL:L.length<=268435456) (hM:M.length<=268435456) :
 CallsD Γ prog 16 [.agg [.raw (.int .i64 s),.ints .i64 L,.raw (.int .i64 t),.ints .i64 M]] (.one (.raw (.bool (decide (yv2 s L t M))))):=by
 obtain ⟨r,hr⟩:∃ r,r=decide (yv2 s L t M):=⟨_,rfl⟩;rw [<-hr]
 have bad:¬yv2 s L t M->r=false:=fun h=>by rw [hr,decide_eq_false h]
 by_cases h1:ww6 s L
 . obtain ⟨x,rfl,rfl⟩:=(z6i _ _).1 h1;by_cases h2:ww6 t M
   . obtain ⟨y,rfl,rfl⟩:=(z6i _ _).1 h2;refine hE [] func16 f16.eq_1 ?_
     first | refine wdy (wbs x hL) ?_ | refine y04 (wbs x hL) ?_
     refine hg ?_
     first | refine wdy (wbs y hM) ?_ | refine y04 (wbs y hM) ?_
     refine hg ?_;refine y8g (fun h3 _=>?_) (fun h3 _=>?_)
     . have e:=bad (fun h=>h3 h.2.2.1);subst e;refine hg ?_;exact (.one (.refl _))
     . have h3:sg y=1:=by omega
       have hgl:(dig (Int.gcd x y:Int).natAbs).length<=268435456:=by
        have:(Int.gcd x y:Int).natAbs<=y.natAbs:=by
         have hy:0<y.natAbs:=by rcases yo8 y with ⟨h,e⟩ | ⟨h,e⟩ | ⟨h,e⟩<;>omega
         exact Nat.le_of_dvd hy (Nat.gcd_dvd_right _ _)
        exact Nat.le_trans (z6g this) hM
       have e:r=decide ((Int.gcd x y:Int)=1):=by
        rw [hr];apply decide_eq_decide.2;unfold yv2;rw [xlf,xlf];constructor
        . exact fun h=>by have:=h.2.2.2;omega
        . exact fun h=>⟨h1,h2,h3,by omega⟩
       subst e;refine hg ?_
       first | refine wdy (xka x y hL hM) ?_ | refine y04 (xka x y hL hM) ?_
       refine hg ?_
       first | refine wdy (cOne _ hgl) ?_ | refine y04 (cOne _ hgl) ?_
       refine hg ?_;exact (.one (.refl _))
   . have e:=bad (fun h=>h2 h.2.1);subst e;refine hE [] func16 f16.eq_1 ?_
     first | refine wdy (wbs x hL) ?_ | refine y04 (wbs x hL) ?_
     refine hg ?_
     first | refine wdy (vpk t M hM h2) ?_ | refine y04 (vpk t M hM h2) ?_
     refine hg ?_;exact (.one (.refl _))
 . have e:=bad (fun h=>h1 h.1);subst e;refine hE [] func16 f16.eq_1 ?_
   first | refine wdy (vpk s L hL h1) ?_ | refine y04 (vpk s L hL h1) ?_
   refine hg ?_;exact (.one (.refl _))
end Go.Hp.T
namespace Go.Slot
open Go Go.RowKit
variable {g:Rat->Rat->Rat}
structure Fc where
 s:Int
 L:List Int
 t:Int
 M:List Int
variable {f a b:Fc}
namespace Fc
def C (f:Fc):List Cell:=[.raw (.int .i64 f.s),.ints .i64 f.L,.raw (.int .i64 f.t),.ints .i64 f.M]
theorem C_eq:f.C=[.raw (.int .i64 f.s),.ints .i64 f.L,.raw (.int .i64 f.t),.ints .i64 f.M]:=_root_.id rfl
def ok (f:Fc):Prop:=yv2 f.s f.L f.t f.M
instance (f:Fc):Decidable f.ok:=inferInstanceAs (Decidable (yv2 _ _ _ _))
def of (r:Rat):Fc:=⟨sg r.num,dig r.num.natAbs,1,dig r.den⟩
def zero:Fc:=⟨0,[],0,[]⟩
def val (f:Fc):Rat:=mkRat (f.s*num f.L) (num f.M).toNat
def sz (f:Fc):Nat:=max f.L.length f.M.length
theorem wvr (r:Rat):(of r).ok:=(v44 _ _ _ _).2 ⟨r,rfl,rfl,rfl,rfl⟩
theorem y22 (r:Rat):(of r).val=r:=by
 show mkRat (sg r.num*num (dig r.num.natAbs)) (num (dig r.den)).toNat=r;rw [xlf,wag,Int.toNat_natCast,Rat.mkRat_self]
theorem z2l (h:f.ok):f=of f.val:=by
 obtain ⟨r,h1,h2,h3,h4⟩:=(v44 _ _ _ _).1 h
 have:f=of r:=by cases f;simp only [of] at *;subst h1 h2 h3 h4;rfl
 rw [this,y22]
theorem xzx (h:f.ok):∃ r,f=of r:=⟨_,z2l h⟩
theorem y7o {x y:Rat} (h:of x=of y):x=y:=by rw [<-y22 x,h,y22]
theorem y0w:¬zero.ok:=fun h=>by have:=h.2.2.1;simp [zero] at this
def op2 (g:Rat->Rat->Rat) (a b:Fc):Fc:=if a.ok/\b.ok then of (g a.val b.val) else zero
def er (p:Prop) [Decidable p]:Int:=if p then 0 else 1
def add:=op2 (· + ·)
def mul:=op2 (· * ·)
def ordQ (x y:Rat):Int:=if x<y then -1 else if y<x then 1 else 0
def cmp (a b:Fc):Int:=if a.ok/\b.ok then ordQ a.val b.val else 0
def sign (a:Fc):Int:=if a.ok then sg a.val.num else 0
theorem wmi (g:Rat->Rat->Rat) (x y:Rat):op2 g (of x) (of y)=of (g x y):=by unfold op2;rw [if_pos ⟨wvr x,wvr y⟩,y22,y22]
theorem x0i (h:¬(a.ok/\b.ok)):op2 g a b=zero:=if_neg h
theorem vmb (x y:Rat):add (of x) (of y)=of (x+y):=wmi _ x y
theorem vk5 (x y:Rat):mul (of x) (of y)=of (x*y):=wmi _ x y
theorem yzc (x y:Rat):cmp (of x) (of y)=ordQ x y:=by unfold cmp;rw [if_pos ⟨wvr x,wvr y⟩,y22,y22]
theorem x7c (x:Rat):sign (of x)=sg x.num:=by unfold sign;rw [if_pos (wvr x),y22]
theorem wfd {p:Prop} [Decidable p] (h:p):er p=0:=if_pos h
theorem vv3 {p:Prop} [Decidable p] (h:¬p):er p=1:=if_neg h
theorem vgy:(add a b).ok↔(a.ok/\b.ok):=by
 unfold add op2;split
 . rename_i h;exact ⟨fun _=>h,fun _=>wvr _⟩
 . rename_i h;exact ⟨fun h'=>absurd h' y0w,fun h'=>absurd h' h⟩
theorem v2r:(mul a b).ok↔(a.ok/\b.ok):=by
 unfold mul op2;split
 . rename_i h;exact ⟨fun _=>h,fun _=>wvr _⟩
 . rename_i h;exact ⟨fun h'=>absurd h' y0w,fun h'=>absurd h' h⟩
theorem x99 (x y:Rat):(x<y/\ordQ x y = -1)\/(x=y/\ordQ x y=0)\/(y<x/\ordQ x y=1):=by
 unfold ordQ;by_cases h:x<y
 . exact .inl ⟨h,if_pos h⟩
 . by_cases h1:y<x
   . exact .inr (.inr ⟨h1,by rw [if_neg h,if_pos h1]⟩)
   . exact .inr (.inl ⟨Rat.le_antisymm (Rat.not_lt.1 h1) (Rat.not_lt.1 h),by rw [if_neg h,if_neg h1]⟩)
theorem zfv (x y:Rat):ord (x.num*y.den) (y.num*x.den)=ordQ x y:=by
 unfold ord ordQ;simp only [Rat.lt_iff]
theorem xar:zero.sz=0:=rfl
theorem w9x (x:Rat):(of x).sz=max (dig x.num.natAbs).length (dig x.den).length:=rfl
theorem vzu (n:Int) (d:Nat) (hd:d≠0):(of (mkRat n d)).sz<=max (dig n.natAbs).length (dig d).length:=by
 rw [w9x,Rat.num_mkRat,Rat.den_mkRat,if_neg hd,if_neg hd]
 have h1:(n / (d.gcd n.natAbs:Nat)).natAbs<=n.natAbs:=by
  rw [Int.natAbs_ediv_of_dvd (by rw [<-Int.dvd_natAbs,Int.ofNat_dvd];exact Nat.gcd_dvd_right _ _),Int.natAbs_natCast];exact Nat.div_le_self _ _
 have h2:d / d.gcd n.natAbs<=d:=Nat.div_le_self _ _
 have:=z6g h1
 have:=z6g h2
 omega
theorem wzm (x y:Rat):(of (x+y)).sz<=(of x).sz+(of y).sz+1:=by
 rw [Rat.add_def'];refine Nat.le_trans (vzu _ _ (Nat.mul_ne_zero x.den_nz y.den_nz)) ?_;have h1:=za6 (x.num*y.den) (y.num*x.den);have h2:=wp3 x.num y.den;have h3:=wp3 y.num x.den;have h4:=vjg x.den y.den;rw [Int.natAbs_natCast] at h2 h3;rw [w9x,w9x];omega
theorem zsx (x y:Rat):(of (x*y)).sz<=(of x).sz+(of y).sz:=by
 rw [Rat.mul_def'];refine Nat.le_trans (vzu _ _ (Nat.mul_ne_zero x.den_nz y.den_nz)) ?_;have h2:=wp3 x.num y.num;have h4:=vjg x.den y.den;rw [w9x,w9x];omega
theorem wfq {n:Nat} (h:∀ x y,(of (g x y)).sz<=(of x).sz+(of y).sz+n) (a b:Fc):(op2 g a b).sz<=a.sz+b.sz+n:=by
 unfold op2
 split
 . rename_i hab;rw [z2l hab.1,z2l hab.2,y22,y22];exact h _ _
 . rw [xar];omega
theorem zgp (a b:Fc):(add a b).sz<=a.sz+b.sz+1:=wfq wzm a b
theorem wly (a b:Fc):(mul a b).sz<=a.sz+b.sz:=wfq (n:=0) zsx a b
end Fc
attribute [go_sem] Fc.C_eq
instance:DecidableEq Fc:=fun a b=>decidable_of_iff (a.s=b.s/\a.L=b.L/\a.t=b.t/\a.M=b.M) ⟨fun h=>by cases a;cases b;simp at h;simp [h],fun h=>by rw [h];exact ⟨rfl,rfl,rfl,rfl⟩⟩
end Go.Slot
namespace Go.Hp.T
open Go Go.RowKit Go.Slot Go.Hp Go.Slot.T
open Go.Proofs.Tryz
variable {r:Rat} {d:Nat}
attribute [local irreducible] hide RH
set_option maxRecDepth 10000
set_option maxHeartbeats 8000000
variable {Γ:List (Nat×List Cell)}
theorem of_s:(Fc.of r).s=sg r.num:=_root_.id rfl
theorem of_L:(Fc.of r).L=dig r.num.natAbs:=_root_.id rfl
theorem of_t:(Fc.of r).t=1:=_root_.id rfl
theorem of_M:(Fc.of r).M=dig r.den:=_root_.id rfl
theorem wnq:Fc.zero.s=0:=_root_.id rfl
theorem w8v:Fc.zero.L=[]:=_root_.id rfl
theorem y0c:Fc.zero.t=0:=_root_.id rfl
theorem xus:Fc.zero.M=[]:=_root_.id rfl
attribute [go_sem] of_s of_L of_t of_M wnq w8v y0c xus
theorem xvw (r:Rat):sg (r.den:Int)=1:=vge (by have:=Nat.pos_of_ne_zero r.den_nz;omega)
theorem z8z (h:d≠0):sg (d:Int)=1:=vge (by omega)
theorem szL {f:Fc} {n:Nat} (h:f.sz<=n):f.L.length<=n/\f.M.length<=n:=by unfold Fc.sz at h;omega
theorem szO {n:Nat} (h:(Fc.of r).sz<=n):(dig r.num.natAbs).length<=n/\(dig r.den).length<=n:=szL h
theorem z1q (f:Fc) (h:f.sz<=268435456):CallsD Γ prog 16 [.agg f.C] (.one (.raw (.bool (decide f.ok)))):=
 vg0 f.s f.L f.t f.M (szL h).1 (szL h).2
theorem zt1 (r:Rat) (h:(Fc.of r).sz<=268435456):CallsD Γ prog 16 [.agg (Fc.of r).C] (.one (.raw (.bool true))):=by
 have:=z1q (Γ:=Γ) (Fc.of r) h
 rwa [decide_eq_true (Fc.wvr r)] at this
theorem yix (f:Fc) (h:f.sz<=268435456) (hb:¬f.ok):CallsD Γ prog 16 [.agg f.C] (.one (.raw (.bool false))):=by
 have:=z1q (Γ:=Γ) f h
 rwa [decide_eq_false hb] at this
theorem zqi:AV.Le (.agg [.raw (.int .i64 0),.zc,.raw (.int .i64 0),.zc]) (.agg Fc.zero.C):=.agg (.cons (.refl _) (.cons (.v3s _) (.cons (.refl _) (.cons (.v3s _) .nil))))
theorem xx1 (x y:Int) (hx:okZ x) (hy:okZ y) :
 CallsD Γ prog 49 [.agg [.raw (.int .i64 (sg x)),.ints .i64 (dig x.natAbs)],.agg [.raw (.int .i64 (sg y)),.ints .i64 (dig y.natAbs)]]
  (.agg [.raw (.int .i64 (sg (x*y))),.ints .i64 (dig (x*y).natAbs)]):=by
 refine hE [] func49 f49.eq_1 ?_
 first | refine wdy (xu9 x y hx hy) ?_ | refine y04 (xu9 x y hx hy) ?_
 refine hg ?_;exact (.one (.refl _))
theorem wa7 (x:Int) (d:Nat) (hx:okZ x) (hd:d≠0) (hl:(dig d).length<=268435456) :
 CallsD Γ prog 49 [.agg [.raw (.int .i64 (sg x)),.ints .i64 (dig x.natAbs)],.agg [.raw (.int .i64 1),.ints .i64 (dig d)]]
  (.agg [.raw (.int .i64 (sg (x*d))),.ints .i64 (dig (x*d).natAbs)]):=by
 have:=xx1 (Γ:=Γ) x (d:Int) hx hl
 rw [z8z hd] at this;exact this
theorem yf9 (c d:Nat) (hc0:c≠0) (hd:d≠0) (hc:(dig c).length<=268435456) (hl:(dig d).length<=268435456) :
 CallsD Γ prog 49 [.agg [.raw (.int .i64 1),.ints .i64 (dig c)],.agg [.raw (.int .i64 1),.ints .i64 (dig d)]]
  (.agg [.raw (.int .i64 1),.ints .i64 (dig (c*d))]):=by
 have:=wa7 (Γ:=Γ) (c:Int) d hc hd hl
 rw [z8z hc0,show (c:Int)*d=((c*d:Nat):Int) from (Int.natCast_mul c d).symm,z8z (Nat.mul_ne_zero hc0 hd)] at this;exact this
theorem ya0 (z:Int) (hd:d≠0):(mkRat z d).num=z / (Int.gcd z d:Int)/\((mkRat z d).den:Int)=d / (Int.gcd z d:Int)/\0<(Int.gcd z d:Int):=by
 have hgg:Int.gcd z d=d.gcd z.natAbs:=by rw [Int.gcd_eq_natAbs_gcd_natAbs,Int.natAbs_natCast,Nat.gcd_comm]
 have hp:0<d.gcd z.natAbs:=Nat.gcd_pos_of_pos_left _ (Nat.pos_of_ne_zero hd);rw [Rat.num_mkRat,Rat.den_mkRat,if_neg hd,if_neg hd,hgg];exact ⟨rfl,by rw [Int.natCast_ediv],by omega⟩
theorem xpm (z:Int) (d:Nat) (hz:okZ z) (hd:d≠0) (hl:(dig d).length<=268435456) :
 CallsD Γ prog 50 [.agg [.raw (.int .i64 (sg z)),.ints .i64 (dig z.natAbs)],.agg [.raw (.int .i64 1),.ints .i64 (dig d)]]
  (.tup [.agg (Fc.of (mkRat z d)).C,.one (.raw (.int .i64 0))]):=by
 obtain ⟨p1,p2,p3⟩:=ya0 z hd;have hden:=xvw (mkRat z d);rw [p2] at hden
 have hden2:(mkRat z d).den=((d:Int) / (Int.gcd z d:Int)).natAbs:=by omega
 have hgl:okZ (Int.gcd z d:Int):=by
  have:(Int.gcd z d:Int).natAbs<=d:=by
   have:Int.gcd z d ∣ d:=by have:=Int.gcd_dvd_natAbs_right z d;simpa using this
   exact Nat.le_of_dvd (Nat.pos_of_ne_zero hd) this
  exact Nat.le_trans (z6g this) hl
 have hr:=wbs (Γ:=Γ) (d:Int) hl;have hgg:=xka (Γ:=Γ) z d hz hl;have hd1:=w9z (Γ:=Γ) z (Int.gcd z d:Int) hz hgl p3;have hd2:=w9z (Γ:=Γ) d (Int.gcd z d:Int) hl hgl p3;rw [z8z hd] at hr hgg hd2;rw [hden] at hd2;rw [show ((d:Nat):Int).natAbs=d from rfl] at hr hgg hd2
 have hfin:(Fc.of (mkRat z d)).C=[.raw (.int .i64 (sg (z / (Int.gcd z d:Int)))),.ints .i64 (dig (z / (Int.gcd z d:Int)).natAbs),.raw (.int .i64 1),.ints .i64 (dig ((d:Int) / (Int.gcd z d:Int)).natAbs)]:=by
  rw [<-p1,<-hden2];rfl
 rw [hfin];generalize (Int.gcd z d:Int)=g at *;refine hE [] func50 f50.eq_1 ?_
 first | refine wdy (wbs z hz) ?_ | refine y04 (wbs z hz) ?_
 refine hg ?_
 first | refine wdy hr ?_ | refine y04 hr ?_
 refine hg ?_
 first | refine wdy hgg ?_ | refine y04 hgg ?_
 refine hg ?_
 first | refine wdy hd1 ?_ | refine y04 hd1 ?_
 refine hg ?_
 first | refine wdy hd2 ?_ | refine y04 hd2 ?_
 refine hg ?_;exact (.tup (.cons (.refl _) (.cons (.refl _) .nil)))
theorem wbe (a b:Fc) (ha:a.sz<=67108864) (hb:b.sz<=67108864) :
 CallsD Γ prog 18 [.agg a.C,.agg b.C] (.tup [.agg (Fc.add a b).C,.one (.raw (.int .i64 (Fc.er (a.ok/\b.ok))))]):=by
 by_cases h1:a.ok
 . by_cases h2:b.ok
   . rw [Fc.wfd ⟨h1,h2⟩];obtain ⟨x,rfl⟩:=Fc.xzx h1;obtain ⟨y,rfl⟩:=Fc.xzx h2;have lx:=szO ha;have ly:=szO hb;have l1:=wp3 x.num y.den;have l2:=wp3 y.num x.den;have l3:=za6 (x.num*y.den) (y.num*x.den);have l4:=vjg x.den y.den;rw [Int.natAbs_natCast] at l1 l2;rw [Fc.vmb,Rat.add_def'];refine hE [] func18 f18.eq_1 ?_
     first | refine wdy (zt1 x (by omega)) ?_ | refine y04 (zt1 x (by omega)) ?_
     refine hg ?_
     first | refine wdy (zt1 y (by omega)) ?_ | refine y04 (zt1 y (by omega)) ?_
     refine hg ?_
     first | refine wdy (wa7 x.num y.den (by unfold okZ;omega) y.den_nz (by omega)) ?_ | refine y04 (wa7 x.num y.den (by unfold okZ;omega) y.den_nz (by omega)) ?_
     refine hg ?_
     first | refine wdy (wa7 y.num x.den (by unfold okZ;omega) x.den_nz (by omega)) ?_ | refine y04 (wa7 y.num x.den (by unfold okZ;omega) x.den_nz (by omega)) ?_
     refine hg ?_
     first | refine wdy (v4s (x.num*y.den) (y.num*x.den) (by unfold okZ;omega) (by unfold okZ;omega)) ?_ | refine y04 (v4s (x.num*y.den) (y.num*x.den) (by unfold okZ;omega) (by unfold okZ;omega)) ?_
     refine hg ?_;refine hik ?_;refine hg ?_
     first | refine wdy (yf9 x.den y.den x.den_nz y.den_nz (by omega) (by omega)) ?_ | refine y04 (yf9 x.den y.den x.den_nz y.den_nz (by omega) (by omega)) ?_
     refine hg ?_
     first | refine wdy (xpm (x.num*y.den+y.num*x.den) (x.den*y.den) (by unfold okZ;omega) (Nat.mul_ne_zero x.den_nz y.den_nz) (by omega)) ?_ | refine y04 (xpm (x.num*y.den+y.num*x.den) (x.den*y.den) (by unfold okZ;omega) (Nat.mul_ne_zero x.den_nz y.den_nz) (by omega)) ?_
     refine hg ?_;refine hik ?_;refine hg ?_;exact (.tup (.cons (.refl _) (.cons (.refl _) .nil)))
   . rw [Fc.vv3 (fun h=>h2 h.2),show Fc.add a b=Fc.zero from Fc.x0i (fun h=>h2 h.2)];obtain ⟨x,rfl⟩:=Fc.xzx h1;refine hE [] func18 f18.eq_1 ?_
     first | refine wdy (zt1 x (by omega)) ?_ | refine y04 (zt1 x (by omega)) ?_
     refine hg ?_
     first | refine wdy (yix b (by omega) h2) ?_ | refine y04 (yix b (by omega) h2) ?_
     refine hg ?_;exact (.tup (.cons zqi (.cons (.refl _) .nil)))
 . rw [Fc.vv3 (fun h=>h1 h.1),show Fc.add a b=Fc.zero from Fc.x0i (fun h=>h1 h.1)];refine hE [] func18 f18.eq_1 ?_
   first | refine wdy (yix a (by omega) h1) ?_ | refine y04 (yix a (by omega) h1) ?_
   refine hg ?_;exact (.tup (.cons zqi (.cons (.refl _) .nil)))
theorem vkh (a b:Fc) (ha:a.sz<=67108864) (hb:b.sz<=67108864) :
 CallsD Γ prog 23 [.agg a.C,.agg b.C] (.tup [.agg (Fc.mul a b).C,.one (.raw (.int .i64 (Fc.er (a.ok/\b.ok))))]):=by
 by_cases h1:a.ok
 . by_cases h2:b.ok
   . rw [Fc.wfd ⟨h1,h2⟩];obtain ⟨x,rfl⟩:=Fc.xzx h1;obtain ⟨y,rfl⟩:=Fc.xzx h2;have lx:=szO ha;have ly:=szO hb;have l1:=wp3 x.num y.num;have l4:=vjg x.den y.den;rw [Fc.vk5,Rat.mul_def'];refine hE [] func23 f23.eq_1 ?_
     first | refine wdy (zt1 x (by omega)) ?_ | refine y04 (zt1 x (by omega)) ?_
     refine hg ?_
     first | refine wdy (zt1 y (by omega)) ?_ | refine y04 (zt1 y (by omega)) ?_
     refine hg ?_
     first | refine wdy (xx1 x.num y.num (by unfold okZ;omega) (by unfold okZ;omega)) ?_ | refine y04 (xx1 x.num y.num (by unfold okZ;omega) (by unfold okZ;omega)) ?_
     refine hg ?_
     first | refine wdy (yf9 x.den y.den x.den_nz y.den_nz (by omega) (by omega)) ?_ | refine y04 (yf9 x.den y.den x.den_nz y.den_nz (by omega) (by omega)) ?_
     refine hg ?_
     first | refine wdy (xpm (x.num*y.num) (x.den*y.den) (by unfold okZ;omega) (Nat.mul_ne_zero x.den_nz y.den_nz) (by omega)) ?_ | refine y04 (xpm (x.num*y.num) (x.den*y.den) (by unfold okZ;omega) (Nat.mul_ne_zero x.den_nz y.den_nz) (by omega)) ?_
     refine hg ?_;refine hik ?_;refine hg ?_;exact (.tup (.cons (.refl _) (.cons (.refl _) .nil)))
   . rw [Fc.vv3 (fun h=>h2 h.2),show Fc.mul a b=Fc.zero from Fc.x0i (fun h=>h2 h.2)];obtain ⟨x,rfl⟩:=Fc.xzx h1;refine hE [] func23 f23.eq_1 ?_
     first | refine wdy (zt1 x (by omega)) ?_ | refine y04 (zt1 x (by omega)) ?_
     refine hg ?_
     first | refine wdy (yix b (by omega) h2) ?_ | refine y04 (yix b (by omega) h2) ?_
     refine hg ?_;exact (.tup (.cons zqi (.cons (.refl _) .nil)))
 . rw [Fc.vv3 (fun h=>h1 h.1),show Fc.mul a b=Fc.zero from Fc.x0i (fun h=>h1 h.1)];refine hE [] func23 f23.eq_1 ?_
   first | refine wdy (yix a (by omega) h1) ?_ | refine y04 (yix a (by omega) h1) ?_
   refine hg ?_;exact (.tup (.cons zqi (.cons (.refl _) .nil)))
theorem wlh (a b:Fc) (ha:a.sz<=67108864) (hb:b.sz<=67108864) :
 CallsD Γ prog 63 [.agg a.C,.agg b.C] (.one (.raw (.int .i64 (Fc.cmp a b)))):=by
 by_cases h1:a.ok
 . by_cases h2:b.ok
   . obtain ⟨x,rfl⟩:=Fc.xzx h1;obtain ⟨y,rfl⟩:=Fc.xzx h2;have lx:=szO ha;have ly:=szO hb;have l1:=wp3 x.num y.den;have l2:=wp3 y.num x.den;rw [Int.natAbs_natCast] at l1 l2;rw [Fc.yzc,<-Fc.zfv];refine hE [] func63 f63.eq_1 ?_
     first | refine wdy (zt1 x (by omega)) ?_ | refine y04 (zt1 x (by omega)) ?_
     refine hg ?_
     first | refine wdy (zt1 y (by omega)) ?_ | refine y04 (zt1 y (by omega)) ?_
     refine hg ?_
     first | refine wdy (wa7 x.num y.den (by unfold okZ;omega) y.den_nz (by omega)) ?_ | refine y04 (wa7 x.num y.den (by unfold okZ;omega) y.den_nz (by omega)) ?_
     refine hg ?_
     first | refine wdy (wa7 y.num x.den (by unfold okZ;omega) x.den_nz (by omega)) ?_ | refine y04 (wa7 y.num x.den (by unfold okZ;omega) x.den_nz (by omega)) ?_
     refine hg ?_
     first | refine wdy (x0q (x.num*y.den) (y.num*x.den) (by unfold okZ;omega) (by unfold okZ;omega)) ?_ | refine y04 (x0q (x.num*y.den) (y.num*x.den) (by unfold okZ;omega) (by unfold okZ;omega)) ?_
     refine hg ?_;refine hik ?_;refine hg ?_;exact (.one (.refl _))
   . rw [show Fc.cmp a b=0 from if_neg (fun h=>h2 h.2)];obtain ⟨x,rfl⟩:=Fc.xzx h1;refine hE [] func63 f63.eq_1 ?_
     first | refine wdy (zt1 x (by omega)) ?_ | refine y04 (zt1 x (by omega)) ?_
     refine hg ?_
     first | refine wdy (yix b (by omega) h2) ?_ | refine y04 (yix b (by omega) h2) ?_
     refine hg ?_;exact (.one (.refl _))
 . rw [show Fc.cmp a b=0 from if_neg (fun h=>h1 h.1)];refine hE [] func63 f63.eq_1 ?_
   first | refine wdy (yix a (by omega) h1) ?_ | refine y04 (yix a (by omega) h1) ?_
   refine hg ?_;exact (.one (.refl _))
theorem yi8 (a:Fc) (ha:a.sz<=67108864):CallsD Γ prog 19 [.agg a.C] (.one (.raw (.int .i64 (Fc.sign a)))):=by
 by_cases h1:a.ok
 . obtain ⟨x,rfl⟩:=Fc.xzx h1;rw [Fc.x7c];refine hE [] func19 f19.eq_1 ?_
   first | refine wdy (zt1 x (by omega)) ?_ | refine y04 (zt1 x (by omega)) ?_
   refine hg ?_;exact (.one (.refl _))
 . rw [show Fc.sign a=0 from if_neg h1];refine hE [] func19 f19.eq_1 ?_
   first | refine wdy (yix a (by omega) h1) ?_ | refine y04 (yix a (by omega) h1) ?_
   refine hg ?_;exact (.one (.refl _))
theorem x57 (a b:Fc) (ha:a.sz<=67108864) (hb:b.sz<=67108864):CallsD Γ prog 67 [.agg a.C,.agg b.C] (.one (.raw (.bool (decide (a=b))))):=by
 have la:=szL ha;have lb:=szL hb;obtain ⟨r,hr⟩:∃ r,r=decide (a=b):=⟨_,rfl⟩;rw [<-hr];by_cases h:a.s=b.s/\a.L=b.L
 . have h1:=zl6 (Γ:=Γ) a.s a.L b.s b.L (by omega) (by omega);rw [decide_eq_true h] at h1;have h2:=zl6 (Γ:=Γ) a.t a.M b.t b.M (by omega) (by omega)
   have e:decide (a.t=b.t/\a.M=b.M)=r:=by
    rw [hr];apply decide_eq_decide.2;constructor
    . intro h';cases a;cases b;simp at h h';simp [h,h']
    . intro h';rw [h'];exact ⟨rfl,rfl⟩
   rw [e] at h2;refine hE [] func67 f67.eq_1 ?_
   first | refine wdy h1 ?_ | refine y04 h1 ?_
   refine hg ?_
   first | refine wdy h2 ?_ | refine y04 h2 ?_
   refine hg ?_;exact (.one (.refl _))
 . have h1:=zl6 (Γ:=Γ) a.s a.L b.s b.L (by omega) (by omega);rw [decide_eq_false h] at h1
   have e:r=false:=by rw [hr,decide_eq_false (fun e=>h (by rw [e];exact ⟨rfl,rfl⟩))]
   subst e;refine hE [] func67 f67.eq_1 ?_
   first | refine wdy h1 ?_ | refine y04 h1 ?_
   refine hg ?_;exact (.one (.refl _))
theorem xtj (n:Int) (hn:inI n):CallsD Γ prog 44 [.one (.raw (.int .i64 n))] (.agg (Fc.of (n:Rat)).C):=by
 have h1:=cOfZ (Γ:=Γ) 1 (by decide);rw [show sg 1=1 from rfl] at h1;refine hE [] func44 f44.eq_1 ?_
 first | refine wdy (cOfZ n hn) ?_ | refine y04 (cOfZ n hn) ?_
 refine hg ?_
 first | refine wdy h1 ?_ | refine y04 h1 ?_
 refine hg ?_;exact (.one (.refl _))
end Go.Hp.T
namespace Go.Hp.T
open Go Go.RowKit Go.Slot Go.Hp Go.Slot.T
open Go.Proofs.Tryz
attribute [local irreducible] hide RH
set_option maxRecDepth 10000
set_option maxHeartbeats 4000000
variable {Γ:List (Nat×List Cell)}
abbrev zC (z:Int):List Cell:=[.raw (.int .i64 (sg z)),.ints .i64 (dig z.natAbs)]
theorem wr4 (z:Int) (d:Nat) (hz:okZ z) (hd:d≠0) (hl:(dig d).length<=268435456):CallsD Γ prog 50 [.agg (zC z),.agg (zC d)] (.tup [.agg (Fc.of (Rat.divInt z d)).C,.one (cI 0)]):=by
 have:=toD (Γ:=Γ) (xpm z d hz hd hl)
 rw [Rat.divInt_ofNat];unfold zC;rw [z8z hd];exact this
theorem wvv (z:Int) (d:Nat) (hz:okZ z) (hd:d≠0) (hl:(dig d).length<=268435456):CallsD Γ prog 50 [.agg (zC z),.agg (zC (-(d:Int)))] (.tup [.agg (Fc.of (Rat.divInt z (-(d:Int)))).C,.one (cI 0)]):=by
 have hdd:okZ (-(d:Int)):=by unfold okZ;rw [show (-(d:Int)).natAbs=d by omega];exact hl
 have hzz:okZ (-z):=by unfold okZ at hz ⊢;rw [Int.natAbs_neg];exact hz
 have hdz:okZ (d:Int):=hl;have hs:sg (-(d:Int)) = -1:=zrk (by omega);have hgp:0<(Int.gcd (-z) d:Int):=(ya0 (-z) hd).2.2;obtain ⟨p1,p2,p3⟩:=ya0 (-z) hd;have hden:=xvw (mkRat (-z) d);rw [p2] at hden
 have hgl:okZ (Int.gcd (-z) d:Int):=by
  have:(Int.gcd (-z) d:Int).natAbs<=d:=by
   have:Int.gcd (-z) d ∣ d:=by have:=Int.gcd_dvd_natAbs_right (-z) d;simpa using this
   exact Nat.le_of_dvd (Nat.pos_of_ne_zero hd) this
  exact Nat.le_trans (z6g this) hl
 have hn1:=ygk (Γ:=Γ) z hz;have hn2:=ygk (Γ:=Γ) (-(d:Int)) hdd;rw [Int.neg_neg,hs,z8z hd] at hn2;have hr:=wbs (Γ:=Γ) (-(d:Int)) hdd;rw [hs] at hr;have hg:=xka (Γ:=Γ) (-z) d hzz hdz;have hd1:=w9z (Γ:=Γ) (-z) (Int.gcd (-z) d:Int) hzz hgl hgp;have hd2:=w9z (Γ:=Γ) d (Int.gcd (-z) d:Int) hdz hgl hgp;rw [z8z hd] at hg hd2;rw [hden] at hd2
 have hden2:(mkRat (-z) d).den=((d:Int) / (Int.gcd (-z) d:Int)).natAbs:=by omega
 have hfin:(Fc.of (Rat.divInt z (-(d:Int)))).C=[.raw (.int .i64 (sg (-z / (Int.gcd (-z) d:Int)))),.ints .i64 (dig (-z / (Int.gcd (-z) d:Int)).natAbs),.raw (.int .i64 1),.ints .i64 (dig ((d:Int) / (Int.gcd (-z) d:Int)).natAbs)]:=by
  rw [Rat.divInt_neg',Rat.divInt_ofNat,<-p1,<-hden2];rfl
 rw [hfin];generalize (Int.gcd (-z) d:Int)=g at *;unfold zC;rw [hs];refine hE [] func50 f50.eq_1 ?_
 repeat' first|refine hI ?_|(with_reducible first|refine wdy (toD (wbs z hz)) ?_|refine wdy (toD hr) ?_|refine y04 (toD hn1) ?_|refine y04 (toD hn2) ?_|refine wdy (toD hg) ?_|refine wdy (toD hd1) ?_|refine wdy (toD hd2) ?_)<;>refine hgS ?_
 exact RLe.ofEq rfl
theorem y74 (z q:Int) (hz:okZ z) (hq:q≠0) (hl:okZ q):CallsD Γ prog 50 [.agg (zC z),.agg (zC q)] (.tup [.agg (Fc.of (Rat.divInt z q)).C,.one (cI 0)]):=by
 unfold okZ at hl
 rcases Int.lt_or_gt_of_ne hq with h | h
 . have e:q = -((q.natAbs:Nat):Int):=by omega
   have:=wvv (Γ:=Γ) z q.natAbs hz (by omega) hl
   rw [<-e] at this;exact this
 . have e:((q.natAbs:Nat):Int)=q:=by omega
   have:=wr4 (Γ:=Γ) z q.natAbs hz (by omega) hl
   rw [e] at this;exact this
theorem xud (p q:Int) (hp:inI p) (hq:inI q) (hq0:q≠0):CallsD Γ prog 203 [.one (cI p),.one (cI q)] (.tup [.agg (Fc.of (Rat.divInt p q)).C,.one (cI 0)]):=by
 have okI:∀ n:Int,inI n->okZ n:=fun n hn=>by
  unfold okZ
  have:=zlm (n:=n.natAbs) (by unfold inI at hn;omega)
  omega
 refine hE [] func203 f203.eq_1 ?_
 repeat' ((with_reducible first|refine wdy (toD (cOfZ p hp)) ?_|refine wdy (toD (cOfZ q hq)) ?_|refine wdy (y74 p q (okI p hp) hq0 (okI q hq)) ?_)<;>refine hgS ?_)
 exact RLe.ofEq rfl
theorem v9j (x y:Rat):x / y=Rat.divInt (x.num*y.den) (x.den*y.num):=by
 rw [Rat.div_def,Rat.inv_def]
 conv=>lhs;rw [<-Rat.num_divInt_den x]
 rw [Rat.divInt_mul_divInt]
abbrev fQ (x:Rat):List Cell:=[.raw (.int .i64 (sg x.num)),.ints .i64 (dig x.num.natAbs),.raw (.int .i64 1),.ints .i64 (dig x.den)]
abbrev qs (x:Rat):Nat:=(Fc.of x).sz
theorem w7q (x:Rat) (h:qs x<=268435456):CallsD Γ prog 16 [.agg (fQ x)] (.one (cB true)):=toD (zt1 x h)
theorem qMul (x y:Rat) (hx:qs x<=67108864) (hy:qs y<=67108864):CallsD Γ prog 23 [.agg (fQ x),.agg (fQ y)] (.tup [.agg (fQ (x*y)),.one (cI 0)]):=by
 have:=toD (Γ:=Γ) (vkh (Fc.of x) (Fc.of y) hx hy)
 rw [Fc.vk5,Fc.wfd ⟨Fc.wvr x,Fc.wvr y⟩] at this;exact this
theorem qInt (n:Int) (hn:inI n):CallsD Γ prog 44 [.one (cI n)] (.agg (fQ (n:Rat))):=toD (xtj n hn)
theorem qOf (p q:Int) (hp:inI p) (hq:inI q) (hq0:q≠0):CallsD Γ prog 203 [.one (cI p),.one (cI q)] (.tup [.agg (fQ (Rat.divInt p q)),.one (cI 0)]):=xud p q hp hq hq0
theorem qDiv (x y:Rat) (hy:y≠0) (hx:qs x<=67108864) (hyl:qs y<=67108864):CallsD Γ prog 68 [.agg (fQ x),.agg (fQ y)] (.tup [.agg (fQ (x / y)),.one (cI 0)]):=by
 have lx:=szO hx;have ly:=szO hyl;have l1:=wp3 x.num y.den;have l4:=wp3 (x.den:Int) y.num
 have hyn:y.num≠0:=fun h=>hy (Rat.num_eq_zero.1 h)
 have hsy:sg y.num≠0:=by have:=yo8 y.num;omega
 have hD:okZ (x.den:Int):=by unfold okZ;have:=lx.2;simp only [Int.natAbs_natCast];omega
 have hDy:okZ (y.den:Int):=by unfold okZ;have:=ly.2;simp only [Int.natAbs_natCast];omega
 have t1:=xx1 (Γ:=Γ) x.num y.den (by unfold okZ;omega) hDy;have t2:=xx1 (Γ:=Γ) (x.den:Int) y.num hD (by unfold okZ;omega);rw [z8z y.den_nz] at t1;rw [z8z x.den_nz] at t2;simp only [Int.natAbs_natCast] at t1 t2;have hden:((x.den:Int)*y.num)≠0:=Int.mul_ne_zero (by have:=x.den_nz;omega) hyn;have hn:=y74 (Γ:=Γ) (x.num*y.den) (x.den*y.num) (by unfold okZ;simp only [Int.natAbs_natCast] at l1;omega) hden (by unfold okZ;simp only [Int.natAbs_natCast] at l4;omega);rw [v9j];refine hE [] func68 f68.eq_1 ?_
 repeat' first|refine hI ?_|(with_reducible first|refine wdy (w7q x (by omega)) ?_|refine wdy (w7q y (by omega)) ?_|refine y04 (toD t1) ?_|refine y04 (toD t2) ?_|refine y04 hn ?_)<;>refine hgS ?_
 exact RLe.ofEq rfl
end Go.Hp.T
