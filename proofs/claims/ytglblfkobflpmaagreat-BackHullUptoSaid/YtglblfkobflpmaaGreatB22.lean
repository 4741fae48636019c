/- The proof, part B22: Ch, Le, Ci, Cj, Ck, Lf, Cl. -/
import Derived.Test.YtglblfkobflpmaaGreatB21
namespace Go.Hp.T
open Go Go.RowKit Go.Slot Go.Hp Go.Slot.T
open Go.Proofs.Tryz (prog)
attribute [local irreducible] hide RH
set_option maxRecDepth 10000
set_option maxHeartbeats 8000000
variable {Γ:List (Nat×List Cell)}
theorem cDiv (a b:Nat) (la:(dig a).length<=1073741824) (hl:(dig b).length<=1073741824) (hb:b≠0) :
 CallsD Γ prog 123 [.one (.ints .i64 (dig a)),.one (.ints .i64 (dig b))] (.tup [.one (.ints .i64 (dig (a / b))),.one (.ints .i64 (dig (a % b)))]):=by
 have ea:=zcw a;have eb:=zcw b
 have e1:(num (dig a) / num (dig b)).toNat=a / b:=by rw [ea,eb];exact Int.toNat_natCast _
 have e2:(num (dig a) % num (dig b)).toNat=a % b:=by rw [ea,eb];exact Int.toNat_natCast _
 rw [<-e1,<-e2]
 rcases Nat.lt_or_ge a b with h | h
 . exact w8u _ _ (zkp _) (vvr _) (zkp _) (vvr _) la hl (by omega)
 . rcases Nat.lt_or_ge (dig b).length 2 with h1 | h1
   . have h0:(dig b).length≠0:=fun e=>hb (xzb.1 (List.eq_nil_of_length_eq_zero e))
     exact w1u _ _ (zkp _) (vvr _) (zkp _) (vvr _) la (by omega) (by omega)
   . exact wlc _ _ (zkp _) (vvr _) (zkp _) (vvr _) la h1 (by omega)
theorem xgs (x y:Int) (hx:okZ x) (hy:okZ y) (hy0:0<y) :
 CallsD Γ prog 120 [.agg [.raw (.int .i64 (sg x)),.ints .i64 (dig x.natAbs)],.agg [.raw (.int .i64 (sg y)),.ints .i64 (dig y.natAbs)]]
  (.tup [.agg [.raw (.int .i64 (sg (x / y))),.ints .i64 (dig (x / y).natAbs)],.agg [.raw (.int .i64 (sg (x % y))),.ints .i64 (dig (x % y).natAbs)],.one (.raw (.int .i64 0))]):=by
 have sx:=vvv x;have sy:=x80 hy0;have hn:=Nat.div_add_mod x.natAbs y.natAbs;have hr:=Nat.mod_lt x.natAbs (show 0<y.natAbs by omega);have hqx:=Nat.div_le_self x.natAbs y.natAbs;have hrx:=Nat.mod_le x.natAbs y.natAbs;have hlq:=xax hqx;have hlr:=xax hrx;generalize hQ:x.natAbs / y.natAbs=Q at *;generalize hR:x.natAbs % y.natAbs=R at *
 have hyQ:((y.natAbs*Q:Nat):Int)=y*Q:=by rw [Int.natCast_mul];congr 1;omega
 have eR:=zcw R;have eQ:=zcw Q;have ey:=ytb y;have hlQ1:=vwt Q 1
 have h1l:(dig 1).length=1:=by rw [xxw (by decide),y89];rfl
 have hcd:=cDiv (Γ:=Γ) x.natAbs y.natAbs (by omega) (by omega) (by omega);rw [hQ,hR] at hcd;refine CallsD.run [] Go.Proofs.Tryz.func120 rfl rfl rfl ?_;simp only [Go.Proofs.Tryz.f120];refine hgR ?_
 first | refine wml (xt7 x hx) ?_ | refine ysi (xt7 x hx) ?_
 refine hg ?_
 first | refine wml (xt7 y hy) ?_ | refine ysi (xt7 y hy) ?_
 refine hg ?_;refine vt2 (fun h _=>absurd h (by omega)) (fun _ _=>?_);refine hg ?_
 first | refine wml hcd ?_ | refine ysi hcd ?_
 conv=>simp (maxSteps:=2000000) (disch:=omega) only [go_sem,Nat.reduceAdd,Nat.reduceSub,Nat.reduceMul,Int.reduceToNat,Nat.reduceEqDiff,Nat.reduceBEq,Nat.reduceBneDiff,Nat.reduceLT,Int.reduceEq,Int.reduceLT,Int.reduceLE,Int.reduceNeg,Int.reduceAdd,Int.reduceSub,Int.reduceMul,sy,Int.mul_one]
 refine ywj (fun h1 _=>?_) (fun h1 _=>?_)
 . have hx0:x<0:=by omega
   conv=>simp (maxSteps:=2000000) (disch:=omega) only [go_sem,Nat.reduceAdd,Nat.reduceSub,Nat.reduceMul,Int.reduceToNat,Nat.reduceEqDiff,Nat.reduceBEq,Nat.reduceBneDiff,Nat.reduceLT,Int.reduceEq,Int.reduceLT,Int.reduceLE,Int.reduceNeg,Int.reduceAdd,Int.reduceSub,Int.reduceMul,h1,sy,Int.mul_one]
   refine vt2 (fun h2 _=>?_) (fun h2 _=>?_)
   . have hR0:R≠0:=fun e=>by rw [e,y89] at h2;simp at h2
     obtain ⟨k1,k2⟩:=yby (x:=x) (y:=y) (q:=-((Q:Int)+1)) (r:=y-R) (by
      have:y * -((Q:Int)+1) = -(y*Q)-y:=by grind
      omega) (by omega) (by omega)
     have m1:(x / y).natAbs=Q+1:=by rw [k1];omega
     have m2:(x % y).natAbs=y.natAbs-R:=by rw [k2];omega
     have m3:(num (dig Q)+num [1]).toNat=Q+1:=by rw [eQ];simp [num]
     have m4:(num (dig y.natAbs)-num (dig R)).toNat=y.natAbs-R:=by rw [ey,eR];omega
     have hA:=whl (Γ:=Γ) (dig Q) [1] (zkp _) (digits.cons (by decide) digits.nil) (by omega) (by simp);rw [m3,<-m1] at hA;have hS:=v6v (Γ:=Γ) (dig y.natAbs) (dig R) (zkp _) (zkp _) (by omega) (xax (by omega)) (by omega);rw [m4,<-m2] at hS;have hs1:=wcv (Γ:=Γ) (-1) (x / y) (by rw [m1];omega) (by rw [k1];omega);have hs2:=wcv (Γ:=Γ) 1 (x % y) (by rw [m2];have:=xax (show y.natAbs-R<=y.natAbs by omega);omega) (by rw [k2];omega);refine hg ?_
     first | refine wml hA ?_ | refine ysi hA ?_
     refine hg ?_
     first | refine wml hs1 ?_ | refine ysi hs1 ?_
     refine hg ?_
     first | refine wml hS ?_ | refine ysi hS ?_
     refine hg ?_
     first | refine wml hs2 ?_ | refine ysi hs2 ?_
     refine hg ?_;refine hik ?_;refine hg ?_;exact (.one (.refl _))
   . have hR0:R=0:=xzb.1 (List.eq_nil_of_length_eq_zero (by omega))
     obtain ⟨k1,k2⟩:=yby (x:=x) (y:=y) (q:=-(Q:Int)) (r:=0) (by
      have:y * -(Q:Int) = -(y*Q):=by grind
      omega) (by omega) (by omega)
     have m1:(x / y).natAbs=Q:=by rw [k1];omega
     have m2:(x % y).natAbs=R:=by rw [k2];omega
     have hs1:=wcv (Γ:=Γ) (sg x) (x / y) (by rw [m1];omega) (by rw [k1];omega);have hs2:=wcv (Γ:=Γ) (sg x) (x % y) (by rw [m2];omega) (by rw [k2];omega);rw [<-m1,<-m2]
     conv=>simp (maxSteps:=2000000) (disch:=omega) only [go_sem,Nat.reduceAdd,Nat.reduceSub,Nat.reduceMul,Int.reduceToNat,Nat.reduceEqDiff,Nat.reduceBEq,Nat.reduceBneDiff,Nat.reduceLT,Int.reduceEq,Int.reduceLT,Int.reduceLE,Int.reduceNeg,Int.reduceAdd,Int.reduceSub,Int.reduceMul,sy,Int.mul_one]
     first | refine wml hs1 ?_ | refine ysi hs1 ?_
     refine hg ?_
     first | refine wml hs2 ?_ | refine ysi hs2 ?_
     refine hg ?_;refine hik ?_;refine hg ?_;exact (.one (.refl _))
 . have hx0:0<=x:=by omega
   obtain ⟨k1,k2⟩:=yby (x:=x) (y:=y) (q:=(Q:Int)) (r:=(R:Int)) (by omega) (by omega) (by omega)
   have m1:(x / y).natAbs=Q:=by rw [k1];omega
   have m2:(x % y).natAbs=R:=by rw [k2];omega
   have hQ0:x=0->Q=0/\R=0:=fun e=>by subst e;simp at hqx hrx;exact ⟨hqx,hrx⟩
   have hs1:=wcv (Γ:=Γ) (sg x) (x / y) (by rw [m1];omega) (by rw [k1];omega);have hs2:=wcv (Γ:=Γ) (sg x) (x % y) (by rw [m2];omega) (by rw [k2];omega);rw [<-m1,<-m2]
   conv=>simp (maxSteps:=2000000) (disch:=omega) only [go_sem,Nat.reduceAdd,Nat.reduceSub,Nat.reduceMul,Int.reduceToNat,Nat.reduceEqDiff,Nat.reduceBEq,Nat.reduceBneDiff,Nat.reduceLT,Int.reduceEq,Int.reduceLT,Int.reduceLE,Int.reduceNeg,Int.reduceAdd,Int.reduceSub,Int.reduceMul,h1,sy,Int.mul_one]
   first | refine wml hs1 ?_ | refine ysi hs1 ?_
   refine hg ?_
   first | refine wml hs2 ?_ | refine ysi hs2 ?_
   refine hg ?_;refine hik ?_;refine hg ?_;exact (.one (.refl _))
theorem ydl (x y:Int) (hx:okZ x) (hy:okZ y) :
 CallsD Γ prog 82 [.agg [.raw (.int .i64 (sg x)),.ints .i64 (dig x.natAbs)],.agg [.raw (.int .i64 (sg y)),.ints .i64 (dig y.natAbs)]]
  (.tup [.agg [.raw (.int .i64 (sg (Int.gcd x y:Int))),.ints .i64 (dig (Int.gcd x y:Int).natAbs)],.one (.raw (.int .i64 0))]):=by
 refine CallsD.run [] Go.Proofs.Tryz.func82 rfl rfl rfl ?_;simp only [Go.Proofs.Tryz.f82];refine hgR ?_
 first | refine wml (xt7 x hx) ?_ | refine ysi (xt7 x hx) ?_
 refine hg ?_
 first | refine wml (xt7 y hy) ?_ | refine ysi (xt7 y hy) ?_
 refine hg ?_
 first | refine wml (vxv _ (by omega)) ?_ | refine ysi (vxv _ (by omega)) ?_
 refine hg ?_;refine hik ?_;refine hg ?_;refine x20 [2,3,4,5] (fun p:Nat×Nat=>[(6,.one (.dat (.ints .i64 (dig p.1)))),(7,.one (.dat (.ints .i64 (dig p.2))))])
  (fun _=>[.box [.dat (cI (sg x)),.dat (.ints .i64 (dig x.natAbs))] (some 32),.box [.dat (cI (sg y)),.dat (.ints .i64 (dig y.natAbs))] (some 32),.box [.dat (cI 0),.dat .zc] (some 32)])
  (fun p=>Nat.gcd p.1 p.2=Int.gcd x y/\(dig p.1).length<=268435456/\(dig p.2).length<=268435456) (fun p=>p.2) (x.natAbs,y.natAbs) ⟨rfl,hx,hy⟩ ?_ ?_
 . refine hg ?_;exact StH.same svl rfl
 rintro ⟨m,n⟩ ⟨hgg,hm,hn⟩;simp only at hgg hm hn;refine hg ?_;refine vt2 (fun h _=>?_) (fun h _=>?_)
 . have hn0:n≠0:=fun e=>by rw [e,y89] at h;simp at h
   refine hg ?_
   first | refine wml (cDiv m n (by omega) (by omega) hn0) ?_ | refine ysi (cDiv m n (by omega) (by omega) hn0) ?_
   refine hg ?_;refine ⟨(n,m % n),⟨?_,hn,Nat.le_trans (xax (Nat.mod_le _ _)) hm⟩,Nat.mod_lt _ (by omega),StH.same svl rfl⟩;dsimp only;rw [<-hgg,Nat.gcd_comm n,<-Nat.gcd_rec,Nat.gcd_comm]
 . have hn0:n=0:=xzb.1 (List.eq_nil_of_length_eq_zero (by omega));subst hn0;rw [Nat.gcd_zero_right] at hgg
   have e:(Int.gcd x y:Int).natAbs=m:=by rw [<-hgg];rfl
   have hs:=wcv (Γ:=Γ) 1 (Int.gcd x y:Int) (by rw [e];omega) (.inl ⟨rfl,by omega⟩);rw [e] at hs ⊢;have hc:=yfy (Γ:=Γ) true (sg (Int.gcd x y:Int)) (dig m);refine hg ?_
   first | refine wml (vxv _ (by omega)) ?_ | refine ysi (vxv _ (by omega)) ?_
   refine hg ?_
   first | refine wml hs ?_ | refine ysi hs ?_
   refine hg ?_
   first | refine wml hc ?_ | refine ysi hc ?_
   refine hg1 @bigC.eq_def ?_;exact (.one (.refl _))
end Go.Hp.T
namespace Go.Slot
open Go Go.RowKit
theorem ygb (z:Int):sg z*num (dig z.natAbs)=z:=by
 rw [ytb]
 rcases vvv z with ⟨h,e⟩ | ⟨h,e⟩ | ⟨h,e⟩<;>rw [e]<;>omega
def xgb (s:Int) (L:List Int) (t:Int) (M:List Int):Prop:=wd7 s L/\wd7 t M/\t=1/\Int.gcd (s*num L) (t*num M)=1
instance (s:Int) (L:List Int) (t:Int) (M:List Int):Decidable (xgb s L t M):=inferInstanceAs (Decidable (_/\_))
theorem z6p (s:Int) (L:List Int) (t:Int) (M:List Int):xgb s L t M↔∃ r:Rat,s=sg r.num/\L=dig r.num.natAbs/\t=1/\M=dig r.den:=by
 constructor
 . rintro ⟨h1,h2,h3,h4⟩;obtain ⟨x,rfl,rfl⟩:=(whj _ _).1 h1;obtain ⟨y,h5,rfl⟩:=(whj _ _).1 h2;rw [h5,ygb,ygb] at h4
   have hy:0<y:=by rcases vvv y with ⟨h,e⟩ | ⟨h,e⟩ | ⟨h,e⟩<;>omega
   refine ⟨⟨x,y.natAbs,by omega,h4⟩,rfl,rfl,h3,rfl⟩
 . rintro ⟨r,rfl,rfl,rfl,rfl⟩;have hd:0<r.den:=Nat.pos_of_ne_zero r.den_nz;have hs:(1:Int)=sg (r.den:Int):=(x80 (by omega)).symm
   have h2:wd7 1 (dig r.den):=by
    have:=zzb (r.den:Int)
    rw [<-hs] at this;exact this
   refine ⟨zzb _,h2,rfl,?_⟩;rw [ygb,zcw,Int.one_mul];exact r.reduced
end Go.Slot
namespace Go.Hp.T
open Go Go.RowKit Go.Slot Go.Hp Go.Slot.T
open Go.Proofs.Tryz (prog)
attribute [local irreducible] hide RH
set_option maxRecDepth 10000
set_option maxHeartbeats 8000000
variable {Γ:List (Nat×List Cell)}
def inI (z:Int):Prop:=-9223372036854775808<=z/\z<=9223372036854775807
instance (z:Int):Decidable (inI z):=inferInstanceAs (Decidable (_/\_))
theorem cInt (z:Int) (hz:okZ z):CallsD Γ prog 124 [.agg [.raw (.int .i64 (sg z)),.ints .i64 (dig z.natAbs)]]
 (.tup [.one (.raw (.int .i64 (if inI z then z else 0))),.one (.raw (.bool (decide (inI z))))]):=by
 have hs:=vvv z;have hn:=ytb z;have hd:=zkp z.natAbs
 obtain ⟨r,hr⟩:∃ r,r=if inI z then z else 0:=⟨_,rfl⟩
 obtain ⟨ok,hok⟩:∃ ok,ok=decide (inI z):=⟨_,rfl⟩;rw [<-hr,<-hok]
 have bad:¬inI z->r=0/\ok=false:=fun h=>by rw [hr,hok,if_neg h,decide_eq_false h];exact ⟨rfl,rfl⟩
 have good:inI z->r=z/\ok=true:=fun h=>by rw [hr,hok,if_pos h,decide_eq_true h];exact ⟨rfl,rfl⟩
 clear hr hok;refine CallsD.run [] Go.Proofs.Tryz.func124 rfl rfl rfl ?_;simp only [Go.Proofs.Tryz.f124];refine hgR ?_
 first | refine wml (xt7 z hz) ?_ | refine ysi (xt7 z hz) ?_
 refine hg ?_;refine vt2 (fun hbig _=>?_) (fun hbig _=>?_)
 . refine hg ?_
   obtain ⟨e1,e2⟩:=bad (fun h=>by
    have:(dig z.natAbs).length<=4:=w9k (by unfold inI at h;omega)
    omega)
   exact (by rw [e1,e2];exact .one (.refl _))
 have htop:(dig z.natAbs).length=4->(dig z.natAbs).getD 3 0<=8\/¬inI z:=fun h4=>by
  rcases Int.lt_or_le 8 ((dig z.natAbs).getD 3 0) with h | h
  . right
    intro hi;have h1:=w0b (dig z.natAbs) 3;rw [vbl (by omega),hn] at h1;have h2:=num_nonneg (hd.take 3);unfold inI at hi;omega
  . exact .inl h
 refine hg ?_;refine x20 [1,2,3,17,18] (fun x:Nat×Int=>[(4,.one (.dat (.raw (.int .u64 x.2)))),(19,.one (.dat (cI (x.1))))])
  (fun _=>[.box [.dat (cI (sg z)),.dat (.ints .i64 (dig z.natAbs))] (some 32)])
  (fun x=>x.1<=(dig z.natAbs).length/\x.2=num ((dig z.natAbs).take x.1)/\(x.1=4->(dig z.natAbs).getD 3 0<=8)) (fun x=>(dig z.natAbs).length-x.1) (0,0)
  ⟨Nat.zero_le _,by simp [num],by simp⟩ ?_ ?_
 . refine hg ?_;exact StH.same svl rfl
 rintro ⟨i,u⟩ ⟨hi,hu,h4⟩;simp only at hi hu h4;have hu0:=num_nonneg (hd.take i);have hu1:=yv9 (hd.take i);rw [List.length_take,Nat.min_eq_left hi,<-hu] at hu1;rw [<-hu] at hu0;refine hg ?_;refine vt2 (fun h _=>?_) (fun h _=>?_)
 . have hdi:=hd.getD i
   have hi3:i<=3:=by omega
   have hdB:i≠3\/(dig z.natAbs).getD i 0<=8->(dig z.natAbs).getD i 0*1048576 ^ i+u<=18446744073709551615:=fun h8=>by
    rcases xo6 hi3 with ⟨h9,e⟩ | ⟨h9,e⟩ | ⟨h9,e⟩ | ⟨h9,e⟩<;>rw [e] at hu1 ⊢<;>omega
   have hdB0:0<=(dig z.natAbs).getD i 0*1048576 ^ i:=Int.mul_nonneg hdi.1 (Int.le_of_lt (w7x i))
   have hstep:u+(dig z.natAbs).getD i 0*1048576 ^ i=num ((dig z.natAbs).take (i+1)):=by rw [w0b,hu,Int.mul_comm]
   refine hg ?_;refine ywj (fun h5 _=>?_) (fun h5 _=>?_)
   . have h5':=decide_eq_true h5;refine hg1 @h5' ?_;refine vt2 (fun h6 _=>?_) (fun h6 _=>?_)
     . have i3:i=3:=by omega
       subst i3
       have hni:¬inI z:=by
        rcases htop (by omega) with h7 | h7
        . omega
        . exact h7
       obtain ⟨e1,e2⟩:=bad hni;refine hg ?_;exact (by rw [e1,e2];exact .one (.refl _))
     . have hdB:=hdB (.inr (by omega));refine hg2 @shlB @orB ?_
       have h8:i+1=4->(dig z.natAbs).getD 3 0<=8:=fun e=>by
        have i3:i=3:=by omega
        subst i3;omega
       exact ⟨(i+1,u+(dig z.natAbs).getD i 0*1048576 ^ i),⟨by dsimp only;omega,hstep,h8⟩,by dsimp only;omega,StH.same svl rfl⟩
   . have hdB:=hdB (.inl (by omega));refine hg3 @h5 @shlB @orB ?_;exact ⟨(i+1,u+(dig z.natAbs).getD i 0*1048576 ^ i),⟨by dsimp only;omega,hstep,fun (e:i+1=4)=>by omega⟩,by dsimp only;omega,StH.same svl rfl⟩
 . have hil:i=(dig z.natAbs).length:=by omega
   rw [hil,List.take_length,hn] at hu
   have hub:u<=10376293541461622784:=by
    have:i<=4:=by omega
    rcases Nat.lt_or_ge i 4 with h7 | h7
    . rcases xo6 (show i<=3 by omega) with ⟨h9,e⟩ | ⟨h9,e⟩ | ⟨h9,e⟩ | ⟨h9,e⟩<;>rw [e] at hu1<;>omega
    . have h8:=w0b (dig z.natAbs) 3;rw [vbl (by omega),hn] at h8;have h9:=yv9 (hd.take 3)
      have h10:((dig z.natAbs).take 3).length=3:=by simp;omega
      rw [h10] at h9
      have:=h4 (by omega)
      have h11:(1048576:Int) ^ 3=1152921504606846976:=by decide
      rw [h11] at h9 h8;omega
   refine hg ?_;refine ywj (fun h5 _=>?_) (fun h5 _=>?_)
   . refine hg1 @h5 ?_;refine vt2 (fun h6 _=>?_) (fun h6 _=>?_)
     . obtain ⟨e1,e2⟩:=good (by unfold inI;omega);refine hg2 @zvc @zhy ?_;rw [e1,e2,show 0-u+18446744073709551616-18446744073709551616=z by omega];exact .one (.refl _)
     . obtain ⟨e1,e2⟩:=bad (by unfold inI;omega);refine hg ?_;refine ywj (fun h7 _=>absurd h7 (by omega)) (fun h7 _=>?_);refine hg1 @h7 ?_;exact (by rw [e1,e2];exact .one (.refl _))
   . refine hg1 @h5 ?_;refine ywj (fun h7 _=>?_) (fun h7 _=>absurd (by omega) h7);refine hg1 @h7 ?_;refine vt2 (fun h6 _=>?_) (fun h6 _=>?_)
     . obtain ⟨e1,e2⟩:=good (by unfold inI;omega);refine hg ?_;rw [e1,e2,show u=z by omega];exact .one (.refl _)
     . obtain ⟨e1,e2⟩:=bad (by unfold inI;omega);refine hg ?_;exact (by rw [e1,e2];exact .one (.refl _))
theorem cOne (z:Int) (hz:okZ z):CallsD Γ prog 83 [.agg [.raw (.int .i64 (sg z)),.ints .i64 (dig z.natAbs)]] (.one (.raw (.bool (decide (z=1))))):=by
 obtain ⟨r,hr⟩:∃ r,r=decide (z=1):=⟨_,rfl⟩;rw [<-hr];have hc:=cInt (Γ:=Γ) z hz;by_cases hi:inI z
 . rw [if_pos hi,decide_eq_true hi] at hc;refine CallsD.run [] Go.Proofs.Tryz.func83 rfl rfl rfl ?_;simp only [Go.Proofs.Tryz.f83];refine hgR ?_
   first | refine wml hc ?_ | refine ysi hc ?_
   refine hg ?_;exact (by rw [hr];exact .one (.refl _))
 . rw [if_neg hi,decide_eq_false hi] at hc;refine CallsD.run [] Go.Proofs.Tryz.func83 rfl rfl rfl ?_;simp only [Go.Proofs.Tryz.f83];refine hgR ?_
   first | refine wml hc ?_ | refine ysi hc ?_
   refine hg ?_;exact (by rw [hr,decide_eq_false (fun e=>hi (by unfold inI;omega))];exact .one (.refl _))
theorem z9d {n:Int} (_h:0<=n):iand .u64 n 1048575=n % 1048576:=by
 unfold iand
 have h1:(BitVec.ofInt IntKind.u64.bits n &&&BitVec.ofInt IntKind.u64.bits 1048575).toNat=(n % 1048576).toNat:=by
  show (BitVec.ofInt 64 n &&&BitVec.ofInt 64 1048575).toNat=_;rw [BitVec.toNat_and,BitVec.toNat_ofInt,BitVec.toNat_ofInt]
  have:((1048575:Int) % ((2 ^ 64:Nat):Int)).toNat=2 ^ 20-1:=by decide
  rw [this,Nat.and_two_pow_sub_one_eq_mod];omega
 rw [h1,wu64 (by omega)];omega
theorem vml (n:Int):ishr .u64 n 20=n / 1048576:=by
 unfold ishr
 have:(2:Int) ^ (min (20:Int).toNat IntKind.u64.bits)=1048576:=by decide
 rw [this,Int.fdiv_eq_ediv_of_nonneg _ (by decide)]
theorem y6j {n:Nat} (h:n<=18446744073709551615):(dig n).length<=4:=w9k (Nat.lt_of_le_of_lt h (by decide))
theorem cOfZ (n:Int) (hn:inI n):CallsD Γ prog 76 [.one (.raw (.int .i64 n))] (.agg [.raw (.int .i64 (sg n)),.ints .i64 (dig n.natAbs)]):=by
 unfold inI at hn;refine CallsD.run [(4,[.join])] Go.Proofs.Tryz.func76 rfl rfl rfl ?_;simp only [Go.Proofs.Tryz.f76];refine hgR ?_;refine wvz [2] (fun s:Int=>[(3,.one (.dat (cI s))),(4,.one (.dat (.raw (.int .u64 n.natAbs))))]) (fun _=>[.box [.dat (cI 0),.dat .zc] (some 32)])
  (fun s=>(s=1/\0<=n)\/(s = -1/\n<0)) ?_ ?_
 . by_cases h0:n<0
   . refine hg1 @zvc ?_;refine vt2 (fun h _=>?_) (fun h _=>absurd h0 h);refine hg1 @zvc ?_;refine ⟨-1,.inr ⟨rfl,h0⟩,?_⟩;rw [show 0-(n+18446744073709551616)+18446744073709551616=((n.natAbs:Nat):Int) by omega];exact StH.same svl rfl
   . refine hg ?_;refine vt2 (fun h _=>absurd h h0) (fun h _=>?_);refine hg ?_;refine ⟨1,.inl ⟨rfl,by omega⟩,?_⟩;rw [show n=((n.natAbs:Nat):Int) by omega];exact StH.same svl rfl
 rintro s hs
 have hN:(n.natAbs:Int)<=9223372036854775808:=by omega
 generalize hNN:n.natAbs=N at *;refine hg ?_;refine x20 [2,3] (fun x:Nat×List Int×Int=>[(4,.one (.dat (.raw (.int .u64 x.2.2)))),(5,.one (.sl 1 1 0 x.2.1.length))])
  (fun x=>[.box [.dat (cI 0),.dat .zc] (some 32),.arr (.ints .i64 x.2.1) 0 (some 3)])
  (fun x=>x.2.1.length=x.1/\x.1<=4/\digits x.2.1/\0<=x.2.2/\num x.2.1+1048576 ^ x.1*x.2.2=N) (fun x=>x.2.2.toNat) (0,[],N)
  ⟨rfl,Nat.zero_le _,digits.nil,by simp,by simp [num]⟩ ?_ ?_
 . refine hg ?_;refine StH.trans (StH.empty (d:=5) (es:=1) (c:=.ints .i64 []) (T:=some 3) rfl rfl trivial rfl) ?_;refine hg ?_;exact StH.same svl rfl
 rintro ⟨k,l,u⟩ ⟨hl,hk,hd,hu,he⟩;simp only at hl hk hd hu he;have hl0:=num_nonneg hd;have hp:=w7x k
 have huN:u<=N:=by
  have:=Int.mul_le_mul_of_nonneg_right (show (1:Int)<=1048576 ^ k by omega) hu
  omega
 refine hg ?_;refine vt2 (fun h _=>?_) (fun h _=>?_)
 . have hk3:k<=3:=by
    rcases Nat.lt_or_ge k 4 with h4 | h4
    . omega
    . have h1:=wo8 h4;have h2:=Int.mul_le_mul_of_nonneg_left (show (1:Int)<=u by omega) (Int.le_of_lt hp)
      have h3:(1048576:Int) ^ 4=1208925819614629174706176:=by decide
      omega
   refine hg2 @z9d @vml ?_;refine ⟨(k+1,l++[u % 1048576],u / 1048576),⟨by simp [hl],by dsimp only;omega,hd.append (digits.cons (by omega) digits.nil),by dsimp only;omega,?_⟩,by dsimp only;omega,StH.back [2,3,4,5] 1 2 2 rfl rfl rfl rfl rfl (by kernel_rfl) (StH.same svl rfl)⟩;dsimp only;rw [xa3,hl,Int.pow_succ];have h:=Int.emod_add_mul_ediv u 1048576;simp only [num];generalize (1048576:Int) ^ k=P at *;generalize u % 1048576=r at *;generalize u / 1048576=q at *
   grind
 . have hu0:u=0:=by omega
   rw [hu0,Int.mul_zero,Int.add_zero] at he;have e:=yny hd he;rw [Int.toNat_natCast,<-hNN] at e;have hdl:(dig N).length<=4:=y6j (by omega);have hsg:=yqs (Γ:=Γ) s l (by omega);unfold bigA at hsg;rw [e,<-w1w,zzt (by omega)] at hsg;unfold zC at hsg;rw [hNN] at hsg;refine hg ?_
   first | refine wml hsg ?_ | refine ysi hsg ?_
   refine hg ?_;exact (.one (.refl _))
theorem yb6 (s:Int) (L:List Int) (t:Int) (M:List Int) (hL:L.length<=268435456) (hM:M.length<=268435456) :
 CallsD Γ prog 44 [.agg [.raw (.int .i64 s),.ints .i64 L,.raw (.int .i64 t),.ints .i64 M]] (.one (.raw (.bool (decide (xgb s L t M))))):=by
 obtain ⟨r,hr⟩:∃ r,r=decide (xgb s L t M):=⟨_,rfl⟩;rw [<-hr]
 have bad:¬xgb s L t M->r=false:=fun h=>by rw [hr,decide_eq_false h]
 by_cases h1:wd7 s L
 . obtain ⟨x,rfl,rfl⟩:=(whj _ _).1 h1;by_cases h2:wd7 t M
   . obtain ⟨y,rfl,rfl⟩:=(whj _ _).1 h2;refine CallsD.run [] Go.Proofs.Tryz.func44 rfl rfl rfl ?_;simp only [Go.Proofs.Tryz.f44];refine hgR ?_
     first | refine wml (xt7 x hL) ?_ | refine ysi (xt7 x hL) ?_
     refine hg ?_
     first | refine wml (xt7 y hM) ?_ | refine ysi (xt7 y hM) ?_
     refine hg ?_;refine vt2 (fun h3 _=>?_) (fun h3 _=>?_)
     . have e:=bad (fun h=>h3 h.2.2.1);subst e;refine hg ?_;exact (.one (.refl _))
     . have h3:sg y=1:=by omega
       have hgl:(dig (Int.gcd x y:Int).natAbs).length<=268435456:=by
        have:(Int.gcd x y:Int).natAbs<=y.natAbs:=by
         have hy:0<y.natAbs:=by rcases vvv y with ⟨h,e⟩ | ⟨h,e⟩ | ⟨h,e⟩<;>omega
         exact Nat.le_of_dvd hy (Nat.gcd_dvd_right _ _)
        exact Nat.le_trans (xax this) hM
       have e:r=decide ((Int.gcd x y:Int)=1):=by
        rw [hr];apply decide_eq_decide.2;unfold xgb;rw [ygb,ygb];constructor
        . exact fun h=>by have:=h.2.2.2;omega
        . exact fun h=>⟨h1,h2,h3,by omega⟩
       subst e;refine hg ?_
       first | refine wml (ydl x y hL hM) ?_ | refine ysi (ydl x y hL hM) ?_
       refine hg ?_
       first | refine wml (cOne _ hgl) ?_ | refine ysi (cOne _ hgl) ?_
       refine hg ?_;exact (.one (.refl _))
   . have e:=bad (fun h=>h2 h.2.1);subst e;refine CallsD.run [] Go.Proofs.Tryz.func44 rfl rfl rfl ?_;simp only [Go.Proofs.Tryz.f44];refine hgR ?_
     first | refine wml (xt7 x hL) ?_ | refine ysi (xt7 x hL) ?_
     refine hg ?_
     first | refine wml (y3t t M hM h2) ?_ | refine ysi (y3t t M hM h2) ?_
     refine hg ?_;exact (.one (.refl _))
 . have e:=bad (fun h=>h1 h.1);subst e;refine CallsD.run [] Go.Proofs.Tryz.func44 rfl rfl rfl ?_;simp only [Go.Proofs.Tryz.f44];refine hgR ?_
   first | refine wml (y3t s L hL h1) ?_ | refine ysi (y3t s L hL h1) ?_
   refine hg ?_;exact (.one (.refl _))
end Go.Hp.T
namespace Go.Slot
open Go Go.RowKit
structure Fc where
 s:Int
 L:List Int
 t:Int
 M:List Int
namespace Fc
def C (f:Fc):List Cell:=[.raw (.int .i64 f.s),.ints .i64 f.L,.raw (.int .i64 f.t),.ints .i64 f.M]
theorem C_eq {f:Fc}:f.C=[.raw (.int .i64 f.s),.ints .i64 f.L,.raw (.int .i64 f.t),.ints .i64 f.M]:=_root_.id rfl
def ok (f:Fc):Prop:=xgb f.s f.L f.t f.M
instance (f:Fc):Decidable f.ok:=inferInstanceAs (Decidable (xgb _ _ _ _))
def of (r:Rat):Fc:=⟨sg r.num,dig r.num.natAbs,1,dig r.den⟩
def zero:Fc:=⟨0,[],0,[]⟩
def val (f:Fc):Rat:=mkRat (f.s*num f.L) (num f.M).toNat
def sz (f:Fc):Nat:=max f.L.length f.M.length
theorem xd3 (r:Rat):(of r).ok:=(z6p _ _ _ _).2 ⟨r,rfl,rfl,rfl,rfl⟩
theorem xhg (r:Rat):(of r).val=r:=by
 show mkRat (sg r.num*num (dig r.num.natAbs)) (num (dig r.den)).toNat=r;rw [ygb,zcw,Int.toNat_natCast,Rat.mkRat_self]
theorem vin {f:Fc} (h:f.ok):f=of f.val:=by
 obtain ⟨r,h1,h2,h3,h4⟩:=(z6p _ _ _ _).1 h
 have:f=of r:=by cases f;simp only [of] at *;subst h1 h2 h3 h4;rfl
 rw [this,xhg]
theorem vy4 {f:Fc} (h:f.ok):∃ r,f=of r:=⟨_,vin h⟩
theorem wlk {x y:Rat} (h:of x=of y):x=y:=by rw [<-xhg x,h,xhg]
theorem x8i:¬zero.ok:=fun h=>by have:=h.2.2.1;simp [zero] at this
def op2 (g:Rat->Rat->Rat) (a b:Fc):Fc:=if a.ok/\b.ok then of (g a.val b.val) else zero
def op1 (g:Rat->Rat) (a:Fc):Fc:=if a.ok then of (g a.val) else zero
def er (p:Prop) [Decidable p]:Int:=if p then 0 else 1
def add:=op2 (· + ·)
def sub:=op2 (· - ·)
def mul:=op2 (· * ·)
def maxf:=op2 (fun x y=>max x y)
def neg:=op1 (fun x=>-x)
def ordQ (x y:Rat):Int:=if x<y then -1 else if y<x then 1 else 0
def cmp (a b:Fc):Int:=if a.ok/\b.ok then ordQ a.val b.val else 0
def sign (a:Fc):Int:=if a.ok then sg a.val.num else 0
theorem vu1 (g:Rat->Rat->Rat) (x y:Rat):op2 g (of x) (of y)=of (g x y):=by unfold op2;rw [if_pos ⟨xd3 x,xd3 y⟩,xhg,xhg]
theorem zod {g:Rat->Rat->Rat} {a b:Fc} (h:¬(a.ok/\b.ok)):op2 g a b=zero:=if_neg h
theorem xac (x y:Rat):add (of x) (of y)=of (x+y):=vu1 _ x y
theorem zig (x y:Rat):sub (of x) (of y)=of (x-y):=vu1 _ x y
theorem x5c (x y:Rat):mul (of x) (of y)=of (x*y):=vu1 _ x y
theorem wij (x y:Rat):maxf (of x) (of y)=of (max x y):=vu1 _ x y
theorem ymu (x:Rat):neg (of x)=of (-x):=by unfold neg op1;rw [if_pos (xd3 x),xhg]
theorem w7n (x y:Rat):cmp (of x) (of y)=ordQ x y:=by unfold cmp;rw [if_pos ⟨xd3 x,xd3 y⟩,xhg,xhg]
theorem w9s (x:Rat):sign (of x)=sg x.num:=by unfold sign;rw [if_pos (xd3 x),xhg]
theorem wop {p:Prop} [Decidable p] (h:p):er p=0:=if_pos h
theorem w7p {p:Prop} [Decidable p] (h:¬p):er p=1:=if_neg h
theorem yyw (x y:Rat):(x<y/\ordQ x y = -1)\/(x=y/\ordQ x y=0)\/(y<x/\ordQ x y=1):=by
 unfold ordQ;by_cases h:x<y
 . exact .inl ⟨h,if_pos h⟩
 . by_cases h1:y<x
   . exact .inr (.inr ⟨h1,by rw [if_neg h,if_pos h1]⟩)
   . exact .inr (.inl ⟨Rat.le_antisymm (Rat.not_lt.1 h1) (Rat.not_lt.1 h),by rw [if_neg h,if_neg h1]⟩)
theorem xju (x y:Rat):ord (x.num*y.den) (y.num*x.den)=ordQ x y:=by
 unfold ord ordQ;simp only [Rat.lt_iff]
theorem wa3 (a b:Fc):-1<=cmp a b/\cmp a b<=1:=by
 unfold cmp ordQ;repeat' split
 all_goals omega
theorem wre:zero.sz=0:=rfl
theorem zom (x:Rat):(of x).sz=max (dig x.num.natAbs).length (dig x.den).length:=rfl
theorem xpk (n:Int) (d:Nat) (hd:d≠0):(of (mkRat n d)).sz<=max (dig n.natAbs).length (dig d).length:=by
 rw [zom,Rat.num_mkRat,Rat.den_mkRat,if_neg hd,if_neg hd]
 have h1:(n / (d.gcd n.natAbs:Nat)).natAbs<=n.natAbs:=by
  rw [Int.natAbs_ediv_of_dvd (by rw [<-Int.dvd_natAbs,Int.ofNat_dvd];exact Nat.gcd_dvd_right _ _),Int.natAbs_natCast];exact Nat.div_le_self _ _
 have h2:d / d.gcd n.natAbs<=d:=Nat.div_le_self _ _
 have:=xax h1
 have:=xax h2
 omega
theorem v2c (x y:Rat):(of (x+y)).sz<=(of x).sz+(of y).sz+1:=by
 rw [Rat.add_def'];refine Nat.le_trans (xpk _ _ (Nat.mul_ne_zero x.den_nz y.den_nz)) ?_;have h1:=x1u (x.num*y.den) (y.num*x.den);have h2:=z9n x.num y.den;have h3:=z9n y.num x.den;have h4:=zjf x.den y.den;rw [Int.natAbs_natCast] at h2 h3;rw [zom,zom];omega
theorem v83 (x:Rat):(of (-x)).sz=(of x).sz:=by
 rw [zom,zom,Rat.neg_num,Rat.neg_den,Int.natAbs_neg]
theorem yob (x y:Rat):(of (x*y)).sz<=(of x).sz+(of y).sz:=by
 rw [Rat.mul_def'];refine Nat.le_trans (xpk _ _ (Nat.mul_ne_zero x.den_nz y.den_nz)) ?_;have h2:=z9n x.num y.num;have h4:=zjf x.den y.den;rw [zom,zom];omega
theorem zrm {g:Rat->Rat->Rat} {n:Nat} (h:∀ x y,(of (g x y)).sz<=(of x).sz+(of y).sz+n) (a b:Fc):(op2 g a b).sz<=a.sz+b.sz+n:=by
 unfold op2
 split
 . rename_i hab;rw [vin hab.1,vin hab.2,xhg,xhg];exact h _ _
 . rw [wre];omega
theorem wiu (a b:Fc):(add a b).sz<=a.sz+b.sz+1:=zrm v2c a b
theorem z9a (a b:Fc):(sub a b).sz<=a.sz+b.sz+1:=zrm (fun x y=>by
 have:=v2c x (-y)
 rw [v83,<-Rat.sub_eq_add_neg] at this
 exact this) a b
theorem z5x (a b:Fc):(mul a b).sz<=a.sz+b.sz:=zrm (n:=0) yob a b
theorem zrt (a:Fc):(neg a).sz<=a.sz:=by
 unfold neg op1
 split
 . rename_i h;rw [v83,<-vin h];exact Nat.le_refl _
 . rw [wre];omega
theorem yx6 (a b:Fc):(maxf a b).sz<=a.sz+b.sz:=zrm (n:=0) (fun x y=>by
 simp only [Rat.max_def]
 split<;>omega) a b
end Fc
attribute [go_sem] Fc.C_eq
instance:DecidableEq Fc:=fun a b=>decidable_of_iff (a.s=b.s/\a.L=b.L/\a.t=b.t/\a.M=b.M) ⟨fun h=>by cases a;cases b;simp at h;simp [h],fun h=>by rw [h];exact ⟨rfl,rfl,rfl,rfl⟩⟩
end Go.Slot
namespace Go.Hp.T
open Go Go.RowKit Go.Slot Go.Hp Go.Slot.T
open Go.Proofs.Tryz (prog)
attribute [local irreducible] hide RH
set_option maxRecDepth 10000
set_option maxHeartbeats 8000000
variable {Γ:List (Nat×List Cell)}
theorem of_s {r:Rat}:(Fc.of r).s=sg r.num:=_root_.id rfl
theorem of_L {r:Rat}:(Fc.of r).L=dig r.num.natAbs:=_root_.id rfl
theorem of_t {r:Rat}:(Fc.of r).t=1:=_root_.id rfl
theorem of_M {r:Rat}:(Fc.of r).M=dig r.den:=_root_.id rfl
theorem vus:Fc.zero.s=0:=_root_.id rfl
theorem wxg:Fc.zero.L=[]:=_root_.id rfl
theorem zz2:Fc.zero.t=0:=_root_.id rfl
theorem wf5:Fc.zero.M=[]:=_root_.id rfl
attribute [go_sem] of_s of_L of_t of_M vus wxg zz2 wf5
theorem vmx (r:Rat):sg (r.den:Int)=1:=x80 (by have:=Nat.pos_of_ne_zero r.den_nz;omega)
theorem zy9 {d:Nat} (h:d≠0):sg (d:Int)=1:=x80 (by omega)
theorem szL {f:Fc} {n:Nat} (h:f.sz<=n):f.L.length<=n/\f.M.length<=n:=by unfold Fc.sz at h;omega
theorem szO {r:Rat} {n:Nat} (h:(Fc.of r).sz<=n):(dig r.num.natAbs).length<=n/\(dig r.den).length<=n:=szL h
theorem yg0 (f:Fc) (h:f.sz<=268435456):CallsD Γ prog 44 [.agg f.C] (.one (.raw (.bool (decide f.ok)))):=
 yb6 f.s f.L f.t f.M (szL h).1 (szL h).2
theorem z6t (r:Rat) (h:(Fc.of r).sz<=268435456):CallsD Γ prog 44 [.agg (Fc.of r).C] (.one (.raw (.bool true))):=by
 have:=yg0 (Γ:=Γ) (Fc.of r) h
 rwa [decide_eq_true (Fc.xd3 r)] at this
theorem zd1 (f:Fc) (h:f.sz<=268435456) (hb:¬f.ok):CallsD Γ prog 44 [.agg f.C] (.one (.raw (.bool false))):=by
 have:=yg0 (Γ:=Γ) f h
 rwa [decide_eq_false hb] at this
theorem vtk:AV.Le (.agg [.raw (.int .i64 0),.zc,.raw (.int .i64 0),.zc]) (.agg Fc.zero.C):=.agg (.cons (.refl _) (.cons (.zud _) (.cons (.refl _) (.cons (.zud _) .nil))))
theorem vhe (x y:Int) (hx:okZ x) (hy:okZ y) :
 CallsD Γ prog 75 [.agg [.raw (.int .i64 (sg x)),.ints .i64 (dig x.natAbs)],.agg [.raw (.int .i64 (sg y)),.ints .i64 (dig y.natAbs)]]
  (.agg [.raw (.int .i64 (sg (x*y))),.ints .i64 (dig (x*y).natAbs)]):=by
 refine CallsD.run [] Go.Proofs.Tryz.func75 rfl rfl rfl ?_;simp only [Go.Proofs.Tryz.f75];refine hgR ?_
 first | refine wml (yrw x y hx hy) ?_ | refine ysi (yrw x y hx hy) ?_
 refine hg ?_;exact (.one (.refl _))
theorem x8b (x:Int) (d:Nat) (hx:okZ x) (hd:d≠0) (hl:(dig d).length<=268435456) :
 CallsD Γ prog 75 [.agg [.raw (.int .i64 (sg x)),.ints .i64 (dig x.natAbs)],.agg [.raw (.int .i64 1),.ints .i64 (dig d)]]
  (.agg [.raw (.int .i64 (sg (x*d))),.ints .i64 (dig (x*d).natAbs)]):=by
 have:=vhe (Γ:=Γ) x (d:Int) hx hl
 rw [zy9 hd] at this;exact this
theorem zv0 (c d:Nat) (hc0:c≠0) (hd:d≠0) (hc:(dig c).length<=268435456) (hl:(dig d).length<=268435456) :
 CallsD Γ prog 75 [.agg [.raw (.int .i64 1),.ints .i64 (dig c)],.agg [.raw (.int .i64 1),.ints .i64 (dig d)]]
  (.agg [.raw (.int .i64 1),.ints .i64 (dig (c*d))]):=by
 have:=x8b (Γ:=Γ) (c:Int) d hc hd hl
 rw [zy9 hc0,show (c:Int)*d=((c*d:Nat):Int) from (Int.natCast_mul c d).symm,zy9 (Nat.mul_ne_zero hc0 hd)] at this;exact this
theorem ygp (z:Int) {d:Nat} (hd:d≠0):(mkRat z d).num=z / (Int.gcd z d:Int)/\((mkRat z d).den:Int)=d / (Int.gcd z d:Int)/\0<(Int.gcd z d:Int):=by
 have hgg:Int.gcd z d=d.gcd z.natAbs:=by rw [Int.gcd_eq_natAbs_gcd_natAbs,Int.natAbs_natCast,Nat.gcd_comm]
 have hp:0<d.gcd z.natAbs:=Nat.gcd_pos_of_pos_left _ (Nat.pos_of_ne_zero hd);rw [Rat.num_mkRat,Rat.den_mkRat,if_neg hd,if_neg hd,hgg];exact ⟨rfl,by rw [Int.natCast_ediv],by omega⟩
theorem w2g (z:Int) (d:Nat) (hz:okZ z) (hd:d≠0) (hl:(dig d).length<=268435456) :
 CallsD Γ prog 77 [.agg [.raw (.int .i64 (sg z)),.ints .i64 (dig z.natAbs)],.agg [.raw (.int .i64 1),.ints .i64 (dig d)]]
  (.tup [.agg (Fc.of (mkRat z d)).C,.one (.raw (.int .i64 0))]):=by
 obtain ⟨p1,p2,p3⟩:=ygp z hd;have hden:=vmx (mkRat z d);rw [p2] at hden
 have hden2:(mkRat z d).den=((d:Int) / (Int.gcd z d:Int)).natAbs:=by omega
 have hgl:okZ (Int.gcd z d:Int):=by
  have:(Int.gcd z d:Int).natAbs<=d:=by
   have:Int.gcd z d ∣ d:=by have:=Int.gcd_dvd_natAbs_right z d;simpa using this
   exact Nat.le_of_dvd (Nat.pos_of_ne_zero hd) this
  exact Nat.le_trans (xax this) hl
 have hr:=xt7 (Γ:=Γ) (d:Int) hl;have hgg:=ydl (Γ:=Γ) z d hz hl;have hd1:=xgs (Γ:=Γ) z (Int.gcd z d:Int) hz hgl p3;have hd2:=xgs (Γ:=Γ) d (Int.gcd z d:Int) hl hgl p3;rw [zy9 hd] at hr hgg hd2;rw [hden] at hd2;rw [show ((d:Nat):Int).natAbs=d from rfl] at hr hgg hd2
 have hfin:(Fc.of (mkRat z d)).C=[.raw (.int .i64 (sg (z / (Int.gcd z d:Int)))),.ints .i64 (dig (z / (Int.gcd z d:Int)).natAbs),.raw (.int .i64 1),.ints .i64 (dig ((d:Int) / (Int.gcd z d:Int)).natAbs)]:=by
  rw [<-p1,<-hden2];rfl
 rw [hfin];generalize (Int.gcd z d:Int)=g at *;refine CallsD.run [] Go.Proofs.Tryz.func77 rfl rfl rfl ?_;simp only [Go.Proofs.Tryz.f77];refine hgR ?_
 first | refine wml (xt7 z hz) ?_ | refine ysi (xt7 z hz) ?_
 refine hg ?_
 first | refine wml hr ?_ | refine ysi hr ?_
 refine hg ?_
 first | refine wml hgg ?_ | refine ysi hgg ?_
 refine hg ?_
 first | refine wml hd1 ?_ | refine ysi hd1 ?_
 refine hg ?_
 first | refine wml hd2 ?_ | refine ysi hd2 ?_
 refine hg ?_;exact (.tup (.cons (.refl _) (.cons (.refl _) .nil)))
theorem wza (a b:Fc) (ha:a.sz<=67108864) (hb:b.sz<=67108864) :
 CallsD Γ prog 49 [.agg a.C,.agg b.C] (.tup [.agg (Fc.add a b).C,.one (.raw (.int .i64 (Fc.er (a.ok/\b.ok))))]):=by
 by_cases h1:a.ok
 . by_cases h2:b.ok
   . rw [Fc.wop ⟨h1,h2⟩];obtain ⟨x,rfl⟩:=Fc.vy4 h1;obtain ⟨y,rfl⟩:=Fc.vy4 h2;have lx:=szO ha;have ly:=szO hb;have l1:=z9n x.num y.den;have l2:=z9n y.num x.den;have l3:=x1u (x.num*y.den) (y.num*x.den);have l4:=zjf x.den y.den;rw [Int.natAbs_natCast] at l1 l2;rw [Fc.xac,Rat.add_def'];refine CallsD.run [] Go.Proofs.Tryz.func49 rfl rfl rfl ?_;simp only [Go.Proofs.Tryz.f49];refine hgR ?_
     first | refine wml (z6t x (by omega)) ?_ | refine ysi (z6t x (by omega)) ?_
     refine hg ?_
     first | refine wml (z6t y (by omega)) ?_ | refine ysi (z6t y (by omega)) ?_
     refine hg ?_
     first | refine wml (x8b x.num y.den (by unfold okZ;omega) y.den_nz (by omega)) ?_ | refine ysi (x8b x.num y.den (by unfold okZ;omega) y.den_nz (by omega)) ?_
     refine hg ?_
     first | refine wml (x8b y.num x.den (by unfold okZ;omega) x.den_nz (by omega)) ?_ | refine ysi (x8b y.num x.den (by unfold okZ;omega) x.den_nz (by omega)) ?_
     refine hg ?_
     first | refine wml (zxv (x.num*y.den) (y.num*x.den) (by unfold okZ;omega) (by unfold okZ;omega)) ?_ | refine ysi (zxv (x.num*y.den) (y.num*x.den) (by unfold okZ;omega) (by unfold okZ;omega)) ?_
     refine hg ?_;refine hik ?_;refine hg ?_
     first | refine wml (zv0 x.den y.den x.den_nz y.den_nz (by omega) (by omega)) ?_ | refine ysi (zv0 x.den y.den x.den_nz y.den_nz (by omega) (by omega)) ?_
     refine hg ?_
     first | refine wml (w2g (x.num*y.den+y.num*x.den) (x.den*y.den) (by unfold okZ;omega) (Nat.mul_ne_zero x.den_nz y.den_nz) (by omega)) ?_ | refine ysi (w2g (x.num*y.den+y.num*x.den) (x.den*y.den) (by unfold okZ;omega) (Nat.mul_ne_zero x.den_nz y.den_nz) (by omega)) ?_
     refine hg ?_;refine hik ?_;refine hg ?_;exact (.tup (.cons (.refl _) (.cons (.refl _) .nil)))
   . rw [Fc.w7p (fun h=>h2 h.2),show Fc.add a b=Fc.zero from Fc.zod (fun h=>h2 h.2)];obtain ⟨x,rfl⟩:=Fc.vy4 h1;refine CallsD.run [] Go.Proofs.Tryz.func49 rfl rfl rfl ?_;simp only [Go.Proofs.Tryz.f49];refine hgR ?_
     first | refine wml (z6t x (by omega)) ?_ | refine ysi (z6t x (by omega)) ?_
     refine hg ?_
     first | refine wml (zd1 b (by omega) h2) ?_ | refine ysi (zd1 b (by omega) h2) ?_
     refine hg ?_;exact (.tup (.cons vtk (.cons (.refl _) .nil)))
 . rw [Fc.w7p (fun h=>h1 h.1),show Fc.add a b=Fc.zero from Fc.zod (fun h=>h1 h.1)];refine CallsD.run [] Go.Proofs.Tryz.func49 rfl rfl rfl ?_;simp only [Go.Proofs.Tryz.f49];refine hgR ?_
   first | refine wml (zd1 a (by omega) h1) ?_ | refine ysi (zd1 a (by omega) h1) ?_
   refine hg ?_;exact (.tup (.cons vtk (.cons (.refl _) .nil)))
end Go.Hp.T
