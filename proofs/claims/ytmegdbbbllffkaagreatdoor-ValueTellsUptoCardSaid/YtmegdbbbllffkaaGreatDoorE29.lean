/- The proof, part E29: Bm, Bn, Ld, Bo, Le, Fa, Lf, Bp, Fb. -/
import Derived.Test.YtmegdbbbllffkaaGreatDoorE28
import Derived.Test.YtmegdbbbllffkaaGreatDoorE27
namespace Go.Slot.T
open Go Go.RowKit Go.Slot
open Go.Proofs.Tryz (prog)
set_option maxRecDepth 10000
set_option maxHeartbeats 4000000
theorem cOr (x y:Int):yn2 prog 172 [.one (.ints .i64 [x,y])] (.one (.raw (.int .i64 (if x≠0 then x else y)))):=by
 refine yn2.run [] Go.Proofs.Tryz.func172 rfl rfl ?_;simp only [Go.Proofs.Tryz.f172];refine rgR ?_;refine vxs [3,6,7] (fun i:Nat=>[(8,.one (.raw (.int .i64 i)))])
  (fun i=>i=0\/(i=1/\x=0)\/(i=2/\x=0/\y=0)) (fun i=>2-i) 0 (.inl rfl) ?_ ?_
 . refine rg ?_;exact StLe.weaken (by repeat' first | exact .nil | refine .cons (by first | exact .refl _ | exact .any _) ?_) rfl
 rintro i (rfl | ⟨rfl,hx⟩ | ⟨rfl,hx,hy⟩)
 . refine rg ?_;refine z08 (fun _=>?_) (fun h=>absurd (by decide) h);refine rg ?_;refine z08 (fun h1=>?_) (fun h1=>?_)
   . have h1:x≠0:=h1;refine rg ?_;exact ⟨_,rfl,.one (.refl _)⟩
   . have h1:x=0:=by simpa using h1
     refine rg ?_;exact ⟨1,.inr (.inl ⟨rfl,h1⟩),by decide,StLe.weaken (by repeat' first | exact .nil | refine .cons (by first | exact .refl _ | exact .any _) ?_) rfl⟩
 . refine rg ?_;refine z08 (fun _=>?_) (fun h=>absurd (by decide) h);refine rg ?_;refine z08 (fun h1=>?_) (fun h1=>?_)
   . refine rg ?_;exact ⟨_,rfl,.one (.refl _)⟩
   . have h1:y=0:=by simpa using h1
     refine rg ?_;exact ⟨2,.inr (.inr ⟨rfl,hx,h1⟩),by decide,StLe.weaken (by repeat' first | exact .nil | refine .cons (by first | exact .refl _ | exact .any _) ?_) rfl⟩
 . refine rg ?_;refine z08 (fun h=>absurd h (by decide)) (fun _=>?_);refine rg ?_;exact ⟨_,rfl,by rw [hy];exact .one (.refl _)⟩
theorem zm6 (x y:Int) (hx:okZ x) (hy:okZ y) :
 yn2 prog 125 [.agg [.raw (.int .i64 (sg x)),.ints .i64 (dig x.natAbs)],.agg [.raw (.int .i64 (sg y)),.ints .i64 (dig y.natAbs)]]
  (.tup [.agg [.raw (.int .i64 (sg (x+y))),.ints .i64 (dig (x+y).natAbs)],.one (.raw (.int .i64 0))]):=by
 have sx:=wzq x;have sy:=wzq y;have hl:=zzg x y;have ex:=zeb x;have ey:=zeb y
 have hp:sg x*sg y=1\/sg x*sg y=0\/sg x*sg y = -1:=by
  rcases sx with ⟨_,e⟩ | ⟨_,e⟩ | ⟨_,e⟩<;>rcases sy with ⟨_,e'⟩ | ⟨_,e'⟩ | ⟨_,e'⟩<;>rw [e,e']<;>decide
 refine yn2.run [] Go.Proofs.Tryz.func125 rfl rfl ?_;simp only [Go.Proofs.Tryz.f125];refine rgR ?_;refine v1h (zcq x hx) ?_;refine rg ?_;refine v1h (zcq y hy) ?_;refine rg ?_;refine z08 (fun h=>?_) (fun h=>?_)
 . have hs:(0<=x/\0<=y)\/(x<=0/\y<=0):=by
    rcases sx with ⟨h1,e⟩ | ⟨h1,e⟩ | ⟨h1,e⟩<;>rcases sy with ⟨h2,e'⟩ | ⟨h2,e'⟩ | ⟨h2,e'⟩<;>rw [e,e'] at h<;>first | omega | exact absurd h (by decide)
   refine rg ?_;refine v1h (cOr _ _) ?_;refine rg ?_;refine v1h (wu3 _ _ (wo6 _) (wo6 _) (by omega) (by omega)) ?_;rw [ex,ey,show ((x.natAbs:Int)+y.natAbs).toNat=(x+y).natAbs by omega];refine rg ?_;refine v1h (vgq _ (x+y) (by omega) (by split<;>omega)) ?_;refine rg ?_;refine v1h (ypp (x+y)) ?_;refine rg ?_;refine indk (by kernel_rfl) ?_;refine rg ?_;exact ⟨_,rfl,.one (.refl _)⟩
 . have hs:(x<0/\0<y)\/(0<x/\y<0):=by
    rcases sx with ⟨h1,e⟩ | ⟨h1,e⟩ | ⟨h1,e⟩<;>rcases sy with ⟨h2,e'⟩ | ⟨h2,e'⟩ | ⟨h2,e'⟩<;>rw [e,e'] at h<;>first | omega | exact absurd (by decide) h
   refine rg ?_;refine v1h (xxj _ _ (wo6 _) (yrd _) (wo6 _) (yrd _) (by omega) (by omega)) ?_;refine rg ?_;refine z08 (fun h1=>?_) (fun h1=>?_)
   . have h2:x.natAbs<y.natAbs:=by
      rw [ex,ey] at h1;unfold ord at h1;repeat' split at h1<;>omega
     refine rg ?_;refine v1h (viv _ _ (wo6 _) (wo6 _) (by omega) (wxv (by omega)) (by omega)) ?_;rw [ex,ey,show ((y.natAbs:Int)-x.natAbs).toNat=(x+y).natAbs by omega];refine rg ?_;refine v1h (vgq _ (x+y) (by omega) (by omega)) ?_;refine rg ?_;refine v1h (ypp (x+y)) ?_;refine rg ?_;refine indk (by kernel_rfl) ?_;refine rg ?_;exact ⟨_,rfl,.one (.refl _)⟩
   . have h2:y.natAbs<=x.natAbs:=by
      rw [ex,ey] at h1;unfold ord at h1;repeat' split at h1<;>omega
     refine rg ?_;refine v1h (viv _ _ (wo6 _) (wo6 _) (by omega) (wxv (by omega)) (by omega)) ?_;rw [ex,ey,show ((x.natAbs:Int)-y.natAbs).toNat=(x+y).natAbs by omega];refine rg ?_;refine v1h (vgq _ (x+y) (by omega) (by omega)) ?_;refine rg ?_;refine v1h (ypp (x+y)) ?_;refine rg ?_;refine indk (by kernel_rfl) ?_;refine rg ?_;exact ⟨_,rfl,.one (.refl _)⟩
theorem vda (x y:Int):sg x*sg y=sg (x*y):=by
 rcases wzq x with ⟨h1,e⟩ | ⟨h1,e⟩ | ⟨h1,e⟩<;>rcases wzq y with ⟨h2,e'⟩ | ⟨h2,e'⟩ | ⟨h2,e'⟩<;>rw [e,e']
 . rw [zgv (Int.mul_pos_of_neg_of_neg h1 h2)];rfl
 . subst h2;simp [vap]
 . rw [xxz (Int.mul_neg_of_neg_of_pos h1 h2)];rfl
 . subst h1;simp [vap]
 . subst h1;simp [vap]
 . subst h1;simp [vap]
 . rw [xxz (Int.mul_neg_of_pos_of_neg h1 h2)];rfl
 . subst h2;simp [vap]
 . rw [zgv (Int.mul_pos h1 h2)];rfl
theorem wqt (z:Int):(sg z=1/\0<=z)\/(sg z = -1/\z<=0)\/z=0:=by
 rcases wzq z with ⟨h,e⟩ | ⟨h,e⟩ | ⟨h,e⟩<;>omega
theorem zf2 (x y:Int) (hx:okZ x) (hy:okZ y) :
 yn2 prog 91 [.agg [.raw (.int .i64 (sg x)),.ints .i64 (dig x.natAbs)],.agg [.raw (.int .i64 (sg y)),.ints .i64 (dig y.natAbs)]]
  (.tup [.agg [.raw (.int .i64 (sg (x*y))),.ints .i64 (dig (x*y).natAbs)],.one (.raw (.int .i64 0))]):=by
 have hl:=wm8 x y;have ex:=zeb x;have ey:=zeb y;have hs:=vda x y;have hs1:=wzq (x*y);refine yn2.run [] Go.Proofs.Tryz.func91 rfl rfl ?_;simp only [Go.Proofs.Tryz.f91];refine rgR ?_;refine v1h (zcq x hx) ?_;refine rg ?_;refine v1h (zcq y hy) ?_;refine rg ?_;refine v1h ((y5t _ _ (wo6 _) (wo6 _) (by omega) (by omega)).le .own) ?_;rw [ex,ey,show ((x.natAbs:Int)*y.natAbs).toNat=(x*y).natAbs by rw [Int.natAbs_mul,<-Int.natCast_mul];rfl];refine rg1 @hs ?_;refine v1h (vgq _ (x*y) (by omega) (wqt _)) ?_;refine rg ?_;refine v1h (ypp (x*y)) ?_;refine rg ?_;refine indk (by kernel_rfl) ?_;refine rg ?_;exact ⟨_,rfl,.one (.refl _)⟩
theorem cDiv (a b:Nat) (la:(dig a).length<=1073741824) (hl:(dig b).length<=1073741824) (hb:b≠0) :
 yn2 prog 113 [.one (.ints .i64 (dig a)),.one (.ints .i64 (dig b))] (.tup [.one (.ints .i64 (dig (a / b))),.one (.ints .i64 (dig (a % b)))]):=by
 have ea:=yn8 a;have eb:=yn8 b
 have e1:(num (dig a) / num (dig b)).toNat=a / b:=by rw [ea,eb];exact Int.toNat_natCast _
 have e2:(num (dig a) % num (dig b)).toNat=a % b:=by rw [ea,eb];exact Int.toNat_natCast _
 rw [<-e1,<-e2]
 rcases Nat.lt_or_ge a b with h | h
 . exact xjz _ _ (wo6 _) (yrd _) (wo6 _) (yrd _) la hl (by omega)
 . rcases Nat.lt_or_ge (dig b).length 2 with h1 | h1
   . have h0:(dig b).length≠0:=fun e=>hb (zrh.1 (List.eq_nil_of_length_eq_zero e))
     exact vkh _ _ (wo6 _) (yrd _) (wo6 _) (yrd _) la (by omega) (by omega)
   . exact xv2 _ _ (wo6 _) (yrd _) (wo6 _) (yrd _) la h1 (by omega)
theorem vjt (x y:Int) (hx:okZ x) (hy:okZ y) (hy0:0<y) :
 yn2 prog 90 [.agg [.raw (.int .i64 (sg x)),.ints .i64 (dig x.natAbs)],.agg [.raw (.int .i64 (sg y)),.ints .i64 (dig y.natAbs)]]
  (.tup [.agg [.raw (.int .i64 (sg (x / y))),.ints .i64 (dig (x / y).natAbs)],.agg [.raw (.int .i64 (sg (x % y))),.ints .i64 (dig (x % y).natAbs)],.one (.raw (.int .i64 0))]):=by
 have sx:=wzq x;have sy:=zgv hy0;have hn:=Nat.div_add_mod x.natAbs y.natAbs;have hr:=Nat.mod_lt x.natAbs (show 0<y.natAbs by omega);have hqx:=Nat.div_le_self x.natAbs y.natAbs;have hrx:=Nat.mod_le x.natAbs y.natAbs;have hlq:=wxv hqx;have hlr:=wxv hrx;generalize hQ:x.natAbs / y.natAbs=Q at *;generalize hR:x.natAbs % y.natAbs=R at *
 have hyQ:((y.natAbs*Q:Nat):Int)=y*Q:=by rw [Int.natCast_mul];congr 1;omega
 have eR:=yn8 R;have eQ:=yn8 Q;have ey:=zeb y;have hlQ1:=z4z Q 1
 have h1l:(dig 1).length=1:=by rw [yzy (by decide),ylp];rfl
 have hcd:=cDiv x.natAbs y.natAbs (by omega) (by omega) (by omega);rw [hQ,hR] at hcd;refine yn2.run [] Go.Proofs.Tryz.func90 rfl rfl ?_;simp only [Go.Proofs.Tryz.f90];refine rgR ?_;refine v1h (zcq x hx) ?_;refine rg ?_;refine v1h (zcq y hy) ?_;refine rg ?_;refine z08 (fun h=>absurd h (by omega)) (fun _=>?_);refine rg ?_;refine v1h hcd ?_
 conv=>simp (maxSteps:=2000000) (disch:=omega) only [go_sem,Nat.reduceAdd,Nat.reduceSub,Nat.reduceMul,Int.reduceToNat,Nat.reduceEqDiff,Nat.reduceBEq,Nat.reduceBneDiff,sy,Int.mul_one]
 refine z4u (fun h1=>?_) (fun h1=>?_)
 . have hx0:x<0:=by omega
   conv=>simp (maxSteps:=2000000) (disch:=omega) only [go_sem,Nat.reduceAdd,Nat.reduceSub,Nat.reduceMul,Int.reduceToNat,Nat.reduceEqDiff,Nat.reduceBEq,Nat.reduceBneDiff,h1,sy,Int.mul_one]
   refine z08 (fun h2=>?_) (fun h2=>?_)
   . have hR0:R≠0:=fun e=>by rw [e,ylp] at h2;simp at h2
     obtain ⟨k1,k2⟩:=v03 (x:=x) (y:=y) (q:=-((Q:Int)+1)) (r:=y-R) (by
      have:y * -((Q:Int)+1) = -(y*Q)-y:=by grind
      omega) (by omega) (by omega)
     have m1:(x / y).natAbs=Q+1:=by rw [k1];omega
     have m2:(x % y).natAbs=y.natAbs-R:=by rw [k2];omega
     have m3:(num (dig Q)+num [1]).toNat=Q+1:=by rw [eQ];simp [num]
     have m4:(num (dig y.natAbs)-num (dig R)).toNat=y.natAbs-R:=by rw [ey,eR];omega
     have hA:=wu3 (dig Q) [1] (wo6 _) (digits.cons (by decide) digits.nil) (by omega) (by simp);rw [m3,<-m1] at hA;have hS:=viv (dig y.natAbs) (dig R) (wo6 _) (wo6 _) (by omega) (wxv (by omega)) (by omega);rw [m4,<-m2] at hS;have hs1:=vgq (-1) (x / y) (by rw [m1];omega) (by rw [k1];omega);have hs2:=vgq 1 (x % y) (by rw [m2];have:=wxv (show y.natAbs-R<=y.natAbs by omega);omega) (by rw [k2];omega);refine rg ?_;refine v1h hA ?_;refine rg ?_;refine v1h hs1 ?_;refine rg ?_;refine v1h hS ?_;refine rg ?_;refine v1h hs2 ?_;refine rg ?_;refine indk (by kernel_rfl) ?_;refine rg ?_;exact ⟨_,rfl,.one (.refl _)⟩
   . have hR0:R=0:=zrh.1 (List.eq_nil_of_length_eq_zero (by omega))
     obtain ⟨k1,k2⟩:=v03 (x:=x) (y:=y) (q:=-(Q:Int)) (r:=0) (by
      have:y * -(Q:Int) = -(y*Q):=by grind
      omega) (by omega) (by omega)
     have m1:(x / y).natAbs=Q:=by rw [k1];omega
     have m2:(x % y).natAbs=R:=by rw [k2];omega
     have hs1:=vgq (sg x) (x / y) (by rw [m1];omega) (by rw [k1];omega);have hs2:=vgq (sg x) (x % y) (by rw [m2];omega) (by rw [k2];omega);rw [<-m1,<-m2]
     conv=>simp (maxSteps:=2000000) (disch:=omega) only [go_sem,Nat.reduceAdd,Nat.reduceSub,Nat.reduceMul,Int.reduceToNat,Nat.reduceEqDiff,Nat.reduceBEq,Nat.reduceBneDiff,sy,Int.mul_one]
     refine v1h hs1 ?_;refine rg ?_;refine v1h hs2 ?_;refine rg ?_;refine indk (by kernel_rfl) ?_;refine rg ?_;exact ⟨_,rfl,.one (.refl _)⟩
 . have hx0:0<=x:=by omega
   obtain ⟨k1,k2⟩:=v03 (x:=x) (y:=y) (q:=(Q:Int)) (r:=(R:Int)) (by omega) (by omega) (by omega)
   have m1:(x / y).natAbs=Q:=by rw [k1];omega
   have m2:(x % y).natAbs=R:=by rw [k2];omega
   have hQ0:x=0->Q=0/\R=0:=fun e=>by subst e;simp at hqx hrx;exact ⟨hqx,hrx⟩
   have hs1:=vgq (sg x) (x / y) (by rw [m1];omega) (by rw [k1];omega);have hs2:=vgq (sg x) (x % y) (by rw [m2];omega) (by rw [k2];omega);rw [<-m1,<-m2]
   conv=>simp (maxSteps:=2000000) (disch:=omega) only [go_sem,Nat.reduceAdd,Nat.reduceSub,Nat.reduceMul,Int.reduceToNat,Nat.reduceEqDiff,Nat.reduceBEq,Nat.reduceBneDiff,h1,sy,Int.mul_one]
   refine v1h hs1 ?_;refine rg ?_;refine v1h hs2 ?_;refine rg ?_;refine indk (by kernel_rfl) ?_;refine rg ?_;exact ⟨_,rfl,.one (.refl _)⟩
theorem xuv (x y:Int) (hx:okZ x) (hy:okZ y) :
 yn2 prog 54 [.agg [.raw (.int .i64 (sg x)),.ints .i64 (dig x.natAbs)],.agg [.raw (.int .i64 (sg y)),.ints .i64 (dig y.natAbs)]]
  (.tup [.agg [.raw (.int .i64 (sg (Int.gcd x y:Int))),.ints .i64 (dig (Int.gcd x y:Int).natAbs)],.one (.raw (.int .i64 0))]):=by
 refine yn2.run [] Go.Proofs.Tryz.func54 rfl rfl ?_;simp only [Go.Proofs.Tryz.f54];refine rgR ?_;refine v1h (zcq x hx) ?_;refine rg ?_;refine v1h (zcq y hy) ?_;refine rg ?_;refine v1h (yud _ (by omega)) ?_;refine rg ?_;refine indk (by kernel_rfl) ?_;refine rg ?_;refine vxs [5] (fun p:Nat×Nat=>[(6,.one (.ints .i64 (dig p.1))),(7,.one (.ints .i64 (dig p.2)))])
  (fun p=>Nat.gcd p.1 p.2=Int.gcd x y/\(dig p.1).length<=268435456/\(dig p.2).length<=268435456) (fun p=>p.2) (x.natAbs,y.natAbs) ⟨rfl,hx,hy⟩ ?_ ?_
 . refine rg ?_;exact StLe.weaken (by repeat' first | exact .nil | refine .cons (by first | exact .refl _ | exact .any _) ?_) rfl
 rintro ⟨m,n⟩ ⟨hg,hm,hn⟩;simp only at hg hm hn;refine rg ?_;refine z08 (fun h=>?_) (fun h=>?_)
 . have hn0:n≠0:=fun e=>by rw [e,ylp] at h;simp at h
   refine rg ?_;refine v1h (cDiv m n (by omega) (by omega) hn0) ?_;refine rg ?_;refine ⟨(n,m % n),⟨?_,hn,Nat.le_trans (wxv (Nat.mod_le _ _)) hm⟩,Nat.mod_lt _ (by omega),StLe.weaken (by repeat' first | exact .nil | refine .cons (by first | exact .refl _ | exact .any _) ?_) rfl⟩;dsimp only;rw [<-hg,Nat.gcd_comm n,<-Nat.gcd_rec,Nat.gcd_comm]
 . have hn0:n=0:=zrh.1 (List.eq_nil_of_length_eq_zero (by omega));subst hn0;rw [Nat.gcd_zero_right] at hg
   have e:(Int.gcd x y:Int).natAbs=m:=by rw [<-hg];rfl
   have hs:=vgq 1 (Int.gcd x y:Int) (by rw [e];omega) (.inl ⟨rfl,by omega⟩);rw [e] at hs ⊢;have hc:=z8n true (sg (Int.gcd x y:Int)) (dig m);refine rg ?_;refine v1h (yud _ (by omega)) ?_;refine rg ?_;refine v1h hs ?_;refine rg ?_;refine v1h hc ?_;refine rg1 @bigC.eq_def ?_;exact ⟨_,rfl,.one (.refl _)⟩
end Go.Slot.T
namespace Go.Slot
open Go Go.RowKit
theorem wu64 {n:Int} (h:0<=n/\n<=18446744073709551615):IntKind.u64.wrap n=n:=by
 unfold IntKind.wrap;simp [IntKind.bits,IntKind.signed];omega
theorem ydz {i:Nat} (h:i<=3):(i=0/\(1048576:Int) ^ i=1)\/(i=1/\(1048576:Int) ^ i=1048576)\/(i=2/\(1048576:Int) ^ i=1099511627776)\/(i=3/\(1048576:Int) ^ i=1152921504606846976):=by
 have:i=0\/i=1\/i=2\/i=3:=by omega
 rcases this with rfl | rfl | rfl | rfl
 . exact .inl ⟨rfl,by decide⟩
 . exact .inr (.inl ⟨rfl,by decide⟩)
 . exact .inr (.inr (.inl ⟨rfl,by decide⟩))
 . exact .inr (.inr (.inr ⟨rfl,by decide⟩))
theorem shlB {d:Int} {i:Nat} (hi:i<=3) (h0:0<=d) (h1:d*1048576 ^ i<=18446744073709551615):ishl .u64 d (20*(i:Int))=d*1048576 ^ i:=by
 unfold ishl
 have:(2:Int) ^ (min (20*(i:Int)).toNat IntKind.u64.bits)=1048576 ^ i:=by
  rcases ydz hi with ⟨rfl,e⟩ | ⟨rfl,e⟩ | ⟨rfl,e⟩ | ⟨rfl,e⟩<;>rw [e]<;>decide
 rw [this];exact wu64 ⟨Int.mul_nonneg h0 (Int.le_of_lt (zou i)),h1⟩
theorem orB {u d:Int} {i:Nat} (hi:i<=3) (hu:0<=u/\u<1048576 ^ i) (h0:0<=d) (h1:d*1048576 ^ i+u<=18446744073709551615):ior .u64 u (d*1048576 ^ i)=u+d*1048576 ^ i:=by
 unfold ior
 have key:∀(k:Nat) (x y:Nat),x<2 ^ k->y*2 ^ k+x<2 ^ 64->(BitVec.ofInt 64 (x:Int) |||BitVec.ofInt 64 ((y*2 ^ k:Nat):Int)).toNat=y*2 ^ k+x:=fun k x y hx hy=>by
  rw [BitVec.toNat_or,BitVec.toNat_ofInt,BitVec.toNat_ofInt]
  have e1:(((x:Int)) % ((2 ^ 64:Nat):Int)).toNat=x:=by omega
  have e2:((((y*2 ^ k:Nat)):Int) % ((2 ^ 64:Nat):Int)).toNat=y <<< k:=by rw [Nat.shiftLeft_eq];omega
  rw [e1,e2,Nat.or_comm,<-Nat.shiftLeft_add_eq_or_of_lt hx,Nat.shiftLeft_eq]
 obtain ⟨x,rfl⟩:=Int.eq_ofNat_of_zero_le hu.1;obtain ⟨y,rfl⟩:=Int.eq_ofNat_of_zero_le h0
 have main:∀ k:Nat,(1048576:Int) ^ i=((2 ^ k:Nat):Int)->IntKind.u64.wrap ((BitVec.ofInt IntKind.u64.bits (x:Int) |||BitVec.ofInt IntKind.u64.bits ((y:Int)*1048576 ^ i)).toNat:Int)=(x:Int)+(y:Int)*1048576 ^ i:=fun k e=>by
  rw [e] at h1 hu ⊢
  have h2:(y:Int)*((2 ^ k:Nat):Int)=((y*2 ^ k:Nat):Int):=by rw [Int.natCast_mul]
  rw [h2] at h1 ⊢;have h3:=key k x y (by omega) (by omega);rw [show IntKind.u64.bits=64 from rfl,h3,wu64 (by omega)];omega
 rcases ydz hi with ⟨rfl,e⟩ | ⟨rfl,e⟩ | ⟨rfl,e⟩ | ⟨rfl,e⟩
 . exact main 0 (by rw [e];rfl)
 . exact main 20 (by rw [e];rfl)
 . exact main 40 (by rw [e];rfl)
 . exact main 60 (by rw [e];rfl)
theorem ymf {n:Int} (h:9223372036854775808<=n/\n<=18446744073709551615):IntKind.i64.wrap n=n-18446744073709551616:=by rw [IntKind.wrap_i64];omega
theorem yij {n:Int} (h:-18446744073709551616<=n/\n<0):IntKind.u64.wrap n=n+18446744073709551616:=by
 unfold IntKind.wrap;simp [IntKind.bits,IntKind.signed];omega
attribute [go_sem] wu64
end Go.Slot
namespace Go.Slot.T
open Go Go.RowKit Go.Slot
open Go.Proofs.Tryz (prog)
set_option maxRecDepth 10000
set_option maxHeartbeats 4000000
def inI (z:Int):Prop:=-9223372036854775808<=z/\z<=9223372036854775807
instance (z:Int):Decidable (inI z):=inferInstanceAs (Decidable (_/\_))
theorem cInt (z:Int) (hz:okZ z):yn2 prog 115 [.agg [.raw (.int .i64 (sg z)),.ints .i64 (dig z.natAbs)]]
 (.tup [.one (.raw (.int .i64 (if inI z then z else 0))),.one (.raw (.bool (decide (inI z))))]):=by
 have hs:=wzq z;have hn:=zeb z;have hd:=wo6 z.natAbs
 obtain ⟨r,hr⟩:∃ r,r=if inI z then z else 0:=⟨_,rfl⟩
 obtain ⟨ok,hok⟩:∃ ok,ok=decide (inI z):=⟨_,rfl⟩;rw [<-hr,<-hok]
 have bad:¬inI z->r=0/\ok=false:=fun h=>by rw [hr,hok,if_neg h,decide_eq_false h];exact ⟨rfl,rfl⟩
 have good:inI z->r=z/\ok=true:=fun h=>by rw [hr,hok,if_pos h,decide_eq_true h];exact ⟨rfl,rfl⟩
 clear hr hok;refine yn2.run [] Go.Proofs.Tryz.func115 rfl rfl ?_;simp only [Go.Proofs.Tryz.f115];refine rgR ?_;refine v1h (zcq z hz) ?_;refine rg ?_;refine z08 (fun hbig=>?_) (fun hbig=>?_)
 . refine rg ?_
   obtain ⟨e1,e2⟩:=bad (fun h=>by
    have:(dig z.natAbs).length<=4:=vwv (by unfold inI at h;omega)
    omega)
   exact ⟨_,rfl,by rw [e1,e2];exact .one (.refl _)⟩
 have htop:(dig z.natAbs).length=4->(dig z.natAbs).getD 3 0<=8\/¬inI z:=fun h4=>by
  rcases Int.lt_or_le 8 ((dig z.natAbs).getD 3 0) with h | h
  . right
    intro hi;have h1:=w4d (dig z.natAbs) 3;rw [zvp (by omega),hn] at h1;have h2:=num_nonneg (hd.take 3);unfold inI at hi;omega
  . exact .inl h
 refine rg ?_;refine vxs [1,2,3,17,18] (fun x:Nat×Int=>[(4,.one (.raw (.int .u64 x.2))),(19,.one (.raw (.int .i64 x.1)))])
  (fun x=>x.1<=(dig z.natAbs).length/\x.2=num ((dig z.natAbs).take x.1)/\(x.1=4->(dig z.natAbs).getD 3 0<=8)) (fun x=>(dig z.natAbs).length-x.1) (0,0)
  ⟨Nat.zero_le _,by simp [num],by simp⟩ ?_ ?_
 . refine rg ?_;exact StLe.weaken (by repeat' first | exact .nil | refine .cons (by first | exact .refl _ | exact .any _) ?_) rfl
 rintro ⟨i,u⟩ ⟨hi,hu,h4⟩;simp only at hi hu h4;have hu0:=num_nonneg (hd.take i);have hu1:=xxq (hd.take i);rw [List.length_take,Nat.min_eq_left hi,<-hu] at hu1;rw [<-hu] at hu0;refine rg ?_;refine z08 (fun h=>?_) (fun h=>?_)
 . have hdi:=hd.getD i
   have hi3:i<=3:=by omega
   have hdB:i≠3\/(dig z.natAbs).getD i 0<=8->(dig z.natAbs).getD i 0*1048576 ^ i+u<=18446744073709551615:=fun h8=>by
    rcases ydz hi3 with ⟨h9,e⟩ | ⟨h9,e⟩ | ⟨h9,e⟩ | ⟨h9,e⟩<;>rw [e] at hu1 ⊢<;>omega
   have hdB0:0<=(dig z.natAbs).getD i 0*1048576 ^ i:=Int.mul_nonneg hdi.1 (Int.le_of_lt (zou i))
   have hstep:u+(dig z.natAbs).getD i 0*1048576 ^ i=num ((dig z.natAbs).take (i+1)):=by rw [w4d,hu,Int.mul_comm]
   refine rg ?_;refine z4u (fun h5=>?_) (fun h5=>?_)
   . have h5':=decide_eq_true h5;refine rg1 @h5' ?_;refine z08 (fun h6=>?_) (fun h6=>?_)
     . have i3:i=3:=by omega
       subst i3
       have hni:¬inI z:=by
        rcases htop (by omega) with h7 | h7
        . omega
        . exact h7
       obtain ⟨e1,e2⟩:=bad hni;refine rg ?_;exact ⟨_,rfl,by rw [e1,e2];exact .one (.refl _)⟩
     . have hdB:=hdB (.inr (by omega));refine rg2 @shlB @orB ?_
       have h8:i+1=4->(dig z.natAbs).getD 3 0<=8:=fun e=>by
        have i3:i=3:=by omega
        subst i3;omega
       exact ⟨(i+1,u+(dig z.natAbs).getD i 0*1048576 ^ i),⟨by dsimp only;omega,hstep,h8⟩,by dsimp only;omega,StLe.weaken (by repeat' first | exact .nil | refine .cons (by first | exact .refl _ | exact .any _) ?_) rfl⟩
   . have hdB:=hdB (.inl (by omega));refine rg3 @h5 @shlB @orB ?_;exact ⟨(i+1,u+(dig z.natAbs).getD i 0*1048576 ^ i),⟨by dsimp only;omega,hstep,fun (e:i+1=4)=>by omega⟩,by dsimp only;omega,StLe.weaken (by repeat' first | exact .nil | refine .cons (by first | exact .refl _ | exact .any _) ?_) rfl⟩
 . have hil:i=(dig z.natAbs).length:=by omega
   rw [hil,List.take_length,hn] at hu
   have hub:u<=10376293541461622784:=by
    have:i<=4:=by omega
    rcases Nat.lt_or_ge i 4 with h7 | h7
    . rcases ydz (show i<=3 by omega) with ⟨h9,e⟩ | ⟨h9,e⟩ | ⟨h9,e⟩ | ⟨h9,e⟩<;>rw [e] at hu1<;>omega
    . have h8:=w4d (dig z.natAbs) 3;rw [zvp (by omega),hn] at h8;have h9:=xxq (hd.take 3)
      have h10:((dig z.natAbs).take 3).length=3:=by simp;omega
      rw [h10] at h9
      have:=h4 (by omega)
      have h11:(1048576:Int) ^ 3=1152921504606846976:=by decide
      rw [h11] at h9 h8;omega
   refine rg ?_;refine z4u (fun h5=>?_) (fun h5=>?_)
   . refine rg1 @h5 ?_;refine z08 (fun h6=>?_) (fun h6=>?_)
     . obtain ⟨e1,e2⟩:=good (by unfold inI;omega);refine rg2 @yij @ymf ?_;refine ⟨_,rfl,?_⟩;rw [e1,e2,show 0-u+18446744073709551616-18446744073709551616=z by omega];exact .one (.refl _)
     . obtain ⟨e1,e2⟩:=bad (by unfold inI;omega);refine rg ?_;refine z4u (fun h7=>absurd h7 (by omega)) (fun h7=>?_);refine rg1 @h7 ?_;exact ⟨_,rfl,by rw [e1,e2];exact .one (.refl _)⟩
   . refine rg1 @h5 ?_;refine z4u (fun h7=>?_) (fun h7=>absurd (by omega) h7);refine rg1 @h7 ?_;refine z08 (fun h6=>?_) (fun h6=>?_)
     . obtain ⟨e1,e2⟩:=good (by unfold inI;omega);refine rg ?_;refine ⟨_,rfl,?_⟩;rw [e1,e2,show u=z by omega];exact .one (.refl _)
     . obtain ⟨e1,e2⟩:=bad (by unfold inI;omega);refine rg ?_;exact ⟨_,rfl,by rw [e1,e2];exact .one (.refl _)⟩
theorem cOne (z:Int) (hz:okZ z):yn2 prog 55 [.agg [.raw (.int .i64 (sg z)),.ints .i64 (dig z.natAbs)]] (.one (.raw (.bool (decide (z=1))))):=by
 obtain ⟨r,hr⟩:∃ r,r=decide (z=1):=⟨_,rfl⟩;rw [<-hr];have hc:=cInt z hz;by_cases hi:inI z
 . rw [if_pos hi,decide_eq_true hi] at hc;refine yn2.run [] Go.Proofs.Tryz.func55 rfl rfl ?_;simp only [Go.Proofs.Tryz.f55];refine rgR ?_;refine v1h hc ?_;refine rg ?_;exact ⟨_,rfl,by rw [hr];exact .one (.refl _)⟩
 . rw [if_neg hi,decide_eq_false hi] at hc;refine yn2.run [] Go.Proofs.Tryz.func55 rfl rfl ?_;simp only [Go.Proofs.Tryz.f55];refine rgR ?_;refine v1h hc ?_;refine rg ?_;exact ⟨_,rfl,by rw [hr,decide_eq_false (fun e=>hi (by unfold inI;omega))];exact .one (.refl _)⟩
end Go.Slot.T
namespace Go.Slot
open Go Go.RowKit
theorem yqs (z:Int):sg z*num (dig z.natAbs)=z:=by
 rw [zeb]
 rcases wzq z with ⟨h,e⟩ | ⟨h,e⟩ | ⟨h,e⟩<;>rw [e]<;>omega
def xm9 (s:Int) (L:List Int) (t:Int) (M:List Int):Prop:=xhn s L/\xhn t M/\t=1/\Int.gcd (s*num L) (t*num M)=1
instance (s:Int) (L:List Int) (t:Int) (M:List Int):Decidable (xm9 s L t M):=inferInstanceAs (Decidable (_/\_))
theorem v0e (s:Int) (L:List Int) (t:Int) (M:List Int):xm9 s L t M↔∃ r:Rat,s=sg r.num/\L=dig r.num.natAbs/\t=1/\M=dig r.den:=by
 constructor
 . rintro ⟨h1,h2,h3,h4⟩;obtain ⟨x,rfl,rfl⟩:=(wa6 _ _).1 h1;obtain ⟨y,h5,rfl⟩:=(wa6 _ _).1 h2;rw [h5,yqs,yqs] at h4
   have hy:0<y:=by rcases wzq y with ⟨h,e⟩ | ⟨h,e⟩ | ⟨h,e⟩<;>omega
   refine ⟨⟨x,y.natAbs,by omega,h4⟩,rfl,rfl,h3,rfl⟩
 . rintro ⟨r,rfl,rfl,rfl,rfl⟩;have hd:0<r.den:=Nat.pos_of_ne_zero r.den_nz;have hs:(1:Int)=sg (r.den:Int):=(zgv (by omega)).symm
   have h2:xhn 1 (dig r.den):=by
    have:=xpw (r.den:Int)
    rw [<-hs] at this;exact this
   refine ⟨xpw _,h2,rfl,?_⟩;rw [yqs,yn8,Int.one_mul];exact r.reduced
end Go.Slot
namespace Go.Slot.T
open Go Go.RowKit Go.Slot
open Go.Proofs.Tryz (prog)
set_option maxRecDepth 10000
set_option maxHeartbeats 4000000
theorem yc8 (s:Int) (L:List Int) (t:Int) (M:List Int) (hL:L.length<=268435456) (hM:M.length<=268435456) :
 yn2 prog 26 [.agg [.raw (.int .i64 s),.ints .i64 L,.raw (.int .i64 t),.ints .i64 M]] (.one (.raw (.bool (decide (xm9 s L t M))))):=by
 obtain ⟨r,hr⟩:∃ r,r=decide (xm9 s L t M):=⟨_,rfl⟩;rw [<-hr]
 have bad:¬xm9 s L t M->r=false:=fun h=>by rw [hr,decide_eq_false h]
 by_cases h1:xhn s L
 . obtain ⟨x,rfl,rfl⟩:=(wa6 _ _).1 h1;by_cases h2:xhn t M
   . obtain ⟨y,rfl,rfl⟩:=(wa6 _ _).1 h2;refine yn2.run [] Go.Proofs.Tryz.func26 rfl rfl ?_;simp only [Go.Proofs.Tryz.f26];refine rgR ?_;refine v1h (zcq x hL) ?_;refine rg ?_;refine v1h (zcq y hM) ?_;refine rg ?_;refine z08 (fun h3=>?_) (fun h3=>?_)
     . have e:=bad (fun h=>h3 h.2.2.1);subst e;refine rg ?_;exact ⟨_,rfl,.one (.refl _)⟩
     . have h3:sg y=1:=by omega
       have hgl:(dig (Int.gcd x y:Int).natAbs).length<=268435456:=by
        have:(Int.gcd x y:Int).natAbs<=y.natAbs:=by
         have hy:0<y.natAbs:=by rcases wzq y with ⟨h,e⟩ | ⟨h,e⟩ | ⟨h,e⟩<;>omega
         exact Nat.le_of_dvd hy (Nat.gcd_dvd_right _ _)
        exact Nat.le_trans (wxv this) hM
       have e:r=decide ((Int.gcd x y:Int)=1):=by
        rw [hr];apply decide_eq_decide.2;unfold xm9;rw [yqs,yqs];constructor
        . exact fun h=>by have:=h.2.2.2;omega
        . exact fun h=>⟨h1,h2,h3,by omega⟩
       subst e;refine rg ?_;refine v1h (xuv x y hL hM) ?_;refine rg ?_;refine v1h (cOne _ hgl) ?_;refine rg ?_;exact ⟨_,rfl,.one (.refl _)⟩
   . have e:=bad (fun h=>h2 h.2.1);subst e;refine yn2.run [] Go.Proofs.Tryz.func26 rfl rfl ?_;simp only [Go.Proofs.Tryz.f26];refine rgR ?_;refine v1h (zcq x hL) ?_;refine rg ?_;refine v1h (yr5 t M hM h2) ?_;refine rg ?_;exact ⟨_,rfl,.one (.refl _)⟩
 . have e:=bad (fun h=>h1 h.1);subst e;refine yn2.run [] Go.Proofs.Tryz.func26 rfl rfl ?_;simp only [Go.Proofs.Tryz.f26];refine rgR ?_;refine v1h (yr5 s L hL h1) ?_;refine rg ?_;exact ⟨_,rfl,.one (.refl _)⟩
end Go.Slot.T
namespace Go.Slot
open Go Go.RowKit
structure Fc where
 s:Int
 L:List Int
 t:Int
 M:List Int
namespace Fc
def C (f:Fc):List Cell:=[.raw (.int .i64 f.s),.ints .i64 f.L,.raw (.int .i64 f.t),.ints .i64 f.M]
theorem C_eq {f:Fc}:f.C=[.raw (.int .i64 f.s),.ints .i64 f.L,.raw (.int .i64 f.t),.ints .i64 f.M]:=_root_.id rfl
def ok (f:Fc):Prop:=xm9 f.s f.L f.t f.M
instance (f:Fc):Decidable f.ok:=inferInstanceAs (Decidable (xm9 _ _ _ _))
def of (r:Rat):Fc:=⟨sg r.num,dig r.num.natAbs,1,dig r.den⟩
def zero:Fc:=⟨0,[],0,[]⟩
def val (f:Fc):Rat:=mkRat (f.s*num f.L) (num f.M).toNat
def sz (f:Fc):Nat:=max f.L.length f.M.length
theorem zav (r:Rat):(of r).ok:=(v0e _ _ _ _).2 ⟨r,rfl,rfl,rfl,rfl⟩
theorem w2h (r:Rat):(of r).val=r:=by
 show mkRat (sg r.num*num (dig r.num.natAbs)) (num (dig r.den)).toNat=r;rw [yqs,yn8,Int.toNat_natCast,Rat.mkRat_self]
theorem ylb {f:Fc} (h:f.ok):f=of f.val:=by
 obtain ⟨r,h1,h2,h3,h4⟩:=(v0e _ _ _ _).1 h
 have:f=of r:=by cases f;simp only [of] at *;subst h1 h2 h3 h4;rfl
 rw [this,w2h]
theorem xst {f:Fc} (h:f.ok):∃ r,f=of r:=⟨_,ylb h⟩
theorem y2b {x y:Rat} (h:of x=of y):x=y:=by rw [<-w2h x,h,w2h]
theorem vc1:¬zero.ok:=fun h=>by have:=h.2.2.1;simp [zero] at this
def op2 (g:Rat->Rat->Rat) (a b:Fc):Fc:=if a.ok/\b.ok then of (g a.val b.val) else zero
def op1 (g:Rat->Rat) (a:Fc):Fc:=if a.ok then of (g a.val) else zero
def er (p:Prop) [Decidable p]:Int:=if p then 0 else 1
def add:=op2 (· + ·)
def sub:=op2 (· - ·)
def mul:=op2 (· * ·)
def maxf:=op2 (fun x y=>max x y)
def neg:=op1 (fun x=>-x)
def ordQ (x y:Rat):Int:=if x<y then -1 else if y<x then 1 else 0
def cmp (a b:Fc):Int:=if a.ok/\b.ok then ordQ a.val b.val else 0
def sign (a:Fc):Int:=if a.ok then sg a.val.num else 0
theorem ypk (g:Rat->Rat->Rat) (x y:Rat):op2 g (of x) (of y)=of (g x y):=by unfold op2;rw [if_pos ⟨zav x,zav y⟩,w2h,w2h]
theorem zmk {g:Rat->Rat->Rat} {a b:Fc} (h:¬(a.ok/\b.ok)):op2 g a b=zero:=if_neg h
theorem vfs (x y:Rat):add (of x) (of y)=of (x+y):=ypk _ x y
theorem v62 (x y:Rat):sub (of x) (of y)=of (x-y):=ypk _ x y
theorem ymd (x y:Rat):mul (of x) (of y)=of (x*y):=ypk _ x y
theorem vq2 (x y:Rat):maxf (of x) (of y)=of (max x y):=ypk _ x y
theorem ysh (x y:Rat):cmp (of x) (of y)=ordQ x y:=by unfold cmp;rw [if_pos ⟨zav x,zav y⟩,w2h,w2h]
theorem v2c {p:Prop} [Decidable p] (h:p):er p=0:=if_pos h
theorem zab {p:Prop} [Decidable p] (h:¬p):er p=1:=if_neg h
theorem ygb (x y:Rat):(x<y/\ordQ x y = -1)\/(x=y/\ordQ x y=0)\/(y<x/\ordQ x y=1):=by
 unfold ordQ;by_cases h:x<y
 . exact .inl ⟨h,if_pos h⟩
 . by_cases h1:y<x
   . exact .inr (.inr ⟨h1,by rw [if_neg h,if_pos h1]⟩)
   . exact .inr (.inl ⟨Rat.le_antisymm (Rat.not_lt.1 h1) (Rat.not_lt.1 h),by rw [if_neg h,if_neg h1]⟩)
theorem vi3 (x y:Rat):ord (x.num*y.den) (y.num*x.den)=ordQ x y:=by
 unfold ord ordQ;simp only [Rat.lt_iff]
theorem yav (a b:Fc):-1<=cmp a b/\cmp a b<=1:=by
 unfold cmp ordQ;repeat' split
 all_goals omega
theorem xx5 (x:Rat):(of x).sz=max (dig x.num.natAbs).length (dig x.den).length:=rfl
theorem x60 (n:Int) (d:Nat) (hd:d≠0):(of (mkRat n d)).sz<=max (dig n.natAbs).length (dig d).length:=by
 rw [xx5,Rat.num_mkRat,Rat.den_mkRat,if_neg hd,if_neg hd]
 have h1:(n / (d.gcd n.natAbs:Nat)).natAbs<=n.natAbs:=by
  rw [Int.natAbs_ediv_of_dvd (by rw [<-Int.dvd_natAbs,Int.ofNat_dvd];exact Nat.gcd_dvd_right _ _),Int.natAbs_natCast];exact Nat.div_le_self _ _
 have h2:d / d.gcd n.natAbs<=d:=Nat.div_le_self _ _
 have:=wxv h1
 have:=wxv h2
 omega
theorem va3 (x y:Rat):(of (x+y)).sz<=(of x).sz+(of y).sz+1:=by
 rw [Rat.add_def'];refine Nat.le_trans (x60 _ _ (Nat.mul_ne_zero x.den_nz y.den_nz)) ?_;have h1:=zzg (x.num*y.den) (y.num*x.den);have h2:=wm8 x.num y.den;have h3:=wm8 y.num x.den;have h4:=ysr x.den y.den;rw [Int.natAbs_natCast] at h2 h3;rw [xx5,xx5];omega
theorem wr7 (x:Rat):(of (-x)).sz=(of x).sz:=by
 rw [xx5,xx5,Rat.neg_num,Rat.neg_den,Int.natAbs_neg]
theorem zxl (x y:Rat):(of (x*y)).sz<=(of x).sz+(of y).sz:=by
 rw [Rat.mul_def'];refine Nat.le_trans (x60 _ _ (Nat.mul_ne_zero x.den_nz y.den_nz)) ?_;have h2:=wm8 x.num y.num;have h4:=ysr x.den y.den;rw [xx5,xx5];omega
end Fc
attribute [go_sem] Fc.C_eq
end Go.Slot
namespace Go.Slot.T
open Go Go.RowKit Go.Slot
open Go.Proofs.Tryz (prog)
set_option maxRecDepth 10000
set_option maxHeartbeats 4000000
variable {r:Rat}
theorem wct {n:Int} (_h:0<=n):iand .u64 n 1048575=n % 1048576:=by
 unfold iand
 have h1:(BitVec.ofInt IntKind.u64.bits n &&&BitVec.ofInt IntKind.u64.bits 1048575).toNat=(n % 1048576).toNat:=by
  show (BitVec.ofInt 64 n &&&BitVec.ofInt 64 1048575).toNat=_;rw [BitVec.toNat_and,BitVec.toNat_ofInt,BitVec.toNat_ofInt]
  have:((1048575:Int) % ((2 ^ 64:Nat):Int)).toNat=2 ^ 20-1:=by decide
  rw [this,Nat.and_two_pow_sub_one_eq_mod];omega
 rw [h1,wu64 (by omega)];omega
theorem v1d (n:Int):ishr .u64 n 20=n / 1048576:=by
 unfold ishr
 have:(2:Int) ^ (min (20:Int).toNat IntKind.u64.bits)=1048576:=by decide
 rw [this,Int.fdiv_eq_ediv_of_nonneg _ (by decide)]
theorem vun {n:Nat} (h:n<=18446744073709551615):(dig n).length<=4:=vwv (Nat.lt_of_le_of_lt h (by decide))
theorem cOf (n:Int) (hn:inI n):yn2 prog 83 [.one (.raw (.int .i64 n))] (.agg [.raw (.int .i64 (sg n)),.ints .i64 (dig n.natAbs)]):=by
 unfold inI at hn;refine yn2.run [(4,[.join])] Go.Proofs.Tryz.func83 rfl rfl ?_;simp only [Go.Proofs.Tryz.f83];refine rgR ?_;refine zu4 [] (fun s:Int=>[(3,.one (.raw (.int .i64 s))),(4,.one (.raw (.int .u64 n.natAbs)))])
  (fun s=>(s=1/\0<=n)\/(s = -1/\n<0)) ?_ ?_
 . by_cases h0:n<0
   . refine rg1 @yij ?_;refine z08 (fun h=>?_) (fun h=>absurd h0 h);refine rg1 @yij ?_;refine ⟨-1,.inr ⟨rfl,h0⟩,?_⟩;rw [show 0-(n+18446744073709551616)+18446744073709551616=((n.natAbs:Nat):Int) by omega];exact StLe.weaken (by repeat' first | exact .nil | refine .cons (by first | exact .refl _ | exact .any _) ?_) rfl
   . refine rg ?_;refine z08 (fun h=>absurd h h0) (fun h=>?_);refine rg ?_;refine ⟨1,.inl ⟨rfl,by omega⟩,?_⟩;rw [show n=((n.natAbs:Nat):Int) by omega];exact StLe.weaken (by repeat' first | exact .nil | refine .cons (by first | exact .refl _ | exact .any _) ?_) rfl
 rintro s hs
 have hN:(n.natAbs:Int)<=9223372036854775808:=by omega
 generalize hNN:n.natAbs=N at *;refine rg ?_;refine vxs [3] (fun x:Nat×List Int×Int=>[(4,.one (.raw (.int .u64 x.2.2))),(5,.one (.tok 21 (.ints .i64 x.2.1)))])
  (fun x=>x.2.1.length=x.1/\x.1<=4/\digits x.2.1/\0<=x.2.2/\num x.2.1+1048576 ^ x.1*x.2.2=N) (fun x=>x.2.2.toNat) (0,[],N)
  ⟨rfl,Nat.zero_le _,digits.nil,by simp,by simp [num]⟩ ?_ ?_
 . refine StLe.trans (StLe.tokI 5 21 (.ints .i64 []) rfl rfl rfl) ?_;refine rg ?_;exact StLe.weaken (by repeat' first | exact .nil | refine .cons (by first | exact .refl _ | exact .any _) ?_) rfl
 rintro ⟨k,l,u⟩ ⟨hl,hk,hd,hu,he⟩;simp only at hl hk hd hu he;have hl0:=num_nonneg hd;have hp:=zou k
 have huN:u<=N:=by
  have:=Int.mul_le_mul_of_nonneg_right (show (1:Int)<=1048576 ^ k by omega) hu
  omega
 refine rg ?_;refine z08 (fun h=>?_) (fun h=>?_)
 . have hk3:k<=3:=by
    rcases Nat.lt_or_ge k 4 with h4 | h4
    . omega
    . have h1:=wqr h4;have h2:=Int.mul_le_mul_of_nonneg_left (show (1:Int)<=u by omega) (Int.le_of_lt hp)
      have h3:(1048576:Int) ^ 4=1208925819614629174706176:=by decide
      omega
   refine rg2 @wct @v1d ?_;refine ⟨(k+1,l++[u % 1048576],u / 1048576),⟨by simp [hl],by dsimp only;omega,hd.append (digits.cons (by omega) digits.nil),by dsimp only;omega,?_⟩,by dsimp only;omega,StLe.weaken (by repeat' first | exact .nil | refine .cons (by first | exact .refl _ | exact .any _) ?_) rfl⟩;dsimp only;rw [xtv,hl,Int.pow_succ];have h:=Int.emod_add_mul_ediv u 1048576;simp only [num];generalize (1048576:Int) ^ k=P at *;generalize u % 1048576=r at *;generalize u / 1048576=q at *
   grind
 . have hu0:u=0:=by omega
   rw [hu0,Int.mul_zero,Int.add_zero] at he;have e:=wah hd he;rw [Int.toNat_natCast,<-hNN] at e;have hdl:(dig N).length<=4:=vun (by omega);have hsg:=y7y s l (by omega);unfold bigC at hsg;rw [e,<-wb4,vam (by omega)] at hsg;unfold zC at hsg;rw [hNN] at hsg;refine rg ?_;refine v1h hsg ?_;refine rg ?_;exact ⟨_,rfl,.one (.refl _)⟩
theorem of_s:(Fc.of r).s=sg r.num:=_root_.id rfl
theorem of_L:(Fc.of r).L=dig r.num.natAbs:=_root_.id rfl
theorem of_t:(Fc.of r).t=1:=_root_.id rfl
theorem of_M:(Fc.of r).M=dig r.den:=_root_.id rfl
theorem v57:Fc.zero.s=0:=_root_.id rfl
theorem yir:Fc.zero.L=[]:=_root_.id rfl
theorem zu6:Fc.zero.t=0:=_root_.id rfl
theorem zz8:Fc.zero.M=[]:=_root_.id rfl
attribute [go_sem] of_s of_L of_t of_M v57 yir zu6 zz8
theorem w2p (r:Rat):sg (r.den:Int)=1:=zgv (by have:=Nat.pos_of_ne_zero r.den_nz;omega)
theorem wwm {d:Nat} (h:d≠0):sg (d:Int)=1:=zgv (by omega)
theorem szL {f:Fc} {n:Nat} (h:f.sz<=n):f.L.length<=n/\f.M.length<=n:=by unfold Fc.sz at h;omega
theorem szO {n:Nat} (h:(Fc.of r).sz<=n):(dig r.num.natAbs).length<=n/\(dig r.den).length<=n:=szL h
theorem wuf (f:Fc) (h:f.sz<=268435456):yn2 prog 26 [.agg f.C] (.one (.raw (.bool (decide f.ok)))):=
 yc8 f.s f.L f.t f.M (szL h).1 (szL h).2
theorem w4o (r:Rat) (h:(Fc.of r).sz<=268435456):yn2 prog 26 [.agg (Fc.of r).C] (.one (.raw (.bool true))):=by
 have:=wuf (Fc.of r) h
 rwa [decide_eq_true (Fc.zav r)] at this
theorem yx8 (f:Fc) (h:f.sz<=268435456) (hb:¬f.ok):yn2 prog 26 [.agg f.C] (.one (.raw (.bool false))):=by
 have:=wuf f h
 rwa [decide_eq_false hb] at this
theorem xxc:AV.Le (.agg [.raw (.int .i64 0),.zc,.raw (.int .i64 0),.zc]) (.agg Fc.zero.C):=.agg (.cons (.refl _) (.cons (.ysc _) (.cons (.refl _) (.cons (.ysc _) .nil))))
theorem xhe (x y:Int) (hx:okZ x) (hy:okZ y) :
 yn2 prog 44 [.agg [.raw (.int .i64 (sg x)),.ints .i64 (dig x.natAbs)],.agg [.raw (.int .i64 (sg y)),.ints .i64 (dig y.natAbs)]]
  (.agg [.raw (.int .i64 (sg (x*y))),.ints .i64 (dig (x*y).natAbs)]):=by
 refine yn2.run [] Go.Proofs.Tryz.func44 rfl rfl ?_;simp only [Go.Proofs.Tryz.f44];refine rgR ?_;refine v1h (zf2 x y hx hy) ?_;refine rg ?_;exact ⟨_,rfl,.one (.refl _)⟩
theorem wvq (x:Int) (d:Nat) (hx:okZ x) (hd:d≠0) (hl:(dig d).length<=268435456) :
 yn2 prog 44 [.agg [.raw (.int .i64 (sg x)),.ints .i64 (dig x.natAbs)],.agg [.raw (.int .i64 1),.ints .i64 (dig d)]]
  (.agg [.raw (.int .i64 (sg (x*d))),.ints .i64 (dig (x*d).natAbs)]):=by
 have:=xhe x (d:Int) hx hl
 rw [wwm hd] at this;exact this
theorem xdb (c d:Nat) (hc0:c≠0) (hd:d≠0) (hc:(dig c).length<=268435456) (hl:(dig d).length<=268435456) :
 yn2 prog 44 [.agg [.raw (.int .i64 1),.ints .i64 (dig c)],.agg [.raw (.int .i64 1),.ints .i64 (dig d)]]
  (.agg [.raw (.int .i64 1),.ints .i64 (dig (c*d))]):=by
 have:=wvq (c:Int) d hc hd hl
 rw [wwm hc0,show (c:Int)*d=((c*d:Nat):Int) from (Int.natCast_mul c d).symm,wwm (Nat.mul_ne_zero hc0 hd)] at this;exact this
theorem zr2 (z:Int) {d:Nat} (hd:d≠0):(mkRat z d).num=z / (Int.gcd z d:Int)/\((mkRat z d).den:Int)=d / (Int.gcd z d:Int)/\0<(Int.gcd z d:Int):=by
 have hg:Int.gcd z d=d.gcd z.natAbs:=by rw [Int.gcd_eq_natAbs_gcd_natAbs,Int.natAbs_natCast,Nat.gcd_comm]
 have hp:0<d.gcd z.natAbs:=Nat.gcd_pos_of_pos_left _ (Nat.pos_of_ne_zero hd);rw [Rat.num_mkRat,Rat.den_mkRat,if_neg hd,if_neg hd,hg];exact ⟨rfl,by rw [Int.natCast_ediv],by omega⟩
theorem xph (z:Int) (d:Nat) (hz:okZ z) (hd:d≠0) (hl:(dig d).length<=268435456) :
 yn2 prog 43 [.agg [.raw (.int .i64 (sg z)),.ints .i64 (dig z.natAbs)],.agg [.raw (.int .i64 1),.ints .i64 (dig d)]]
  (.tup [.agg (Fc.of (mkRat z d)).C,.one (.raw (.int .i64 0))]):=by
 obtain ⟨p1,p2,p3⟩:=zr2 z hd;have hden:=w2p (mkRat z d);rw [p2] at hden
 have hden2:(mkRat z d).den=((d:Int) / (Int.gcd z d:Int)).natAbs:=by omega
 have hgl:okZ (Int.gcd z d:Int):=by
  have:(Int.gcd z d:Int).natAbs<=d:=by
   have:Int.gcd z d ∣ d:=by have:=Int.gcd_dvd_natAbs_right z d;simpa using this
   exact Nat.le_of_dvd (Nat.pos_of_ne_zero hd) this
  exact Nat.le_trans (wxv this) hl
 have hr:=zcq (d:Int) hl;have hg:=xuv z d hz hl;have hd1:=vjt z (Int.gcd z d:Int) hz hgl p3;have hd2:=vjt d (Int.gcd z d:Int) hl hgl p3;rw [wwm hd] at hr hg hd2;rw [hden] at hd2;rw [show ((d:Nat):Int).natAbs=d from rfl] at hr hg hd2
 have hfin:(Fc.of (mkRat z d)).C=[.raw (.int .i64 (sg (z / (Int.gcd z d:Int)))),.ints .i64 (dig (z / (Int.gcd z d:Int)).natAbs),.raw (.int .i64 1),.ints .i64 (dig ((d:Int) / (Int.gcd z d:Int)).natAbs)]:=by
  rw [<-p1,<-hden2];rfl
 rw [hfin];generalize (Int.gcd z d:Int)=g at *;refine yn2.run [] Go.Proofs.Tryz.func43 rfl rfl ?_;simp only [Go.Proofs.Tryz.f43];refine rgR ?_;refine v1h (zcq z hz) ?_;refine rg ?_;refine v1h hr ?_;refine rg ?_;refine z08 (fun h=>absurd h (by decide)) (fun _=>?_);refine rg ?_;refine z08 (fun h=>absurd h (by decide)) (fun _=>?_);refine rg ?_;refine v1h hg ?_;refine rg ?_;refine v1h hd1 ?_;refine rg ?_;refine v1h hd2 ?_;refine rg ?_;exact ⟨_,rfl,.tup (.cons (.refl _) (.cons (.refl _) .nil))⟩
theorem wnb (a b:Fc) (ha:a.sz<=67108864) (hb:b.sz<=67108864) :
 yn2 prog 69 [.agg a.C,.agg b.C] (.tup [.agg (Fc.add a b).C,.one (.raw (.int .i64 (Fc.er (a.ok/\b.ok))))]):=by
 by_cases h1:a.ok
 . by_cases h2:b.ok
   . rw [Fc.v2c ⟨h1,h2⟩];obtain ⟨x,rfl⟩:=Fc.xst h1;obtain ⟨y,rfl⟩:=Fc.xst h2;have lx:=szO ha;have ly:=szO hb;have l1:=wm8 x.num y.den;have l2:=wm8 y.num x.den;have l3:=zzg (x.num*y.den) (y.num*x.den);have l4:=ysr x.den y.den;rw [Int.natAbs_natCast] at l1 l2;rw [Fc.vfs,Rat.add_def'];refine yn2.run [] Go.Proofs.Tryz.func69 rfl rfl ?_;simp only [Go.Proofs.Tryz.f69];refine rgR ?_;refine v1h (w4o x (by omega)) ?_;refine rg ?_;refine v1h (w4o y (by omega)) ?_;refine rg ?_;refine v1h (wvq x.num y.den (by unfold okZ;omega) y.den_nz (by omega)) ?_;refine rg ?_;refine v1h (wvq y.num x.den (by unfold okZ;omega) x.den_nz (by omega)) ?_;refine rg ?_;refine v1h (zm6 (x.num*y.den) (y.num*x.den) (by unfold okZ;omega) (by unfold okZ;omega)) ?_;refine rg ?_;refine indk (by kernel_rfl) ?_;refine rg ?_;refine v1h (xdb x.den y.den x.den_nz y.den_nz (by omega) (by omega)) ?_;refine rg ?_;refine v1h (xph (x.num*y.den+y.num*x.den) (x.den*y.den) (by unfold okZ;omega) (Nat.mul_ne_zero x.den_nz y.den_nz) (by omega)) ?_;refine rg ?_;refine indk (by kernel_rfl) ?_;refine rg ?_;exact ⟨_,rfl,.tup (.cons (.refl _) (.cons (.refl _) .nil))⟩
   . rw [Fc.zab (fun h=>h2 h.2),show Fc.add a b=Fc.zero from Fc.zmk (fun h=>h2 h.2)];obtain ⟨x,rfl⟩:=Fc.xst h1;refine yn2.run [] Go.Proofs.Tryz.func69 rfl rfl ?_;simp only [Go.Proofs.Tryz.f69];refine rgR ?_;refine v1h (w4o x (by omega)) ?_;refine rg ?_;refine v1h (yx8 b (by omega) h2) ?_;refine rg ?_;exact ⟨_,rfl,.tup (.cons xxc (.cons (.refl _) .nil))⟩
 . rw [Fc.zab (fun h=>h1 h.1),show Fc.add a b=Fc.zero from Fc.zmk (fun h=>h1 h.1)];refine yn2.run [] Go.Proofs.Tryz.func69 rfl rfl ?_;simp only [Go.Proofs.Tryz.f69];refine rgR ?_;refine v1h (yx8 a (by omega) h1) ?_;refine rg ?_;exact ⟨_,rfl,.tup (.cons xxc (.cons (.refl _) .nil))⟩
end Go.Slot.T
