/- The proof, part Y31: Bo, Le, Fa, Lf, Bp, Fb, Fc. -/
import Derived.Test.YtmegdbbbllffkaaGreatDoorY30
namespace Go.Slot.T
open Go Go.RowKit Go.Slot
open Go.Proofs.Tryz (prog)
set_option maxRecDepth 10000
set_option maxHeartbeats 4000000
def inI (z:Int):Prop:=-9223372036854775808<=z/\z<=9223372036854775807
instance (z:Int):Decidable (inI z):=inferInstanceAs (Decidable (_/\_))
theorem cInt (z:Int) (hz:okZ z):zkh prog 115 [.agg [.raw (.int .i64 (sg z)),.ints .i64 (dig z.natAbs)]]
 (.tup [.one (.raw (.int .i64 (if inI z then z else 0))),.one (.raw (.bool (decide (inI z))))]):=by
 have hs:=vcl z;have hn:=vg4 z;have hd:=xw9 z.natAbs
 obtain ⟨r,hr⟩:∃ r,r=if inI z then z else 0:=⟨_,rfl⟩
 obtain ⟨ok,hok⟩:∃ ok,ok=decide (inI z):=⟨_,rfl⟩;rw [<-hr,<-hok]
 have bad:¬inI z->r=0/\ok=false:=fun h=>by rw [hr,hok,if_neg h,decide_eq_false h];exact ⟨rfl,rfl⟩
 have good:inI z->r=z/\ok=true:=fun h=>by rw [hr,hok,if_pos h,decide_eq_true h];exact ⟨rfl,rfl⟩
 clear hr hok
 refine zkh.run [] Go.Proofs.Tryz.func115 rfl rfl ?_;conv=>simp (maxSteps:=2000000) (disch:=omega) only [go_sem,Nat.reduceAdd,Nat.reduceSub,Nat.reduceMul,Int.reduceToNat,Nat.reduceEqDiff,Nat.reduceBEq,Nat.reduceBneDiff,Go.Proofs.Tryz.f115,List.replicate]
 refine vmb (y3y z hz) ?_;refine rg ?_;refine zs6 (fun hbig=>?_) (fun hbig=>?_)
 . refine rg ?_
   obtain ⟨e1,e2⟩:=bad (fun h=>by
    have:(dig z.natAbs).length<=4:=yep (by unfold inI at h;omega)
    omega)
   exact ⟨_,rfl,by rw [e1,e2];exact .one (.refl _)⟩
 have htop:(dig z.natAbs).length=4->(dig z.natAbs).getD 3 0<=8\/¬inI z:=fun h4=>by
  rcases Int.lt_or_le 8 ((dig z.natAbs).getD 3 0) with h | h
  . right
    intro hi;have h1:=xxw (dig z.natAbs) 3;rw [xk8 (by omega),hn] at h1;have h2:=num_nonneg (hd.take 3);unfold inI at hi;omega
  . exact .inl h
 refine rg ?_;refine vu2 [1,2,3,17,18] (fun x:Nat×Int=>[(4,.one (.raw (.int .u64 x.2))),(19,.one (.raw (.int .i64 x.1)))])
  (fun x=>x.1<=(dig z.natAbs).length/\x.2=num ((dig z.natAbs).take x.1)/\(x.1=4->(dig z.natAbs).getD 3 0<=8)) (fun x=>(dig z.natAbs).length-x.1) (0,0)
  ⟨Nat.zero_le _,by simp [num],by simp⟩ ?_ ?_
 . refine rg ?_;exact StLe.weaken (by repeat' first | exact .nil | refine .cons (by first | exact .refl _ | exact .any _) ?_) rfl
 rintro ⟨i,u⟩ ⟨hi,hu,h4⟩;simp only at hi hu h4;have hu0:=num_nonneg (hd.take i);have hu1:=yey (hd.take i);rw [List.length_take,Nat.min_eq_left hi,<-hu] at hu1;rw [<-hu] at hu0;refine rg ?_;refine zs6 (fun h=>?_) (fun h=>?_)
 . have hdi:=hd.getD i
   have hi3:i<=3:=by omega
   have hdB:i≠3\/(dig z.natAbs).getD i 0<=8->(dig z.natAbs).getD i 0*1048576 ^ i+u<=18446744073709551615:=fun h8=>by
    rcases zll hi3 with ⟨h9,e⟩ | ⟨h9,e⟩ | ⟨h9,e⟩ | ⟨h9,e⟩<;>rw [e] at hu1 ⊢<;>omega
   have hdB0:0<=(dig z.natAbs).getD i 0*1048576 ^ i:=Int.mul_nonneg hdi.1 (Int.le_of_lt (xun i))
   have hstep:u+(dig z.natAbs).getD i 0*1048576 ^ i=num ((dig z.natAbs).take (i+1)):=by rw [xxw,hu,Int.mul_comm]
   refine rg ?_;refine v9r (fun h5=>?_) (fun h5=>?_)
   . have h5':=decide_eq_true h5
     conv=>simp (maxSteps:=2000000) (disch:=omega) only [go_sem,Nat.reduceAdd,Nat.reduceSub,Nat.reduceMul,Int.reduceToNat,Nat.reduceEqDiff,Nat.reduceBEq,Nat.reduceBneDiff,h5']
     refine zs6 (fun h6=>?_) (fun h6=>?_)
     . have i3:i=3:=by omega
       subst i3
       have hni:¬inI z:=by
        rcases htop (by omega) with h7 | h7
        . omega
        . exact h7
       obtain ⟨e1,e2⟩:=bad hni;refine rg ?_;exact ⟨_,rfl,by rw [e1,e2];exact .one (.refl _)⟩
     . have hdB:=hdB (.inr (by omega))
       conv=>simp (maxSteps:=2000000) (disch:=omega) only [go_sem,Nat.reduceAdd,Nat.reduceSub,Nat.reduceMul,Int.reduceToNat,Nat.reduceEqDiff,Nat.reduceBEq,Nat.reduceBneDiff,shlB,orB]
       have h8:i+1=4->(dig z.natAbs).getD 3 0<=8:=fun e=>by
        have i3:i=3:=by omega
        subst i3;omega
       exact ⟨(i+1,u+(dig z.natAbs).getD i 0*1048576 ^ i),⟨by dsimp only;omega,hstep,h8⟩,by dsimp only;omega,StLe.weaken (by repeat' first | exact .nil | refine .cons (by first | exact .refl _ | exact .any _) ?_) rfl⟩
   . have hdB:=hdB (.inl (by omega))
     conv=>simp (maxSteps:=2000000) (disch:=omega) only [go_sem,Nat.reduceAdd,Nat.reduceSub,Nat.reduceMul,Int.reduceToNat,Nat.reduceEqDiff,Nat.reduceBEq,Nat.reduceBneDiff,h5,shlB,orB]
     exact ⟨(i+1,u+(dig z.natAbs).getD i 0*1048576 ^ i),⟨by dsimp only;omega,hstep,fun (e:i+1=4)=>by omega⟩,by dsimp only;omega,StLe.weaken (by repeat' first | exact .nil | refine .cons (by first | exact .refl _ | exact .any _) ?_) rfl⟩
 . have hil:i=(dig z.natAbs).length:=by omega
   rw [hil,List.take_length,hn] at hu
   have hub:u<=10376293541461622784:=by
    have:i<=4:=by omega
    rcases Nat.lt_or_ge i 4 with h7 | h7
    . rcases zll (show i<=3 by omega) with ⟨h9,e⟩ | ⟨h9,e⟩ | ⟨h9,e⟩ | ⟨h9,e⟩<;>rw [e] at hu1<;>omega
    . have h8:=xxw (dig z.natAbs) 3;rw [xk8 (by omega),hn] at h8;have h9:=yey (hd.take 3)
      have h10:((dig z.natAbs).take 3).length=3:=by simp;omega
      rw [h10] at h9
      have:=h4 (by omega)
      have h11:(1048576:Int) ^ 3=1152921504606846976:=by decide
      rw [h11] at h9 h8;omega
   refine rg ?_;refine v9r (fun h5=>?_) (fun h5=>?_)
   . conv=>simp (maxSteps:=2000000) (disch:=omega) only [go_sem,Nat.reduceAdd,Nat.reduceSub,Nat.reduceMul,Int.reduceToNat,Nat.reduceEqDiff,Nat.reduceBEq,Nat.reduceBneDiff,h5]
     refine zs6 (fun h6=>?_) (fun h6=>?_)
     . obtain ⟨e1,e2⟩:=good (by unfold inI;omega)
       conv=>simp (maxSteps:=2000000) (disch:=omega) only [go_sem,Nat.reduceAdd,Nat.reduceSub,Nat.reduceMul,Int.reduceToNat,Nat.reduceEqDiff,Nat.reduceBEq,Nat.reduceBneDiff,x0z,x1t]
       refine ⟨_,rfl,?_⟩;rw [e1,e2,show 0-u+18446744073709551616-18446744073709551616=z by omega];exact .one (.refl _)
     . obtain ⟨e1,e2⟩:=bad (by unfold inI;omega);refine rg ?_;refine v9r (fun h7=>absurd h7 (by omega)) (fun h7=>?_)
       conv=>simp (maxSteps:=2000000) (disch:=omega) only [go_sem,Nat.reduceAdd,Nat.reduceSub,Nat.reduceMul,Int.reduceToNat,Nat.reduceEqDiff,Nat.reduceBEq,Nat.reduceBneDiff,h7]
       exact ⟨_,rfl,by rw [e1,e2];exact .one (.refl _)⟩
   . conv=>simp (maxSteps:=2000000) (disch:=omega) only [go_sem,Nat.reduceAdd,Nat.reduceSub,Nat.reduceMul,Int.reduceToNat,Nat.reduceEqDiff,Nat.reduceBEq,Nat.reduceBneDiff,h5]
     refine v9r (fun h7=>?_) (fun h7=>absurd (by omega) h7)
     conv=>simp (maxSteps:=2000000) (disch:=omega) only [go_sem,Nat.reduceAdd,Nat.reduceSub,Nat.reduceMul,Int.reduceToNat,Nat.reduceEqDiff,Nat.reduceBEq,Nat.reduceBneDiff,h7]
     refine zs6 (fun h6=>?_) (fun h6=>?_)
     . obtain ⟨e1,e2⟩:=good (by unfold inI;omega);refine rg ?_;refine ⟨_,rfl,?_⟩;rw [e1,e2,show u=z by omega];exact .one (.refl _)
     . obtain ⟨e1,e2⟩:=bad (by unfold inI;omega);refine rg ?_;exact ⟨_,rfl,by rw [e1,e2];exact .one (.refl _)⟩
theorem cOne (z:Int) (hz:okZ z):zkh prog 55 [.agg [.raw (.int .i64 (sg z)),.ints .i64 (dig z.natAbs)]] (.one (.raw (.bool (decide (z=1))))):=by
 obtain ⟨r,hr⟩:∃ r,r=decide (z=1):=⟨_,rfl⟩;rw [<-hr];have hc:=cInt z hz;by_cases hi:inI z
 . rw [if_pos hi,decide_eq_true hi] at hc
   refine zkh.run [] Go.Proofs.Tryz.func55 rfl rfl ?_;conv=>simp (maxSteps:=2000000) (disch:=omega) only [go_sem,Nat.reduceAdd,Nat.reduceSub,Nat.reduceMul,Int.reduceToNat,Nat.reduceEqDiff,Nat.reduceBEq,Nat.reduceBneDiff,Go.Proofs.Tryz.f55,List.replicate]
   refine vmb hc ?_;refine rg ?_;exact ⟨_,rfl,by rw [hr];exact .one (.refl _)⟩
 . rw [if_neg hi,decide_eq_false hi] at hc
   refine zkh.run [] Go.Proofs.Tryz.func55 rfl rfl ?_;conv=>simp (maxSteps:=2000000) (disch:=omega) only [go_sem,Nat.reduceAdd,Nat.reduceSub,Nat.reduceMul,Int.reduceToNat,Nat.reduceEqDiff,Nat.reduceBEq,Nat.reduceBneDiff,Go.Proofs.Tryz.f55,List.replicate]
   refine vmb hc ?_;refine rg ?_;exact ⟨_,rfl,by rw [hr,decide_eq_false (fun e=>hi (by unfold inI;omega))];exact .one (.refl _)⟩
end Go.Slot.T
namespace Go.Slot
open Go Go.RowKit
theorem v0p (z:Int):sg z*num (dig z.natAbs)=z:=by
 rw [vg4]
 rcases vcl z with ⟨h,e⟩ | ⟨h,e⟩ | ⟨h,e⟩<;>rw [e]<;>omega
def vi6 (s:Int) (L:List Int) (t:Int) (M:List Int):Prop:=xej s L/\xej t M/\t=1/\Int.gcd (s*num L) (t*num M)=1
instance (s:Int) (L:List Int) (t:Int) (M:List Int):Decidable (vi6 s L t M):=inferInstanceAs (Decidable (_/\_))
theorem ylz (s:Int) (L:List Int) (t:Int) (M:List Int):vi6 s L t M↔∃ r:Rat,s=sg r.num/\L=dig r.num.natAbs/\t=1/\M=dig r.den:=by
 constructor
 . rintro ⟨h1,h2,h3,h4⟩;obtain ⟨x,rfl,rfl⟩:=(woy _ _).1 h1;obtain ⟨y,h5,rfl⟩:=(woy _ _).1 h2;rw [h5,v0p,v0p] at h4
   have hy:0<y:=by rcases vcl y with ⟨h,e⟩ | ⟨h,e⟩ | ⟨h,e⟩<;>omega
   refine ⟨⟨x,y.natAbs,by omega,h4⟩,rfl,rfl,h3,rfl⟩
 . rintro ⟨r,rfl,rfl,rfl,rfl⟩;have hd:0<r.den:=Nat.pos_of_ne_zero r.den_nz;have hs:(1:Int)=sg (r.den:Int):=(zak (by omega)).symm
   have h2:xej 1 (dig r.den):=by
    have:=w9h (r.den:Int)
    rw [<-hs] at this;exact this
   refine ⟨w9h _,h2,rfl,?_⟩;rw [v0p,v41,Int.one_mul];exact r.reduced
end Go.Slot
namespace Go.Slot.T
open Go Go.RowKit Go.Slot
open Go.Proofs.Tryz (prog)
set_option maxRecDepth 10000
set_option maxHeartbeats 4000000
theorem w44 (s:Int) (L:List Int) (t:Int) (M:List Int) (hL:L.length<=268435456) (hM:M.length<=268435456) :
 zkh prog 26 [.agg [.raw (.int .i64 s),.ints .i64 L,.raw (.int .i64 t),.ints .i64 M]] (.one (.raw (.bool (decide (vi6 s L t M))))):=by
 obtain ⟨r,hr⟩:∃ r,r=decide (vi6 s L t M):=⟨_,rfl⟩;rw [<-hr]
 have bad:¬vi6 s L t M->r=false:=fun h=>by rw [hr,decide_eq_false h]
 by_cases h1:xej s L
 . obtain ⟨x,rfl,rfl⟩:=(woy _ _).1 h1;by_cases h2:xej t M
   . obtain ⟨y,rfl,rfl⟩:=(woy _ _).1 h2
     refine zkh.run [] Go.Proofs.Tryz.func26 rfl rfl ?_;conv=>simp (maxSteps:=2000000) (disch:=omega) only [go_sem,Nat.reduceAdd,Nat.reduceSub,Nat.reduceMul,Int.reduceToNat,Nat.reduceEqDiff,Nat.reduceBEq,Nat.reduceBneDiff,Go.Proofs.Tryz.f26,List.replicate]
     refine vmb (y3y x hL) ?_;refine rg ?_;refine vmb (y3y y hM) ?_;refine rg ?_;refine zs6 (fun h3=>?_) (fun h3=>?_)
     . have e:=bad (fun h=>h3 h.2.2.1);subst e;refine rg ?_;exact ⟨_,rfl,.one (.refl _)⟩
     . have h3:sg y=1:=by omega
       have hgl:(dig (Int.gcd x y:Int).natAbs).length<=268435456:=by
        have:(Int.gcd x y:Int).natAbs<=y.natAbs:=by
         have hy:0<y.natAbs:=by rcases vcl y with ⟨h,e⟩ | ⟨h,e⟩ | ⟨h,e⟩<;>omega
         exact Nat.le_of_dvd hy (Nat.gcd_dvd_right _ _)
        exact Nat.le_trans (zui this) hM
       have e:r=decide ((Int.gcd x y:Int)=1):=by
        rw [hr];apply decide_eq_decide.2;unfold vi6;rw [v0p,v0p];constructor
        . exact fun h=>by have:=h.2.2.2;omega
        . exact fun h=>⟨h1,h2,h3,by omega⟩
       subst e;refine rg ?_;refine vmb (vs2 x y hL hM) ?_;refine rg ?_;refine vmb (cOne _ hgl) ?_;refine rg ?_;exact ⟨_,rfl,.one (.refl _)⟩
   . have e:=bad (fun h=>h2 h.2.1);subst e
     refine zkh.run [] Go.Proofs.Tryz.func26 rfl rfl ?_;conv=>simp (maxSteps:=2000000) (disch:=omega) only [go_sem,Nat.reduceAdd,Nat.reduceSub,Nat.reduceMul,Int.reduceToNat,Nat.reduceEqDiff,Nat.reduceBEq,Nat.reduceBneDiff,Go.Proofs.Tryz.f26,List.replicate]
     refine vmb (y3y x hL) ?_;refine rg ?_;refine vmb (zag t M hM h2) ?_;refine rg ?_;exact ⟨_,rfl,.one (.refl _)⟩
 . have e:=bad (fun h=>h1 h.1);subst e
   refine zkh.run [] Go.Proofs.Tryz.func26 rfl rfl ?_;conv=>simp (maxSteps:=2000000) (disch:=omega) only [go_sem,Nat.reduceAdd,Nat.reduceSub,Nat.reduceMul,Int.reduceToNat,Nat.reduceEqDiff,Nat.reduceBEq,Nat.reduceBneDiff,Go.Proofs.Tryz.f26,List.replicate]
   refine vmb (zag s L hL h1) ?_;refine rg ?_;exact ⟨_,rfl,.one (.refl _)⟩
end Go.Slot.T
namespace Go.Slot
open Go Go.RowKit
structure Fc where
 s:Int
 L:List Int
 t:Int
 M:List Int
namespace Fc
def C (f:Fc):List Cell:=[.raw (.int .i64 f.s),.ints .i64 f.L,.raw (.int .i64 f.t),.ints .i64 f.M]
theorem C_eq {f:Fc}:f.C=[.raw (.int .i64 f.s),.ints .i64 f.L,.raw (.int .i64 f.t),.ints .i64 f.M]:=_root_.id rfl
def ok (f:Fc):Prop:=vi6 f.s f.L f.t f.M
instance (f:Fc):Decidable f.ok:=inferInstanceAs (Decidable (vi6 _ _ _ _))
def of (r:Rat):Fc:=⟨sg r.num,dig r.num.natAbs,1,dig r.den⟩
def zero:Fc:=⟨0,[],0,[]⟩
def val (f:Fc):Rat:=mkRat (f.s*num f.L) (num f.M).toNat
def sz (f:Fc):Nat:=max f.L.length f.M.length
theorem v55 (r:Rat):(of r).ok:=(ylz _ _ _ _).2 ⟨r,rfl,rfl,rfl,rfl⟩
theorem wel (r:Rat):(of r).val=r:=by
 show mkRat (sg r.num*num (dig r.num.natAbs)) (num (dig r.den)).toNat=r;rw [v0p,v41,Int.toNat_natCast,Rat.mkRat_self]
theorem xca {f:Fc} (h:f.ok):f=of f.val:=by
 obtain ⟨r,h1,h2,h3,h4⟩:=(ylz _ _ _ _).1 h
 have:f=of r:=by cases f;simp only [of] at *;subst h1 h2 h3 h4;rfl
 rw [this,wel]
theorem ztb {f:Fc} (h:f.ok):∃ r,f=of r:=⟨_,xca h⟩
theorem y7w {x y:Rat} (h:of x=of y):x=y:=by rw [<-wel x,h,wel]
theorem yvm:¬zero.ok:=fun h=>by have:=h.2.2.1;simp [zero] at this
def op2 (g:Rat->Rat->Rat) (a b:Fc):Fc:=if a.ok/\b.ok then of (g a.val b.val) else zero
def op1 (g:Rat->Rat) (a:Fc):Fc:=if a.ok then of (g a.val) else zero
def er (p:Prop) [Decidable p]:Int:=if p then 0 else 1
def add:=op2 (· + ·)
def sub:=op2 (· - ·)
def mul:=op2 (· * ·)
def maxf:=op2 (fun x y=>max x y)
def neg:=op1 (fun x=>-x)
def ordQ (x y:Rat):Int:=if x<y then -1 else if y<x then 1 else 0
def cmp (a b:Fc):Int:=if a.ok/\b.ok then ordQ a.val b.val else 0
def sign (a:Fc):Int:=if a.ok then sg a.val.num else 0
theorem wkg (g:Rat->Rat->Rat) (x y:Rat):op2 g (of x) (of y)=of (g x y):=by unfold op2;rw [if_pos ⟨v55 x,v55 y⟩,wel,wel]
theorem y8l {g:Rat->Rat->Rat} {a b:Fc} (h:¬(a.ok/\b.ok)):op2 g a b=zero:=if_neg h
theorem vqs (x y:Rat):add (of x) (of y)=of (x+y):=wkg _ x y
theorem v8y (x y:Rat):sub (of x) (of y)=of (x-y):=wkg _ x y
theorem xd0 (x y:Rat):mul (of x) (of y)=of (x*y):=wkg _ x y
theorem v3h (x y:Rat):maxf (of x) (of y)=of (max x y):=wkg _ x y
theorem z55 (x y:Rat):cmp (of x) (of y)=ordQ x y:=by unfold cmp;rw [if_pos ⟨v55 x,v55 y⟩,wel,wel]
theorem xg5 {p:Prop} [Decidable p] (h:p):er p=0:=if_pos h
theorem x0s {p:Prop} [Decidable p] (h:¬p):er p=1:=if_neg h
theorem xdl (x y:Rat):(x<y/\ordQ x y = -1)\/(x=y/\ordQ x y=0)\/(y<x/\ordQ x y=1):=by
 unfold ordQ;by_cases h:x<y
 . exact .inl ⟨h,if_pos h⟩
 . by_cases h1:y<x
   . exact .inr (.inr ⟨h1,by rw [if_neg h,if_pos h1]⟩)
   . exact .inr (.inl ⟨Rat.le_antisymm (Rat.not_lt.1 h1) (Rat.not_lt.1 h),by rw [if_neg h,if_neg h1]⟩)
theorem xv9 (x y:Rat):ord (x.num*y.den) (y.num*x.den)=ordQ x y:=by
 unfold ord ordQ;simp only [Rat.lt_iff]
theorem x82 (a b:Fc):-1<=cmp a b/\cmp a b<=1:=by
 unfold cmp ordQ;repeat' split
 all_goals omega
theorem zt6 (x:Rat):(of x).sz=max (dig x.num.natAbs).length (dig x.den).length:=rfl
theorem yh3 (n:Int) (d:Nat) (hd:d≠0):(of (mkRat n d)).sz<=max (dig n.natAbs).length (dig d).length:=by
 rw [zt6,Rat.num_mkRat,Rat.den_mkRat,if_neg hd,if_neg hd]
 have h1:(n / (d.gcd n.natAbs:Nat)).natAbs<=n.natAbs:=by
  rw [Int.natAbs_ediv_of_dvd (by rw [<-Int.dvd_natAbs,Int.ofNat_dvd];exact Nat.gcd_dvd_right _ _),Int.natAbs_natCast];exact Nat.div_le_self _ _
 have h2:d / d.gcd n.natAbs<=d:=Nat.div_le_self _ _
 have:=zui h1
 have:=zui h2
 omega
theorem xkz (x y:Rat):(of (x+y)).sz<=(of x).sz+(of y).sz+1:=by
 rw [Rat.add_def'];refine Nat.le_trans (yh3 _ _ (Nat.mul_ne_zero x.den_nz y.den_nz)) ?_;have h1:=zk1 (x.num*y.den) (y.num*x.den);have h2:=ynf x.num y.den;have h3:=ynf y.num x.den;have h4:=yhd x.den y.den;rw [Int.natAbs_natCast] at h2 h3;rw [zt6,zt6];omega
theorem v4e (x:Rat):(of (-x)).sz=(of x).sz:=by
 rw [zt6,zt6,Rat.neg_num,Rat.neg_den,Int.natAbs_neg]
theorem z17 (x y:Rat):(of (x*y)).sz<=(of x).sz+(of y).sz:=by
 rw [Rat.mul_def'];refine Nat.le_trans (yh3 _ _ (Nat.mul_ne_zero x.den_nz y.den_nz)) ?_;have h2:=ynf x.num y.num;have h4:=yhd x.den y.den;rw [zt6,zt6];omega
end Fc
attribute [go_sem] Fc.C_eq
end Go.Slot
namespace Go.Slot.T
open Go Go.RowKit Go.Slot
open Go.Proofs.Tryz (prog)
set_option maxRecDepth 10000
set_option maxHeartbeats 4000000
theorem yt6 {n:Int} (_h:0<=n):iand .u64 n 1048575=n % 1048576:=by
 unfold iand
 have h1:(BitVec.ofInt IntKind.u64.bits n &&&BitVec.ofInt IntKind.u64.bits 1048575).toNat=(n % 1048576).toNat:=by
  show (BitVec.ofInt 64 n &&&BitVec.ofInt 64 1048575).toNat=_;rw [BitVec.toNat_and,BitVec.toNat_ofInt,BitVec.toNat_ofInt]
  have:((1048575:Int) % ((2 ^ 64:Nat):Int)).toNat=2 ^ 20-1:=by decide
  rw [this,Nat.and_two_pow_sub_one_eq_mod];omega
 rw [h1,wu64 (by omega)];omega
theorem yrc (n:Int):ishr .u64 n 20=n / 1048576:=by
 unfold ishr
 have:(2:Int) ^ (min (20:Int).toNat IntKind.u64.bits)=1048576:=by decide
 rw [this,Int.fdiv_eq_ediv_of_nonneg _ (by decide)]
theorem wbp {n:Nat} (h:n<=18446744073709551615):(dig n).length<=4:=yep (Nat.lt_of_le_of_lt h (by decide))
theorem cOf (n:Int) (hn:inI n):zkh prog 83 [.one (.raw (.int .i64 n))] (.agg [.raw (.int .i64 (sg n)),.ints .i64 (dig n.natAbs)]):=by
 unfold inI at hn
 refine zkh.run [(4,[.join])] Go.Proofs.Tryz.func83 rfl rfl ?_;conv=>simp (maxSteps:=2000000) (disch:=omega) only [go_sem,Nat.reduceAdd,Nat.reduceSub,Nat.reduceMul,Int.reduceToNat,Nat.reduceEqDiff,Nat.reduceBEq,Nat.reduceBneDiff,Go.Proofs.Tryz.f83,List.replicate]
 refine xjd [] (fun s:Int=>[(3,.one (.raw (.int .i64 s))),(4,.one (.raw (.int .u64 n.natAbs)))])
  (fun s=>(s=1/\0<=n)\/(s = -1/\n<0)) ?_ ?_
 . by_cases h0:n<0
   . conv=>simp (maxSteps:=2000000) (disch:=omega) only [go_sem,Nat.reduceAdd,Nat.reduceSub,Nat.reduceMul,Int.reduceToNat,Nat.reduceEqDiff,Nat.reduceBEq,Nat.reduceBneDiff,x0z]
     refine zs6 (fun h=>?_) (fun h=>absurd h0 h)
     conv=>simp (maxSteps:=2000000) (disch:=omega) only [go_sem,Nat.reduceAdd,Nat.reduceSub,Nat.reduceMul,Int.reduceToNat,Nat.reduceEqDiff,Nat.reduceBEq,Nat.reduceBneDiff,x0z]
     refine ⟨-1,.inr ⟨rfl,h0⟩,?_⟩;rw [show 0-(n+18446744073709551616)+18446744073709551616=((n.natAbs:Nat):Int) by omega];exact StLe.weaken (by repeat' first | exact .nil | refine .cons (by first | exact .refl _ | exact .any _) ?_) rfl
   . refine rg ?_;refine zs6 (fun h=>absurd h h0) (fun h=>?_);refine rg ?_;refine ⟨1,.inl ⟨rfl,by omega⟩,?_⟩;rw [show n=((n.natAbs:Nat):Int) by omega];exact StLe.weaken (by repeat' first | exact .nil | refine .cons (by first | exact .refl _ | exact .any _) ?_) rfl
 rintro s hs
 have hN:(n.natAbs:Int)<=9223372036854775808:=by omega
 generalize hNN:n.natAbs=N at *;refine rg ?_;refine vu2 [3] (fun x:Nat×List Int×Int=>[(4,.one (.raw (.int .u64 x.2.2))),(5,.one (.tok 21 (.ints .i64 x.2.1)))])
  (fun x=>x.2.1.length=x.1/\x.1<=4/\digits x.2.1/\0<=x.2.2/\num x.2.1+1048576 ^ x.1*x.2.2=N) (fun x=>x.2.2.toNat) (0,[],N)
  ⟨rfl,Nat.zero_le _,digits.nil,by simp,by simp [num]⟩ ?_ ?_
 . refine StLe.trans (StLe.tokI 5 21 (.ints .i64 []) rfl rfl rfl) ?_;refine rg ?_;exact StLe.weaken (by repeat' first | exact .nil | refine .cons (by first | exact .refl _ | exact .any _) ?_) rfl
 rintro ⟨k,l,u⟩ ⟨hl,hk,hd,hu,he⟩;simp only at hl hk hd hu he;have hl0:=num_nonneg hd;have hp:=xun k
 have huN:u<=N:=by
  have:=Int.mul_le_mul_of_nonneg_right (show (1:Int)<=1048576 ^ k by omega) hu
  omega
 refine rg ?_;refine zs6 (fun h=>?_) (fun h=>?_)
 . have hk3:k<=3:=by
    rcases Nat.lt_or_ge k 4 with h4 | h4
    . omega
    . have h1:=y3u h4;have h2:=Int.mul_le_mul_of_nonneg_left (show (1:Int)<=u by omega) (Int.le_of_lt hp)
      have h3:(1048576:Int) ^ 4=1208925819614629174706176:=by decide
      omega
   conv=>simp (maxSteps:=2000000) (disch:=omega) only [go_sem,Nat.reduceAdd,Nat.reduceSub,Nat.reduceMul,Int.reduceToNat,Nat.reduceEqDiff,Nat.reduceBEq,Nat.reduceBneDiff,yt6,yrc]
   refine ⟨(k+1,l++[u % 1048576],u / 1048576),⟨by simp [hl],by dsimp only;omega,hd.append (digits.cons (by omega) digits.nil),by dsimp only;omega,?_⟩,by dsimp only;omega,StLe.weaken (by repeat' first | exact .nil | refine .cons (by first | exact .refl _ | exact .any _) ?_) rfl⟩;dsimp only;rw [zws,hl,Int.pow_succ];have h:=Int.emod_add_mul_ediv u 1048576;simp only [num];generalize (1048576:Int) ^ k=P at *;generalize u % 1048576=r at *;generalize u / 1048576=q at *
   grind
 . have hu0:u=0:=by omega
   rw [hu0,Int.mul_zero,Int.add_zero] at he;have e:=yps hd he;rw [Int.toNat_natCast,<-hNN] at e;have hdl:(dig N).length<=4:=wbp (by omega);have hsg:=wa6 s l (by omega);unfold bigC at hsg;rw [e,<-weo,zvc (by omega)] at hsg;unfold zC at hsg;rw [hNN] at hsg;refine rg ?_;refine vmb hsg ?_;refine rg ?_;exact ⟨_,rfl,.one (.refl _)⟩
theorem of_s {r:Rat}:(Fc.of r).s=sg r.num:=_root_.id rfl
theorem of_L {r:Rat}:(Fc.of r).L=dig r.num.natAbs:=_root_.id rfl
theorem of_t {r:Rat}:(Fc.of r).t=1:=_root_.id rfl
theorem of_M {r:Rat}:(Fc.of r).M=dig r.den:=_root_.id rfl
theorem xtm:Fc.zero.s=0:=_root_.id rfl
theorem wzz:Fc.zero.L=[]:=_root_.id rfl
theorem vrz:Fc.zero.t=0:=_root_.id rfl
theorem zrj:Fc.zero.M=[]:=_root_.id rfl
attribute [go_sem] of_s of_L of_t of_M xtm wzz vrz zrj
theorem v1d (r:Rat):sg (r.den:Int)=1:=zak (by have:=Nat.pos_of_ne_zero r.den_nz;omega)
theorem x69 {d:Nat} (h:d≠0):sg (d:Int)=1:=zak (by omega)
theorem szL {f:Fc} {n:Nat} (h:f.sz<=n):f.L.length<=n/\f.M.length<=n:=by unfold Fc.sz at h;omega
theorem szO {r:Rat} {n:Nat} (h:(Fc.of r).sz<=n):(dig r.num.natAbs).length<=n/\(dig r.den).length<=n:=szL h
theorem vwh (f:Fc) (h:f.sz<=268435456):zkh prog 26 [.agg f.C] (.one (.raw (.bool (decide f.ok)))):=
 w44 f.s f.L f.t f.M (szL h).1 (szL h).2
theorem xtz (r:Rat) (h:(Fc.of r).sz<=268435456):zkh prog 26 [.agg (Fc.of r).C] (.one (.raw (.bool true))):=by
 have:=vwh (Fc.of r) h
 rwa [decide_eq_true (Fc.v55 r)] at this
theorem xfz (f:Fc) (h:f.sz<=268435456) (hb:¬f.ok):zkh prog 26 [.agg f.C] (.one (.raw (.bool false))):=by
 have:=vwh f h
 rwa [decide_eq_false hb] at this
theorem zr1:AV.Le (.agg [.raw (.int .i64 0),.zc,.raw (.int .i64 0),.zc]) (.agg Fc.zero.C):=.agg (.cons (.refl _) (.cons (.yns _) (.cons (.refl _) (.cons (.yns _) .nil))))
theorem yaa (x y:Int) (hx:okZ x) (hy:okZ y) :
 zkh prog 44 [.agg [.raw (.int .i64 (sg x)),.ints .i64 (dig x.natAbs)],.agg [.raw (.int .i64 (sg y)),.ints .i64 (dig y.natAbs)]]
  (.agg [.raw (.int .i64 (sg (x*y))),.ints .i64 (dig (x*y).natAbs)]):=by
 refine zkh.run [] Go.Proofs.Tryz.func44 rfl rfl ?_;conv=>simp (maxSteps:=2000000) (disch:=omega) only [go_sem,Nat.reduceAdd,Nat.reduceSub,Nat.reduceMul,Int.reduceToNat,Nat.reduceEqDiff,Nat.reduceBEq,Nat.reduceBneDiff,Go.Proofs.Tryz.f44,List.replicate]
 refine vmb (xco x y hx hy) ?_;refine rg ?_;exact ⟨_,rfl,.one (.refl _)⟩
theorem yq7 (x:Int) (d:Nat) (hx:okZ x) (hd:d≠0) (hl:(dig d).length<=268435456) :
 zkh prog 44 [.agg [.raw (.int .i64 (sg x)),.ints .i64 (dig x.natAbs)],.agg [.raw (.int .i64 1),.ints .i64 (dig d)]]
  (.agg [.raw (.int .i64 (sg (x*d))),.ints .i64 (dig (x*d).natAbs)]):=by
 have:=yaa x (d:Int) hx hl
 rw [x69 hd] at this;exact this
theorem z05 (c d:Nat) (hc0:c≠0) (hd:d≠0) (hc:(dig c).length<=268435456) (hl:(dig d).length<=268435456) :
 zkh prog 44 [.agg [.raw (.int .i64 1),.ints .i64 (dig c)],.agg [.raw (.int .i64 1),.ints .i64 (dig d)]]
  (.agg [.raw (.int .i64 1),.ints .i64 (dig (c*d))]):=by
 have:=yq7 (c:Int) d hc hd hl
 rw [x69 hc0,show (c:Int)*d=((c*d:Nat):Int) from (Int.natCast_mul c d).symm,x69 (Nat.mul_ne_zero hc0 hd)] at this;exact this
theorem zbk (z:Int) {d:Nat} (hd:d≠0):(mkRat z d).num=z / (Int.gcd z d:Int)/\((mkRat z d).den:Int)=d / (Int.gcd z d:Int)/\0<(Int.gcd z d:Int):=by
 have hg:Int.gcd z d=d.gcd z.natAbs:=by rw [Int.gcd_eq_natAbs_gcd_natAbs,Int.natAbs_natCast,Nat.gcd_comm]
 have hp:0<d.gcd z.natAbs:=Nat.gcd_pos_of_pos_left _ (Nat.pos_of_ne_zero hd);rw [Rat.num_mkRat,Rat.den_mkRat,if_neg hd,if_neg hd,hg];exact ⟨rfl,by rw [Int.natCast_ediv],by omega⟩
theorem v47 (z:Int) (d:Nat) (hz:okZ z) (hd:d≠0) (hl:(dig d).length<=268435456) :
 zkh prog 43 [.agg [.raw (.int .i64 (sg z)),.ints .i64 (dig z.natAbs)],.agg [.raw (.int .i64 1),.ints .i64 (dig d)]]
  (.tup [.agg (Fc.of (mkRat z d)).C,.one (.raw (.int .i64 0))]):=by
 obtain ⟨p1,p2,p3⟩:=zbk z hd;have hden:=v1d (mkRat z d);rw [p2] at hden
 have hden2:(mkRat z d).den=((d:Int) / (Int.gcd z d:Int)).natAbs:=by omega
 have hgl:okZ (Int.gcd z d:Int):=by
  have:(Int.gcd z d:Int).natAbs<=d:=by
   have:Int.gcd z d ∣ d:=by have:=Int.gcd_dvd_natAbs_right z d;simpa using this
   exact Nat.le_of_dvd (Nat.pos_of_ne_zero hd) this
  exact Nat.le_trans (zui this) hl
 have hr:=y3y (d:Int) hl;have hg:=vs2 z d hz hl;have hd1:=zdj z (Int.gcd z d:Int) hz hgl p3;have hd2:=zdj d (Int.gcd z d:Int) hl hgl p3;rw [x69 hd] at hr hg hd2;rw [hden] at hd2;rw [show ((d:Nat):Int).natAbs=d from rfl] at hr hg hd2
 have hfin:(Fc.of (mkRat z d)).C=[.raw (.int .i64 (sg (z / (Int.gcd z d:Int)))),.ints .i64 (dig (z / (Int.gcd z d:Int)).natAbs),.raw (.int .i64 1),.ints .i64 (dig ((d:Int) / (Int.gcd z d:Int)).natAbs)]:=by
  rw [<-p1,<-hden2];rfl
 rw [hfin];generalize (Int.gcd z d:Int)=g at *
 refine zkh.run [] Go.Proofs.Tryz.func43 rfl rfl ?_;conv=>simp (maxSteps:=2000000) (disch:=omega) only [go_sem,Nat.reduceAdd,Nat.reduceSub,Nat.reduceMul,Int.reduceToNat,Nat.reduceEqDiff,Nat.reduceBEq,Nat.reduceBneDiff,Go.Proofs.Tryz.f43,List.replicate]
 refine vmb (y3y z hz) ?_;refine rg ?_;refine vmb hr ?_;refine rg ?_;refine zs6 (fun h=>absurd h (by decide)) (fun _=>?_);refine rg ?_;refine zs6 (fun h=>absurd h (by decide)) (fun _=>?_);refine rg ?_;refine vmb hg ?_;refine rg ?_;refine vmb hd1 ?_;refine rg ?_;refine vmb hd2 ?_;refine rg ?_;exact ⟨_,rfl,.tup (.cons (.refl _) (.cons (.refl _) .nil))⟩
theorem w15 (a b:Fc) (ha:a.sz<=67108864) (hb:b.sz<=67108864) :
 zkh prog 69 [.agg a.C,.agg b.C] (.tup [.agg (Fc.add a b).C,.one (.raw (.int .i64 (Fc.er (a.ok/\b.ok))))]):=by
 by_cases h1:a.ok
 . by_cases h2:b.ok
   . rw [Fc.xg5 ⟨h1,h2⟩];obtain ⟨x,rfl⟩:=Fc.ztb h1;obtain ⟨y,rfl⟩:=Fc.ztb h2;have lx:=szO ha;have ly:=szO hb;have l1:=ynf x.num y.den;have l2:=ynf y.num x.den;have l3:=zk1 (x.num*y.den) (y.num*x.den);have l4:=yhd x.den y.den;rw [Int.natAbs_natCast] at l1 l2;rw [Fc.vqs,Rat.add_def']
     refine zkh.run [] Go.Proofs.Tryz.func69 rfl rfl ?_;conv=>simp (maxSteps:=2000000) (disch:=omega) only [go_sem,Nat.reduceAdd,Nat.reduceSub,Nat.reduceMul,Int.reduceToNat,Nat.reduceEqDiff,Nat.reduceBEq,Nat.reduceBneDiff,Go.Proofs.Tryz.f69,List.replicate]
     refine vmb (xtz x (by omega)) ?_;refine rg ?_;refine vmb (xtz y (by omega)) ?_;refine rg ?_;refine vmb (yq7 x.num y.den (by unfold okZ;omega) y.den_nz (by omega)) ?_;refine rg ?_;refine vmb (yq7 y.num x.den (by unfold okZ;omega) x.den_nz (by omega)) ?_;refine rg ?_;refine vmb (zfk (x.num*y.den) (y.num*x.den) (by unfold okZ;omega) (by unfold okZ;omega)) ?_;refine rg ?_;refine indk (by kernel_rfl) ?_;refine rg ?_;refine vmb (z05 x.den y.den x.den_nz y.den_nz (by omega) (by omega)) ?_;refine rg ?_;refine vmb (v47 (x.num*y.den+y.num*x.den) (x.den*y.den) (by unfold okZ;omega) (Nat.mul_ne_zero x.den_nz y.den_nz) (by omega)) ?_;refine rg ?_;refine indk (by kernel_rfl) ?_;refine rg ?_;exact ⟨_,rfl,.tup (.cons (.refl _) (.cons (.refl _) .nil))⟩
   . rw [Fc.x0s (fun h=>h2 h.2),show Fc.add a b=Fc.zero from Fc.y8l (fun h=>h2 h.2)];obtain ⟨x,rfl⟩:=Fc.ztb h1
     refine zkh.run [] Go.Proofs.Tryz.func69 rfl rfl ?_;conv=>simp (maxSteps:=2000000) (disch:=omega) only [go_sem,Nat.reduceAdd,Nat.reduceSub,Nat.reduceMul,Int.reduceToNat,Nat.reduceEqDiff,Nat.reduceBEq,Nat.reduceBneDiff,Go.Proofs.Tryz.f69,List.replicate]
     refine vmb (xtz x (by omega)) ?_;refine rg ?_;refine vmb (xfz b (by omega) h2) ?_;refine rg ?_;exact ⟨_,rfl,.tup (.cons zr1 (.cons (.refl _) .nil))⟩
 . rw [Fc.x0s (fun h=>h1 h.1),show Fc.add a b=Fc.zero from Fc.y8l (fun h=>h1 h.1)]
   refine zkh.run [] Go.Proofs.Tryz.func69 rfl rfl ?_;conv=>simp (maxSteps:=2000000) (disch:=omega) only [go_sem,Nat.reduceAdd,Nat.reduceSub,Nat.reduceMul,Int.reduceToNat,Nat.reduceEqDiff,Nat.reduceBEq,Nat.reduceBneDiff,Go.Proofs.Tryz.f69,List.replicate]
   refine vmb (xfz a (by omega) h1) ?_;refine rg ?_;exact ⟨_,rfl,.tup (.cons zr1 (.cons (.refl _) .nil))⟩
theorem wyn (a b:Fc) (ha:a.sz<=67108864) (hb:b.sz<=67108864) :
 zkh prog 127 [.agg a.C,.agg b.C] (.tup [.agg (Fc.sub a b).C,.one (.raw (.int .i64 (Fc.er (a.ok/\b.ok))))]):=by
 by_cases h1:a.ok
 . by_cases h2:b.ok
   . rw [Fc.xg5 ⟨h1,h2⟩];obtain ⟨x,rfl⟩:=Fc.ztb h1;obtain ⟨y,rfl⟩:=Fc.ztb h2;have lx:=szO ha;have ly:=szO hb;have hA:=w15 (Fc.of x) (Fc.of (-y)) ha (by rw [Fc.v4e];exact hb);rw [Fc.xg5 ⟨Fc.v55 _,Fc.v55 _⟩,Fc.vqs,<-Rat.sub_eq_add_neg] at hA;rw [Fc.v8y]
     refine zkh.run [] Go.Proofs.Tryz.func127 rfl rfl ?_;conv=>simp (maxSteps:=2000000) (disch:=omega) only [go_sem,Nat.reduceAdd,Nat.reduceSub,Nat.reduceMul,Int.reduceToNat,Nat.reduceEqDiff,Nat.reduceBEq,Nat.reduceBneDiff,Go.Proofs.Tryz.f127,List.replicate]
     refine vmb (xtz x (by omega)) ?_;refine rg ?_;refine vmb (xtz y (by omega)) ?_;refine rg ?_;refine vmb (v7b y.num (by unfold okZ;omega)) ?_;refine rg ?_;refine vmb hA ?_;refine rg ?_;refine indk (by kernel_rfl) ?_;refine rg ?_;exact ⟨_,rfl,.tup (.cons (.refl _) (.cons (.refl _) .nil))⟩
   . rw [Fc.x0s (fun h=>h2 h.2),show Fc.sub a b=Fc.zero from Fc.y8l (fun h=>h2 h.2)];obtain ⟨x,rfl⟩:=Fc.ztb h1
     refine zkh.run [] Go.Proofs.Tryz.func127 rfl rfl ?_;conv=>simp (maxSteps:=2000000) (disch:=omega) only [go_sem,Nat.reduceAdd,Nat.reduceSub,Nat.reduceMul,Int.reduceToNat,Nat.reduceEqDiff,Nat.reduceBEq,Nat.reduceBneDiff,Go.Proofs.Tryz.f127,List.replicate]
     refine vmb (xtz x (by omega)) ?_;refine rg ?_;refine vmb (xfz b (by omega) h2) ?_;refine rg ?_;exact ⟨_,rfl,.tup (.cons zr1 (.cons (.refl _) .nil))⟩
 . rw [Fc.x0s (fun h=>h1 h.1),show Fc.sub a b=Fc.zero from Fc.y8l (fun h=>h1 h.1)]
   refine zkh.run [] Go.Proofs.Tryz.func127 rfl rfl ?_;conv=>simp (maxSteps:=2000000) (disch:=omega) only [go_sem,Nat.reduceAdd,Nat.reduceSub,Nat.reduceMul,Int.reduceToNat,Nat.reduceEqDiff,Nat.reduceBEq,Nat.reduceBneDiff,Go.Proofs.Tryz.f127,List.replicate]
   refine vmb (xfz a (by omega) h1) ?_;refine rg ?_;exact ⟨_,rfl,.tup (.cons zr1 (.cons (.refl _) .nil))⟩
theorem yer (a b:Fc) (ha:a.sz<=67108864) (hb:b.sz<=67108864) :
 zkh prog 16 [.agg a.C,.agg b.C] (.tup [.agg (Fc.mul a b).C,.one (.raw (.int .i64 (Fc.er (a.ok/\b.ok))))]):=by
 by_cases h1:a.ok
 . by_cases h2:b.ok
   . rw [Fc.xg5 ⟨h1,h2⟩];obtain ⟨x,rfl⟩:=Fc.ztb h1;obtain ⟨y,rfl⟩:=Fc.ztb h2;have lx:=szO ha;have ly:=szO hb;have l1:=ynf x.num y.num;have l4:=yhd x.den y.den;rw [Fc.xd0,Rat.mul_def']
     refine zkh.run [] Go.Proofs.Tryz.func16 rfl rfl ?_;conv=>simp (maxSteps:=2000000) (disch:=omega) only [go_sem,Nat.reduceAdd,Nat.reduceSub,Nat.reduceMul,Int.reduceToNat,Nat.reduceEqDiff,Nat.reduceBEq,Nat.reduceBneDiff,Go.Proofs.Tryz.f16,List.replicate]
     refine vmb (xtz x (by omega)) ?_;refine rg ?_;refine vmb (xtz y (by omega)) ?_;refine rg ?_;refine vmb (yaa x.num y.num (by unfold okZ;omega) (by unfold okZ;omega)) ?_;refine rg ?_;refine vmb (z05 x.den y.den x.den_nz y.den_nz (by omega) (by omega)) ?_;refine rg ?_;refine vmb (v47 (x.num*y.num) (x.den*y.den) (by unfold okZ;omega) (Nat.mul_ne_zero x.den_nz y.den_nz) (by omega)) ?_;refine rg ?_;refine indk (by kernel_rfl) ?_;refine rg ?_;exact ⟨_,rfl,.tup (.cons (.refl _) (.cons (.refl _) .nil))⟩
   . rw [Fc.x0s (fun h=>h2 h.2),show Fc.mul a b=Fc.zero from Fc.y8l (fun h=>h2 h.2)];obtain ⟨x,rfl⟩:=Fc.ztb h1
     refine zkh.run [] Go.Proofs.Tryz.func16 rfl rfl ?_;conv=>simp (maxSteps:=2000000) (disch:=omega) only [go_sem,Nat.reduceAdd,Nat.reduceSub,Nat.reduceMul,Int.reduceToNat,Nat.reduceEqDiff,Nat.reduceBEq,Nat.reduceBneDiff,Go.Proofs.Tryz.f16,List.replicate]
     refine vmb (xtz x (by omega)) ?_;refine rg ?_;refine vmb (xfz b (by omega) h2) ?_;refine rg ?_;exact ⟨_,rfl,.tup (.cons zr1 (.cons (.refl _) .nil))⟩
 . rw [Fc.x0s (fun h=>h1 h.1),show Fc.mul a b=Fc.zero from Fc.y8l (fun h=>h1 h.1)]
   refine zkh.run [] Go.Proofs.Tryz.func16 rfl rfl ?_;conv=>simp (maxSteps:=2000000) (disch:=omega) only [go_sem,Nat.reduceAdd,Nat.reduceSub,Nat.reduceMul,Int.reduceToNat,Nat.reduceEqDiff,Nat.reduceBEq,Nat.reduceBneDiff,Go.Proofs.Tryz.f16,List.replicate]
   refine vmb (xfz a (by omega) h1) ?_;refine rg ?_;exact ⟨_,rfl,.tup (.cons zr1 (.cons (.refl _) .nil))⟩
theorem z6k (a b:Fc) (ha:a.sz<=67108864) (hb:b.sz<=67108864) :
 zkh prog 130 [.agg a.C,.agg b.C] (.one (.raw (.int .i64 (Fc.cmp a b)))):=by
 by_cases h1:a.ok
 . by_cases h2:b.ok
   . obtain ⟨x,rfl⟩:=Fc.ztb h1;obtain ⟨y,rfl⟩:=Fc.ztb h2;have lx:=szO ha;have ly:=szO hb;have l1:=ynf x.num y.den;have l2:=ynf y.num x.den;rw [Int.natAbs_natCast] at l1 l2;rw [Fc.z55,<-Fc.xv9]
     refine zkh.run [] Go.Proofs.Tryz.func130 rfl rfl ?_;conv=>simp (maxSteps:=2000000) (disch:=omega) only [go_sem,Nat.reduceAdd,Nat.reduceSub,Nat.reduceMul,Int.reduceToNat,Nat.reduceEqDiff,Nat.reduceBEq,Nat.reduceBneDiff,Go.Proofs.Tryz.f130,List.replicate]
     refine vmb (xtz x (by omega)) ?_;refine rg ?_;refine vmb (xtz y (by omega)) ?_;refine rg ?_;refine vmb (yq7 x.num y.den (by unfold okZ;omega) y.den_nz (by omega)) ?_;refine rg ?_;refine vmb (yq7 y.num x.den (by unfold okZ;omega) x.den_nz (by omega)) ?_;refine rg ?_;refine vmb (ytr (x.num*y.den) (y.num*x.den) (by unfold okZ;omega) (by unfold okZ;omega)) ?_;refine rg ?_;refine indk (by kernel_rfl) ?_;refine rg ?_;exact ⟨_,rfl,.one (.refl _)⟩
   . rw [show Fc.cmp a b=0 from if_neg (fun h=>h2 h.2)];obtain ⟨x,rfl⟩:=Fc.ztb h1
     refine zkh.run [] Go.Proofs.Tryz.func130 rfl rfl ?_;conv=>simp (maxSteps:=2000000) (disch:=omega) only [go_sem,Nat.reduceAdd,Nat.reduceSub,Nat.reduceMul,Int.reduceToNat,Nat.reduceEqDiff,Nat.reduceBEq,Nat.reduceBneDiff,Go.Proofs.Tryz.f130,List.replicate]
     refine vmb (xtz x (by omega)) ?_;refine rg ?_;refine vmb (xfz b (by omega) h2) ?_;refine rg ?_;exact ⟨_,rfl,.one (.refl _)⟩
 . rw [show Fc.cmp a b=0 from if_neg (fun h=>h1 h.1)]
   refine zkh.run [] Go.Proofs.Tryz.func130 rfl rfl ?_;conv=>simp (maxSteps:=2000000) (disch:=omega) only [go_sem,Nat.reduceAdd,Nat.reduceSub,Nat.reduceMul,Int.reduceToNat,Nat.reduceEqDiff,Nat.reduceBEq,Nat.reduceBneDiff,Go.Proofs.Tryz.f130,List.replicate]
   refine vmb (xfz a (by omega) h1) ?_;refine rg ?_;exact ⟨_,rfl,.one (.refl _)⟩
theorem zek (x:Int) (hx:okZ x):zkh prog 204 [.agg [.raw (.int .i64 (sg x)),.ints .i64 (dig x.natAbs)]] (.agg [.raw (.int .i64 (sg x)),.ints .i64 (dig x.natAbs)]):=by
 have hx':okZ (-x):=by unfold okZ;rw [Int.natAbs_neg];exact hx
 have h2:=v7b (-x) hx';rw [Int.neg_neg] at h2
 refine zkh.run [] Go.Proofs.Tryz.func204 rfl rfl ?_;conv=>simp (maxSteps:=2000000) (disch:=omega) only [go_sem,Nat.reduceAdd,Nat.reduceSub,Nat.reduceMul,Int.reduceToNat,Nat.reduceEqDiff,Nat.reduceBEq,Nat.reduceBneDiff,Go.Proofs.Tryz.f204,List.replicate]
 refine vmb (v7b x hx) ?_;refine rg ?_;refine vmb h2 ?_;refine rg ?_;exact ⟨_,rfl,.one (.refl _)⟩
theorem zo4 (d:Nat) (hd:d≠0) (hl:(dig d).length<=268435456):zkh prog 204 [.agg [.raw (.int .i64 1),.ints .i64 (dig d)]] (.agg [.raw (.int .i64 1),.ints .i64 (dig d)]):=by
 have:=zek (d:Int) hl
 rw [x69 hd] at this;exact this
theorem x0c (x y:Rat) (s:Int) (hs:-1<=s/\s<=1) (ha:(Fc.of x).sz<=67108864) (hb:(Fc.of y).sz<=67108864) :
 zkh prog 173 [.agg (Fc.of x).C,.agg (Fc.of y).C,.one (.raw (.int .i64 s))] (.tup [.agg (Fc.of (if Fc.ordQ x y*s<0 then y else x)).C,.one (.raw (.int .i64 0))]):=by
 have lx:=szO ha;have ly:=szO hb;have hc:=z6k (Fc.of x) (Fc.of y) ha hb;rw [Fc.z55] at hc
 have hr:-1<=Fc.ordQ x y*s/\Fc.ordQ x y*s<=1:=by
  rcases Fc.xdl x y with ⟨_,e⟩ | ⟨_,e⟩ | ⟨_,e⟩<;>rw [e]<;>omega
 refine zkh.run [] Go.Proofs.Tryz.func173 rfl rfl ?_;conv=>simp (maxSteps:=2000000) (disch:=omega) only [go_sem,Nat.reduceAdd,Nat.reduceSub,Nat.reduceMul,Int.reduceToNat,Nat.reduceEqDiff,Nat.reduceBEq,Nat.reduceBneDiff,Go.Proofs.Tryz.f173,List.replicate]
 refine vmb (xtz x (by omega)) ?_;refine rg ?_;refine vmb (xtz y (by omega)) ?_;refine rg ?_;refine vmb hc ?_;refine rg ?_;refine zs6 (fun h=>?_) (fun h=>?_)
 . rw [if_pos h];refine rg ?_;refine vmb (zek y.num (by unfold okZ;omega)) ?_;refine rg ?_;refine vmb (zo4 y.den y.den_nz (by omega)) ?_;refine rg ?_;refine indk (by kernel_rfl) ?_;refine rg ?_;exact ⟨_,rfl,.tup (.cons (.refl _) (.cons (.refl _) .nil))⟩
 . rw [if_neg h];refine rg ?_;refine vmb (zek x.num (by unfold okZ;omega)) ?_;refine rg ?_;refine vmb (zo4 x.den x.den_nz (by omega)) ?_;refine rg ?_;refine indk (by kernel_rfl) ?_;refine rg ?_;exact ⟨_,rfl,.tup (.cons (.refl _) (.cons (.refl _) .nil))⟩
theorem x0b (a b:Fc) (s:Int) (h:¬(a.ok/\b.ok)) (ha:a.sz<=67108864) (hb:b.sz<=67108864) :
 zkh prog 173 [.agg a.C,.agg b.C,.one (.raw (.int .i64 s))] (.tup [.agg Fc.zero.C,.one (.raw (.int .i64 1))]):=by
 by_cases h1:a.ok
 . have h2:¬b.ok:=fun h2=>h ⟨h1,h2⟩
   obtain ⟨x,rfl⟩:=Fc.ztb h1
   refine zkh.run [] Go.Proofs.Tryz.func173 rfl rfl ?_;conv=>simp (maxSteps:=2000000) (disch:=omega) only [go_sem,Nat.reduceAdd,Nat.reduceSub,Nat.reduceMul,Int.reduceToNat,Nat.reduceEqDiff,Nat.reduceBEq,Nat.reduceBneDiff,Go.Proofs.Tryz.f173,List.replicate]
   refine vmb (xtz x (by omega)) ?_;refine rg ?_;refine vmb (xfz b (by omega) h2) ?_;refine rg ?_;exact ⟨_,rfl,.tup (.cons zr1 (.cons (.refl _) .nil))⟩
 . refine zkh.run [] Go.Proofs.Tryz.func173 rfl rfl ?_;conv=>simp (maxSteps:=2000000) (disch:=omega) only [go_sem,Nat.reduceAdd,Nat.reduceSub,Nat.reduceMul,Int.reduceToNat,Nat.reduceEqDiff,Nat.reduceBEq,Nat.reduceBneDiff,Go.Proofs.Tryz.f173,List.replicate]
   refine vmb (xfz a (by omega) h1) ?_;refine rg ?_;exact ⟨_,rfl,.tup (.cons zr1 (.cons (.refl _) .nil))⟩
theorem xfn (a b:Fc) (ha:a.sz<=67108864) (hb:b.sz<=67108864) :
 zkh prog 129 [.agg a.C,.agg b.C] (.tup [.agg (Fc.maxf a b).C,.one (.raw (.int .i64 (Fc.er (a.ok/\b.ok))))]):=by
 by_cases h:a.ok/\b.ok
 . rw [Fc.xg5 h];obtain ⟨x,rfl⟩:=Fc.ztb h.1;obtain ⟨y,rfl⟩:=Fc.ztb h.2;have hE:=x0c x y 1 (by decide) ha hb
   have e:(if Fc.ordQ x y*1<0 then y else x)=max x y:=by
    rw [Rat.max_def]
    rcases Fc.xdl x y with ⟨h,e⟩ | ⟨h,e⟩ | ⟨h,e⟩<;>rw [e]
    . rw [if_pos (by decide),if_pos (Rat.le_of_lt h)]
    . rw [if_neg (by decide),if_pos (by rw [h];exact Rat.le_refl),h]
    . rw [if_neg (by decide),if_neg (fun h'=>Rat.not_le.2 h h')]
   rw [e] at hE;rw [Fc.v3h]
   refine zkh.run [] Go.Proofs.Tryz.func129 rfl rfl ?_;conv=>simp (maxSteps:=2000000) (disch:=omega) only [go_sem,Nat.reduceAdd,Nat.reduceSub,Nat.reduceMul,Int.reduceToNat,Nat.reduceEqDiff,Nat.reduceBEq,Nat.reduceBneDiff,Go.Proofs.Tryz.f129,List.replicate]
   refine vmb hE ?_;refine rg ?_;exact ⟨_,rfl,.tup (.cons (.refl _) (.cons (.refl _) .nil))⟩
 . rw [Fc.x0s h,show Fc.maxf a b=Fc.zero from Fc.y8l h];have hE:=x0b a b 1 h ha hb
   refine zkh.run [] Go.Proofs.Tryz.func129 rfl rfl ?_;conv=>simp (maxSteps:=2000000) (disch:=omega) only [go_sem,Nat.reduceAdd,Nat.reduceSub,Nat.reduceMul,Int.reduceToNat,Nat.reduceEqDiff,Nat.reduceBEq,Nat.reduceBneDiff,Go.Proofs.Tryz.f129,List.replicate]
   refine vmb hE ?_;refine rg ?_;exact ⟨_,rfl,.tup (.cons (.refl _) (.cons (.refl _) .nil))⟩
instance:DecidableEq Fc:=fun a b=>decidable_of_iff (a.s=b.s/\a.L=b.L/\a.t=b.t/\a.M=b.M) ⟨fun h=>by cases a;cases b;simp at h;simp [h],fun h=>by rw [h];exact ⟨rfl,rfl,rfl,rfl⟩⟩
theorem xkx (n:Int) (hn:inI n):zkh prog 39 [.one (.raw (.int .i64 n))] (.agg (Fc.of (n:Rat)).C):=by
 have h1:=cOf 1 (by decide);rw [show sg 1=1 from rfl] at h1
 refine zkh.run [] Go.Proofs.Tryz.func39 rfl rfl ?_;conv=>simp (maxSteps:=2000000) (disch:=omega) only [go_sem,Nat.reduceAdd,Nat.reduceSub,Nat.reduceMul,Int.reduceToNat,Nat.reduceEqDiff,Nat.reduceBEq,Nat.reduceBneDiff,Go.Proofs.Tryz.f39,List.replicate]
 refine vmb (cOf n hn) ?_;refine rg ?_;refine vmb h1 ?_;refine rg ?_;exact ⟨_,rfl,.one (.refl _)⟩
end Go.Slot.T
