/- The proof, part Z14: Bo, Le, Fa, Lf, Bp, Fb, Fc, Fd, Ig, Nd, Nb, Ih. -/
import Derived.Test.YtjhbbadljohadaaGreatDoorZ13
import Derived.Test.YtjhbbadljohadaaGreatDoorZ12
namespace Go.Slot.T
open Go Go.RowKit Go.Slot
open Go.Proofs.Tryz (prog)
set_option maxRecDepth 10000
set_option maxHeartbeats 4000000
def inI (z:Int):Prop:=-9223372036854775808≤z∧z≤9223372036854775807
instance (z:Int):Decidable (inI z):=inferInstanceAs (Decidable (_∧_))
theorem cInt (z:Int) (hz:okZ z):CallsTo prog 148 [.agg [.raw (.int .i64 (sg z)),.ints .i64 (dig z.natAbs)]]
 (.tup [.one (.raw (.int .i64 (if inI z then z else 0))),.one (.raw (.bool (decide (inI z))))]):=by
 have hs:=sg_cases z
 have hn:=num_abs z
 have hd:=dig_digits z.natAbs
 obtain ⟨r,hr⟩:∃ r,r=if inI z then z else 0:=⟨_,rfl⟩
 obtain ⟨ok,hok⟩:∃ ok,ok=decide (inI z):=⟨_,rfl⟩
 rw [←hr,←hok]
 have bad:¬inI z→r=0∧ok=false:=fun h=>by rw [hr,hok,if_neg h,decide_eq_false h];exact ⟨rfl,rfl⟩
 have good:inI z→r=z∧ok=true:=fun h=>by rw [hr,hok,if_pos h,decide_eq_true h];exact ⟨rfl,rfl⟩
 clear hr hok
 refine CallsTo.run [] Go.Proofs.Tryz.func148 rfl rfl ?_;conv=>simp (maxSteps:=2000000) (disch:=omega) only [go_sem,Nat.reduceAdd,Nat.reduceSub,Nat.reduceMul,Int.reduceToNat,Nat.reduceEqDiff,Nat.reduceBEq,Nat.reduceBneDiff,Go.Proofs.Tryz.f148,List.replicate]
 refine callk (cRightZ z hz) ?_
 refine rg ?_
 refine condd (fun hbig=>?_) (fun hbig=>?_)
 · refine rg ?_
   obtain ⟨e1,e2⟩:=bad (fun h=>by
    have:(dig z.natAbs).length≤4:=dig_len (by unfold inI at h;omega)
    omega)
   exact ⟨_,rfl,by rw [e1,e2];exact .one (.refl _)⟩
 have htop:(dig z.natAbs).length=4→(dig z.natAbs).getD 3 0≤8∨¬inI z:=fun h4=>by
  rcases Int.lt_or_le 8 ((dig z.natAbs).getD 3 0) with h | h
  · right
    intro hi
    have h1:=num_take_succ (dig z.natAbs) 3
    rw [take_ge (by omega),hn] at h1
    have h2:=num_nonneg (hd.take 3)
    unfold inI at hi
    omega
  · exact .inl h
 refine rg ?_
 refine loopo [1,2,3,17,18] (fun x:Nat×Int=>[(4,.one (.raw (.int .u64 x.2))),(19,.one (.raw (.int .i64 x.1)))])
  (fun x=>x.1≤(dig z.natAbs).length∧x.2=num ((dig z.natAbs).take x.1)∧(x.1=4→(dig z.natAbs).getD 3 0≤8)) (fun x=>(dig z.natAbs).length-x.1) (0,0)
  ⟨Nat.zero_le _,by simp [num],by simp⟩ ?_ ?_
 · refine rg ?_
   exact StLe.weaken (by repeat' first | exact .nil | refine .cons (by first | exact .refl _ | exact .any _) ?_) rfl
 rintro ⟨i,u⟩ ⟨hi,hu,h4⟩
 simp only at hi hu h4
 have hu0:=num_nonneg (hd.take i)
 have hu1:=num_lt (hd.take i)
 rw [List.length_take,Nat.min_eq_left hi,←hu] at hu1
 rw [←hu] at hu0
 refine rg ?_
 refine condd (fun h=>?_) (fun h=>?_)
 · have hdi:=hd.getD i
   have hi3:i≤3:=by omega
   have hdB:i≠3∨(dig z.natAbs).getD i 0≤8→(dig z.natAbs).getD i 0*1048576 ^ i+u≤18446744073709551615:=fun h8=>by
    rcases pow_small hi3 with ⟨h9,e⟩ | ⟨h9,e⟩ | ⟨h9,e⟩ | ⟨h9,e⟩<;>rw [e] at hu1 ⊢<;>omega
   have hdB0:0≤(dig z.natAbs).getD i 0*1048576 ^ i:=Int.mul_nonneg hdi.1 (Int.le_of_lt (pow_pos' i))
   have hstep:u+(dig z.natAbs).getD i 0*1048576 ^ i=num ((dig z.natAbs).take (i+1)):=by rw [num_take_succ,hu,Int.mul_comm]
   refine rg ?_
   refine guardd (fun h5=>?_) (fun h5=>?_)
   · have h5':=decide_eq_true h5
     conv=>simp (maxSteps:=2000000) (disch:=omega) only [go_sem,Nat.reduceAdd,Nat.reduceSub,Nat.reduceMul,Int.reduceToNat,Nat.reduceEqDiff,Nat.reduceBEq,Nat.reduceBneDiff,h5']
     refine condd (fun h6=>?_) (fun h6=>?_)
     · have i3:i=3:=by omega
       subst i3
       have hni:¬inI z:=by
        rcases htop (by omega) with h7 | h7
        · omega
        · exact h7
       obtain ⟨e1,e2⟩:=bad hni
       refine rg ?_
       exact ⟨_,rfl,by rw [e1,e2];exact .one (.refl _)⟩
     · have hdB:=hdB (.inr (by omega))
       conv=>simp (maxSteps:=2000000) (disch:=omega) only [go_sem,Nat.reduceAdd,Nat.reduceSub,Nat.reduceMul,Int.reduceToNat,Nat.reduceEqDiff,Nat.reduceBEq,Nat.reduceBneDiff,shlB,orB]
       have h8:i+1=4→(dig z.natAbs).getD 3 0≤8:=fun e=>by
        have i3:i=3:=by omega
        subst i3
        omega
       exact ⟨(i+1,u+(dig z.natAbs).getD i 0*1048576 ^ i),⟨by dsimp only;omega,hstep,h8⟩,by dsimp only;omega,StLe.weaken (by repeat' first | exact .nil | refine .cons (by first | exact .refl _ | exact .any _) ?_) rfl⟩
   · have hdB:=hdB (.inl (by omega))
     conv=>simp (maxSteps:=2000000) (disch:=omega) only [go_sem,Nat.reduceAdd,Nat.reduceSub,Nat.reduceMul,Int.reduceToNat,Nat.reduceEqDiff,Nat.reduceBEq,Nat.reduceBneDiff,h5,shlB,orB]
     exact ⟨(i+1,u+(dig z.natAbs).getD i 0*1048576 ^ i),⟨by dsimp only;omega,hstep,fun (e:i+1=4)=>by omega⟩,by dsimp only;omega,StLe.weaken (by repeat' first | exact .nil | refine .cons (by first | exact .refl _ | exact .any _) ?_) rfl⟩
 · have hil:i=(dig z.natAbs).length:=by omega
   rw [hil,List.take_length,hn] at hu
   have hub:u≤10376293541461622784:=by
    have:i≤4:=by omega
    rcases Nat.lt_or_ge i 4 with h7 | h7
    · rcases pow_small (show i≤3 by omega) with ⟨h9,e⟩ | ⟨h9,e⟩ | ⟨h9,e⟩ | ⟨h9,e⟩<;>rw [e] at hu1<;>omega
    · have h8:=num_take_succ (dig z.natAbs) 3
      rw [take_ge (by omega),hn] at h8
      have h9:=num_lt (hd.take 3)
      have h10:((dig z.natAbs).take 3).length=3:=by simp;omega
      rw [h10] at h9
      have:=h4 (by omega)
      have h11:(1048576:Int) ^ 3=1152921504606846976:=by decide
      rw [h11] at h9 h8
      omega
   refine rg ?_
   refine guardd (fun h5=>?_) (fun h5=>?_)
   · conv=>simp (maxSteps:=2000000) (disch:=omega) only [go_sem,Nat.reduceAdd,Nat.reduceSub,Nat.reduceMul,Int.reduceToNat,Nat.reduceEqDiff,Nat.reduceBEq,Nat.reduceBneDiff,h5]
     refine condd (fun h6=>?_) (fun h6=>?_)
     · obtain ⟨e1,e2⟩:=good (by unfold inI;omega)
       conv=>simp (maxSteps:=2000000) (disch:=omega) only [go_sem,Nat.reduceAdd,Nat.reduceSub,Nat.reduceMul,Int.reduceToNat,Nat.reduceEqDiff,Nat.reduceBEq,Nat.reduceBneDiff,wu64_neg,w64_neg]
       refine ⟨_,rfl,?_⟩
       rw [e1,e2,show 0-u+18446744073709551616-18446744073709551616=z by omega]
       exact .one (.refl _)
     · obtain ⟨e1,e2⟩:=bad (by unfold inI;omega)
       refine rg ?_
       refine guardd (fun h7=>absurd h7 (by omega)) (fun h7=>?_)
       conv=>simp (maxSteps:=2000000) (disch:=omega) only [go_sem,Nat.reduceAdd,Nat.reduceSub,Nat.reduceMul,Int.reduceToNat,Nat.reduceEqDiff,Nat.reduceBEq,Nat.reduceBneDiff,h7]
       exact ⟨_,rfl,by rw [e1,e2];exact .one (.refl _)⟩
   · conv=>simp (maxSteps:=2000000) (disch:=omega) only [go_sem,Nat.reduceAdd,Nat.reduceSub,Nat.reduceMul,Int.reduceToNat,Nat.reduceEqDiff,Nat.reduceBEq,Nat.reduceBneDiff,h5]
     refine guardd (fun h7=>?_) (fun h7=>absurd (by omega) h7)
     conv=>simp (maxSteps:=2000000) (disch:=omega) only [go_sem,Nat.reduceAdd,Nat.reduceSub,Nat.reduceMul,Int.reduceToNat,Nat.reduceEqDiff,Nat.reduceBEq,Nat.reduceBneDiff,h7]
     refine condd (fun h6=>?_) (fun h6=>?_)
     · obtain ⟨e1,e2⟩:=good (by unfold inI;omega)
       refine rg ?_
       refine ⟨_,rfl,?_⟩
       rw [e1,e2,show u=z by omega]
       exact .one (.refl _)
     · obtain ⟨e1,e2⟩:=bad (by unfold inI;omega)
       refine rg ?_
       exact ⟨_,rfl,by rw [e1,e2];exact .one (.refl _)⟩
theorem cOne (z:Int) (hz:okZ z):CallsTo prog 118 [.agg [.raw (.int .i64 (sg z)),.ints .i64 (dig z.natAbs)]] (.one (.raw (.bool (decide (z=1))))):=by
 obtain ⟨r,hr⟩:∃ r,r=decide (z=1):=⟨_,rfl⟩
 rw [←hr]
 have hc:=cInt z hz
 by_cases hi:inI z
 · rw [if_pos hi,decide_eq_true hi] at hc
   refine CallsTo.run [] Go.Proofs.Tryz.func118 rfl rfl ?_;conv=>simp (maxSteps:=2000000) (disch:=omega) only [go_sem,Nat.reduceAdd,Nat.reduceSub,Nat.reduceMul,Int.reduceToNat,Nat.reduceEqDiff,Nat.reduceBEq,Nat.reduceBneDiff,Go.Proofs.Tryz.f118,List.replicate]
   refine callk hc ?_
   refine rg ?_
   exact ⟨_,rfl,by rw [hr];exact .one (.refl _)⟩
 · rw [if_neg hi,decide_eq_false hi] at hc
   refine CallsTo.run [] Go.Proofs.Tryz.func118 rfl rfl ?_;conv=>simp (maxSteps:=2000000) (disch:=omega) only [go_sem,Nat.reduceAdd,Nat.reduceSub,Nat.reduceMul,Int.reduceToNat,Nat.reduceEqDiff,Nat.reduceBEq,Nat.reduceBneDiff,Go.Proofs.Tryz.f118,List.replicate]
   refine callk hc ?_
   refine rg ?_
   exact ⟨_,rfl,by rw [hr,decide_eq_false (fun e=>hi (by unfold inI;omega))];exact .one (.refl _)⟩
end Go.Slot.T

namespace Go.Slot
open Go Go.RowKit
theorem sg_abs (z:Int):sg z*num (dig z.natAbs)=z:=by
 rw [num_abs]
 rcases sg_cases z with ⟨h,e⟩ | ⟨h,e⟩ | ⟨h,e⟩<;>rw [e]<;>omega
def FracRight (s:Int) (L:List Int) (t:Int) (M:List Int):Prop:=BigRight s L∧BigRight t M∧t=1∧Int.gcd (s*num L) (t*num M)=1
instance (s:Int) (L:List Int) (t:Int) (M:List Int):Decidable (FracRight s L t M):=inferInstanceAs (Decidable (_∧_))
theorem fracRight_iff (s:Int) (L:List Int) (t:Int) (M:List Int):FracRight s L t M↔∃ r:Rat,s=sg r.num∧L=dig r.num.natAbs∧t=1∧M=dig r.den:=by
 constructor
 · rintro ⟨h1,h2,h3,h4⟩
   obtain ⟨x,rfl,rfl⟩:=(bigRight_iff _ _).1 h1
   obtain ⟨y,h5,rfl⟩:=(bigRight_iff _ _).1 h2
   rw [h5,sg_abs,sg_abs] at h4
   have hy:0<y:=by rcases sg_cases y with ⟨h,e⟩ | ⟨h,e⟩ | ⟨h,e⟩<;>omega
   refine ⟨⟨x,y.natAbs,by omega,h4⟩,rfl,rfl,h3,rfl⟩
 · rintro ⟨r,rfl,rfl,rfl,rfl⟩
   have hd:0<r.den:=Nat.pos_of_ne_zero r.den_nz
   have hs:(1:Int)=sg (r.den:Int):=(sg_pos (by omega)).symm
   have h2:BigRight 1 (dig r.den):=by
    have:=bigRight_z (r.den:Int)
    rw [←hs] at this
    exact this
   refine ⟨bigRight_z _,h2,rfl,?_⟩
   rw [sg_abs,num_dig,Int.one_mul]
   exact r.reduced
end Go.Slot

namespace Go.Slot.T
open Go Go.RowKit Go.Slot
open Go.Proofs.Tryz (prog)
set_option maxRecDepth 10000
set_option maxHeartbeats 4000000
theorem cFracRight (s:Int) (L:List Int) (t:Int) (M:List Int) (hL:L.length≤268435456) (hM:M.length≤268435456) :
 CallsTo prog 92 [.agg [.raw (.int .i64 s),.ints .i64 L,.raw (.int .i64 t),.ints .i64 M]] (.one (.raw (.bool (decide (FracRight s L t M))))):=by
 obtain ⟨r,hr⟩:∃ r,r=decide (FracRight s L t M):=⟨_,rfl⟩
 rw [←hr]
 have bad:¬FracRight s L t M→r=false:=fun h=>by rw [hr,decide_eq_false h]
 by_cases h1:BigRight s L
 · obtain ⟨x,rfl,rfl⟩:=(bigRight_iff _ _).1 h1
   by_cases h2:BigRight t M
   · obtain ⟨y,rfl,rfl⟩:=(bigRight_iff _ _).1 h2
     refine CallsTo.run [] Go.Proofs.Tryz.func92 rfl rfl ?_;conv=>simp (maxSteps:=2000000) (disch:=omega) only [go_sem,Nat.reduceAdd,Nat.reduceSub,Nat.reduceMul,Int.reduceToNat,Nat.reduceEqDiff,Nat.reduceBEq,Nat.reduceBneDiff,Go.Proofs.Tryz.f92,List.replicate]
     refine callk (cRightZ x hL) ?_
     refine rg ?_
     refine callk (cRightZ y hM) ?_
     refine rg ?_
     refine condd (fun h3=>?_) (fun h3=>?_)
     · have e:=bad (fun h=>h3 h.2.2.1)
       subst e
       refine rg ?_
       exact ⟨_,rfl,.one (.refl _)⟩
     · have h3:sg y=1:=by omega
       have hgl:(dig (Int.gcd x y:Int).natAbs).length≤268435456:=by
        have:(Int.gcd x y:Int).natAbs≤y.natAbs:=by
         have hy:0<y.natAbs:=by rcases sg_cases y with ⟨h,e⟩ | ⟨h,e⟩ | ⟨h,e⟩<;>omega
         exact Nat.le_of_dvd hy (Nat.gcd_dvd_right _ _)
        exact Nat.le_trans (dig_len_le this) hM
       have e:r=decide ((Int.gcd x y:Int)=1):=by
        rw [hr]
        apply decide_eq_decide.2
        unfold FracRight
        rw [sg_abs,sg_abs]
        constructor
        · exact fun h=>by have:=h.2.2.2;omega
        · exact fun h=>⟨h1,h2,h3,by omega⟩
       subst e
       refine rg ?_
       refine callk (cGcdZ x y hL hM) ?_
       refine rg ?_
       refine callk (cOne _ hgl) ?_
       refine rg ?_
       exact ⟨_,rfl,.one (.refl _)⟩
   · have e:=bad (fun h=>h2 h.2.1)
     subst e
     refine CallsTo.run [] Go.Proofs.Tryz.func92 rfl rfl ?_;conv=>simp (maxSteps:=2000000) (disch:=omega) only [go_sem,Nat.reduceAdd,Nat.reduceSub,Nat.reduceMul,Int.reduceToNat,Nat.reduceEqDiff,Nat.reduceBEq,Nat.reduceBneDiff,Go.Proofs.Tryz.f92,List.replicate]
     refine callk (cRightZ x hL) ?_
     refine rg ?_
     refine callk (cRightN t M hM h2) ?_
     refine rg ?_
     exact ⟨_,rfl,.one (.refl _)⟩
 · have e:=bad (fun h=>h1 h.1)
   subst e
   refine CallsTo.run [] Go.Proofs.Tryz.func92 rfl rfl ?_;conv=>simp (maxSteps:=2000000) (disch:=omega) only [go_sem,Nat.reduceAdd,Nat.reduceSub,Nat.reduceMul,Int.reduceToNat,Nat.reduceEqDiff,Nat.reduceBEq,Nat.reduceBneDiff,Go.Proofs.Tryz.f92,List.replicate]
   refine callk (cRightN s L hL h1) ?_
   refine rg ?_
   exact ⟨_,rfl,.one (.refl _)⟩
end Go.Slot.T

namespace Go.Slot
open Go Go.RowKit
structure Fc where
 s:Int
 L:List Int
 t:Int
 M:List Int
namespace Fc
def C (f:Fc):List Cell:=[.raw (.int .i64 f.s),.ints .i64 f.L,.raw (.int .i64 f.t),.ints .i64 f.M]
theorem C_eq {f:Fc}:f.C=[.raw (.int .i64 f.s),.ints .i64 f.L,.raw (.int .i64 f.t),.ints .i64 f.M]:=_root_.id rfl
def ok (f:Fc):Prop:=FracRight f.s f.L f.t f.M
instance (f:Fc):Decidable f.ok:=inferInstanceAs (Decidable (FracRight _ _ _ _))
def of (r:Rat):Fc:=⟨sg r.num,dig r.num.natAbs,1,dig r.den⟩
def zero:Fc:=⟨0,[],0,[]⟩
def val (f:Fc):Rat:=mkRat (f.s*num f.L) (num f.M).toNat
def sz (f:Fc):Nat:=max f.L.length f.M.length
theorem of_ok (r:Rat):(of r).ok:=(fracRight_iff _ _ _ _).2 ⟨r,rfl,rfl,rfl,rfl⟩
theorem val_of (r:Rat):(of r).val=r:=by
 show mkRat (sg r.num*num (dig r.num.natAbs)) (num (dig r.den)).toNat=r
 rw [sg_abs,num_dig,Int.toNat_natCast,Rat.mkRat_self]
theorem ok_of {f:Fc} (h:f.ok):f=of f.val:=by
 obtain ⟨r,h1,h2,h3,h4⟩:=(fracRight_iff _ _ _ _).1 h
 have:f=of r:=by cases f;simp only [of] at *;subst h1 h2 h3 h4;rfl
 rw [this,val_of]
theorem ok_ex {f:Fc} (h:f.ok):∃ r,f=of r:=⟨_,ok_of h⟩
theorem zero_bad:¬zero.ok:=fun h=>by have:=h.2.2.1;simp [zero] at this
def op2 (g:Rat→Rat→Rat) (a b:Fc):Fc:=if a.ok∧b.ok then of (g a.val b.val) else zero
def op1 (g:Rat→Rat) (a:Fc):Fc:=if a.ok then of (g a.val) else zero
def er (p:Prop) [Decidable p]:Int:=if p then 0 else 1
def add:=op2 (· + ·)
def sub:=op2 (· - ·)
def mul:=op2 (· * ·)
def neg:=op1 (fun x=>-x)
def sign (a:Fc):Int:=if a.ok then sg a.val.num else 0
theorem op2_of (g:Rat→Rat→Rat) (x y:Rat):op2 g (of x) (of y)=of (g x y):=by unfold op2;rw [if_pos ⟨of_ok x,of_ok y⟩,val_of,val_of]
theorem op2_bad {g:Rat→Rat→Rat} {a b:Fc} (h:¬(a.ok∧b.ok)):op2 g a b=zero:=if_neg h
theorem mul_of (x y:Rat):mul (of x) (of y)=of (x*y):=op2_of _ x y
theorem er_of {p:Prop} [Decidable p] (h:p):er p=0:=if_pos h
theorem er_bad {p:Prop} [Decidable p] (h:¬p):er p=1:=if_neg h
theorem sub_ok {a b:Fc}:(sub a b).ok↔(a.ok∧b.ok):=by
 unfold sub op2;split
 · rename_i h;exact ⟨fun _=>h,fun _=>of_ok _⟩
 · rename_i h;exact ⟨fun h'=>absurd h' zero_bad,fun h'=>absurd h' h⟩
theorem sz_of (x:Rat):(of x).sz=max (dig x.num.natAbs).length (dig x.den).length:=rfl
theorem sz_mkRat (n:Int) (d:Nat) (hd:d≠0):(of (mkRat n d)).sz≤max (dig n.natAbs).length (dig d).length:=by
 rw [sz_of,Rat.num_mkRat,Rat.den_mkRat,if_neg hd,if_neg hd]
 have h1:(n / (d.gcd n.natAbs:Nat)).natAbs≤n.natAbs:=by
  rw [Int.natAbs_ediv_of_dvd (by rw [←Int.dvd_natAbs,Int.ofNat_dvd];exact Nat.gcd_dvd_right _ _),Int.natAbs_natCast]
  exact Nat.div_le_self _ _
 have h2:d / d.gcd n.natAbs≤d:=Nat.div_le_self _ _
 have:=dig_len_le h1
 have:=dig_len_le h2
 omega
theorem sz_mul_of (x y:Rat):(of (x*y)).sz≤(of x).sz+(of y).sz:=by
 rw [Rat.mul_def']
 refine Nat.le_trans (sz_mkRat _ _ (Nat.mul_ne_zero x.den_nz y.den_nz)) ?_
 have h2:=len_mul x.num y.num
 have h4:=dig_len_mul x.den y.den
 rw [sz_of,sz_of]
 omega
end Fc
attribute [go_sem] Fc.C_eq
end Go.Slot

namespace Go.Slot.T
open Go Go.RowKit Go.Slot
open Go.Proofs.Tryz (prog)
set_option maxRecDepth 10000
set_option maxHeartbeats 4000000
theorem and20u {n:Int} (_h:0≤n):iand .u64 n 1048575=n % 1048576:=by
 unfold iand
 have h1:(BitVec.ofInt IntKind.u64.bits n &&&BitVec.ofInt IntKind.u64.bits 1048575).toNat=(n % 1048576).toNat:=by
  show (BitVec.ofInt 64 n &&&BitVec.ofInt 64 1048575).toNat=_
  rw [BitVec.toNat_and,BitVec.toNat_ofInt,BitVec.toNat_ofInt]
  have:((1048575:Int) % ((2 ^ 64:Nat):Int)).toNat=2 ^ 20-1:=by decide
  rw [this,Nat.and_two_pow_sub_one_eq_mod]
  omega
 rw [h1,wu64 (by omega)]
 omega
theorem shr20u (n:Int):ishr .u64 n 20=n / 1048576:=by
 unfold ishr
 have:(2:Int) ^ (min (20:Int).toNat IntKind.u64.bits)=1048576:=by decide
 rw [this,Int.fdiv_eq_ediv_of_nonneg _ (by decide)]
theorem dig_small {n:Nat} (h:n≤18446744073709551615):(dig n).length≤4:=dig_len (Nat.lt_of_le_of_lt h (by decide))
theorem cOf (n:Int) (hn:inI n):CallsTo prog 56 [.one (.raw (.int .i64 n))] (.agg [.raw (.int .i64 (sg n)),.ints .i64 (dig n.natAbs)]):=by
 unfold inI at hn
 refine CallsTo.run [(4,[.join])] Go.Proofs.Tryz.func56 rfl rfl ?_;conv=>simp (maxSteps:=2000000) (disch:=omega) only [go_sem,Nat.reduceAdd,Nat.reduceSub,Nat.reduceMul,Int.reduceToNat,Nat.reduceEqDiff,Nat.reduceBEq,Nat.reduceBneDiff,Go.Proofs.Tryz.f56,List.replicate]
 refine joino [] (fun s:Int=>[(3,.one (.raw (.int .i64 s))),(4,.one (.raw (.int .u64 n.natAbs)))])
  (fun s=>(s=1∧0≤n)∨(s = -1∧n<0)) ?_ ?_
 · by_cases h0:n<0
   · conv=>simp (maxSteps:=2000000) (disch:=omega) only [go_sem,Nat.reduceAdd,Nat.reduceSub,Nat.reduceMul,Int.reduceToNat,Nat.reduceEqDiff,Nat.reduceBEq,Nat.reduceBneDiff,wu64_neg]
     refine condd (fun h=>?_) (fun h=>absurd h0 h)
     conv=>simp (maxSteps:=2000000) (disch:=omega) only [go_sem,Nat.reduceAdd,Nat.reduceSub,Nat.reduceMul,Int.reduceToNat,Nat.reduceEqDiff,Nat.reduceBEq,Nat.reduceBneDiff,wu64_neg]
     refine ⟨-1,.inr ⟨rfl,h0⟩,?_⟩
     rw [show 0-(n+18446744073709551616)+18446744073709551616=((n.natAbs:Nat):Int) by omega]
     exact StLe.weaken (by repeat' first | exact .nil | refine .cons (by first | exact .refl _ | exact .any _) ?_) rfl
   · refine rg ?_
     refine condd (fun h=>absurd h h0) (fun h=>?_)
     refine rg ?_
     refine ⟨1,.inl ⟨rfl,by omega⟩,?_⟩
     rw [show n=((n.natAbs:Nat):Int) by omega]
     exact StLe.weaken (by repeat' first | exact .nil | refine .cons (by first | exact .refl _ | exact .any _) ?_) rfl
 rintro s hs
 have hN:(n.natAbs:Int)≤9223372036854775808:=by omega
 generalize hNN:n.natAbs=N at *
 refine rg ?_
 refine loopo [3] (fun x:Nat×List Int×Int=>[(4,.one (.raw (.int .u64 x.2.2))),(5,.one (.tok 21 (.ints .i64 x.2.1)))])
  (fun x=>x.2.1.length=x.1∧x.1≤4∧digits x.2.1∧0≤x.2.2∧num x.2.1+1048576 ^ x.1*x.2.2=N) (fun x=>x.2.2.toNat) (0,[],N)
  ⟨rfl,Nat.zero_le _,digits.nil,by simp,by simp [num]⟩ ?_ ?_
 · refine StLe.trans (StLe.tokI 5 21 (.ints .i64 []) rfl rfl rfl) ?_
   refine rg ?_
   exact StLe.weaken (by repeat' first | exact .nil | refine .cons (by first | exact .refl _ | exact .any _) ?_) rfl
 rintro ⟨k,l,u⟩ ⟨hl,hk,hd,hu,he⟩
 simp only at hl hk hd hu he
 have hl0:=num_nonneg hd
 have hp:=pow_pos' k
 have huN:u≤N:=by
  have:=Int.mul_le_mul_of_nonneg_right (show (1:Int)≤1048576 ^ k by omega) hu
  omega
 refine rg ?_
 refine condd (fun h=>?_) (fun h=>?_)
 · have hk3:k≤3:=by
    rcases Nat.lt_or_ge k 4 with h4 | h4
    · omega
    · have h1:=pow_mono' h4
      have h2:=Int.mul_le_mul_of_nonneg_left (show (1:Int)≤u by omega) (Int.le_of_lt hp)
      have h3:(1048576:Int) ^ 4=1208925819614629174706176:=by decide
      omega
   conv=>simp (maxSteps:=2000000) (disch:=omega) only [go_sem,Nat.reduceAdd,Nat.reduceSub,Nat.reduceMul,Int.reduceToNat,Nat.reduceEqDiff,Nat.reduceBEq,Nat.reduceBneDiff,and20u,shr20u]
   refine ⟨(k+1,l++[u % 1048576],u / 1048576),⟨by simp [hl],by dsimp only;omega,hd.append (digits.cons (by omega) digits.nil),by dsimp only;omega,?_⟩,by dsimp only;omega,StLe.weaken (by repeat' first | exact .nil | refine .cons (by first | exact .refl _ | exact .any _) ?_) rfl⟩
   dsimp only
   rw [num_append,hl,Int.pow_succ]
   have h:=Int.emod_add_mul_ediv u 1048576
   simp only [num]
   generalize (1048576:Int) ^ k=P at *
   generalize u % 1048576=r at *
   generalize u / 1048576=q at *
   grind
 · have hu0:u=0:=by omega
   rw [hu0,Int.mul_zero,Int.add_zero] at he
   have e:=trimL_eq' hd he
   rw [Int.toNat_natCast,←hNN] at e
   have hdl:(dig N).length≤4:=dig_small (by omega)
   have hsg:=cSigned s l (by omega)
   unfold bigC at hsg
   rw [e,←trimL_dig,zC_of (by omega)] at hsg
   unfold zC at hsg
   rw [hNN] at hsg
   refine rg ?_
   refine callk hsg ?_
   refine rg ?_
   exact ⟨_,rfl,.one (.refl _)⟩
end Go.Slot.T

namespace Go.Slot.T
open Go Go.RowKit Go.Slot
open Go.Proofs.Tryz (prog)
set_option maxRecDepth 10000
set_option maxHeartbeats 4000000
theorem of_s {r:Rat}:(Fc.of r).s=sg r.num:=_root_.id rfl
theorem of_L {r:Rat}:(Fc.of r).L=dig r.num.natAbs:=_root_.id rfl
theorem of_t {r:Rat}:(Fc.of r).t=1:=_root_.id rfl
theorem of_M {r:Rat}:(Fc.of r).M=dig r.den:=_root_.id rfl
theorem zero_s:Fc.zero.s=0:=_root_.id rfl
theorem zero_L:Fc.zero.L=[]:=_root_.id rfl
theorem zero_t:Fc.zero.t=0:=_root_.id rfl
theorem zero_M:Fc.zero.M=[]:=_root_.id rfl
attribute [go_sem] of_s of_L of_t of_M zero_s zero_L zero_t zero_M
theorem sg_den (r:Rat):sg (r.den:Int)=1:=sg_pos (by have:=Nat.pos_of_ne_zero r.den_nz;omega)
theorem sg_nat {d:Nat} (h:d≠0):sg (d:Int)=1:=sg_pos (by omega)
theorem szL {f:Fc} {n:Nat} (h:f.sz≤n):f.L.length≤n∧f.M.length≤n:=by unfold Fc.sz at h;omega
theorem szO {r:Rat} {n:Nat} (h:(Fc.of r).sz≤n):(dig r.num.natAbs).length≤n∧(dig r.den).length≤n:=szL h
theorem cRightF (f:Fc) (h:f.sz≤268435456):CallsTo prog 92 [.agg f.C] (.one (.raw (.bool (decide f.ok)))):=
 cFracRight f.s f.L f.t f.M (szL h).1 (szL h).2
theorem cRightOf (r:Rat) (h:(Fc.of r).sz≤268435456):CallsTo prog 92 [.agg (Fc.of r).C] (.one (.raw (.bool true))):=by
 have:=cRightF (Fc.of r) h
 rwa [decide_eq_true (Fc.of_ok r)] at this
theorem cRightBad (f:Fc) (h:f.sz≤268435456) (hb:¬f.ok):CallsTo prog 92 [.agg f.C] (.one (.raw (.bool false))):=by
 have:=cRightF f h
 rwa [decide_eq_false hb] at this
theorem zeroLe:AV.Le (.agg [.raw (.int .i64 0),.zc,.raw (.int .i64 0),.zc]) (.agg Fc.zero.C):=.agg (.cons (.refl _) (.cons (.zcInts _) (.cons (.refl _) (.cons (.zcInts _) .nil))))
theorem cTimes (x y:Int) (hx:okZ x) (hy:okZ y) :
 CallsTo prog 93 [.agg [.raw (.int .i64 (sg x)),.ints .i64 (dig x.natAbs)],.agg [.raw (.int .i64 (sg y)),.ints .i64 (dig y.natAbs)]]
  (.agg [.raw (.int .i64 (sg (x*y))),.ints .i64 (dig (x*y).natAbs)]):=by
 refine CallsTo.run [] Go.Proofs.Tryz.func93 rfl rfl ?_;conv=>simp (maxSteps:=2000000) (disch:=omega) only [go_sem,Nat.reduceAdd,Nat.reduceSub,Nat.reduceMul,Int.reduceToNat,Nat.reduceEqDiff,Nat.reduceBEq,Nat.reduceBneDiff,Go.Proofs.Tryz.f93,List.replicate]
 refine callk (cMulZ x y hx hy) ?_
 refine rg ?_
 exact ⟨_,rfl,.one (.refl _)⟩
theorem cTimesQ (x:Int) (d:Nat) (hx:okZ x) (hd:d≠0) (hl:(dig d).length≤268435456) :
 CallsTo prog 93 [.agg [.raw (.int .i64 (sg x)),.ints .i64 (dig x.natAbs)],.agg [.raw (.int .i64 1),.ints .i64 (dig d)]]
  (.agg [.raw (.int .i64 (sg (x*d))),.ints .i64 (dig (x*d).natAbs)]):=by
 have:=cTimes x (d:Int) hx hl
 rw [sg_nat hd] at this
 exact this
theorem cTimesD (c d:Nat) (hc0:c≠0) (hd:d≠0) (hc:(dig c).length≤268435456) (hl:(dig d).length≤268435456) :
 CallsTo prog 93 [.agg [.raw (.int .i64 1),.ints .i64 (dig c)],.agg [.raw (.int .i64 1),.ints .i64 (dig d)]]
  (.agg [.raw (.int .i64 1),.ints .i64 (dig (c*d))]):=by
 have:=cTimesQ (c:Int) d hc hd hl
 rw [sg_nat hc0,show (c:Int)*d=((c*d:Nat):Int) from (Int.natCast_mul c d).symm,sg_nat (Nat.mul_ne_zero hc0 hd)] at this
 exact this
theorem mkRat_parts (z:Int) {d:Nat} (hd:d≠0):(mkRat z d).num=z / (Int.gcd z d:Int)∧((mkRat z d).den:Int)=d / (Int.gcd z d:Int)∧0<(Int.gcd z d:Int):=by
 have hg:Int.gcd z d=d.gcd z.natAbs:=by rw [Int.gcd_eq_natAbs_gcd_natAbs,Int.natAbs_natCast,Nat.gcd_comm]
 have hp:0<d.gcd z.natAbs:=Nat.gcd_pos_of_pos_left _ (Nat.pos_of_ne_zero hd)
 rw [Rat.num_mkRat,Rat.den_mkRat,if_neg hd,if_neg hd,hg]
 exact ⟨rfl,by rw [Int.natCast_ediv],by omega⟩
theorem cNewQ (z:Int) (d:Nat) (hz:okZ z) (hd:d≠0) (hl:(dig d).length≤268435456) :
 CallsTo prog 91 [.agg [.raw (.int .i64 (sg z)),.ints .i64 (dig z.natAbs)],.agg [.raw (.int .i64 1),.ints .i64 (dig d)]]
  (.tup [.agg (Fc.of (mkRat z d)).C,.one (.raw (.int .i64 0))]):=by
 obtain ⟨p1,p2,p3⟩:=mkRat_parts z hd
 have hden:=sg_den (mkRat z d)
 rw [p2] at hden
 have hden2:(mkRat z d).den=((d:Int) / (Int.gcd z d:Int)).natAbs:=by omega
 have hgl:okZ (Int.gcd z d:Int):=by
  have:(Int.gcd z d:Int).natAbs≤d:=by
   have:Int.gcd z d ∣ d:=by have:=Int.gcd_dvd_natAbs_right z d;simpa using this
   exact Nat.le_of_dvd (Nat.pos_of_ne_zero hd) this
  exact Nat.le_trans (dig_len_le this) hl
 have hr:=cRightZ (d:Int) hl
 have hg:=cGcdZ z d hz hl
 have hd1:=cDivZ z (Int.gcd z d:Int) hz hgl p3
 have hd2:=cDivZ d (Int.gcd z d:Int) hl hgl p3
 rw [sg_nat hd] at hr hg hd2
 rw [hden] at hd2
 rw [show ((d:Nat):Int).natAbs=d from rfl] at hr hg hd2
 have hfin:(Fc.of (mkRat z d)).C=[.raw (.int .i64 (sg (z / (Int.gcd z d:Int)))),.ints .i64 (dig (z / (Int.gcd z d:Int)).natAbs),.raw (.int .i64 1),.ints .i64 (dig ((d:Int) / (Int.gcd z d:Int)).natAbs)]:=by
  rw [←p1,←hden2];rfl
 rw [hfin]
 generalize (Int.gcd z d:Int)=g at *
 refine CallsTo.run [] Go.Proofs.Tryz.func91 rfl rfl ?_;conv=>simp (maxSteps:=2000000) (disch:=omega) only [go_sem,Nat.reduceAdd,Nat.reduceSub,Nat.reduceMul,Int.reduceToNat,Nat.reduceEqDiff,Nat.reduceBEq,Nat.reduceBneDiff,Go.Proofs.Tryz.f91,List.replicate]
 refine callk (cRightZ z hz) ?_
 refine rg ?_
 refine callk hr ?_
 refine rg ?_
 refine condd (fun h=>absurd h (by decide)) (fun _=>?_)
 refine rg ?_
 refine condd (fun h=>absurd h (by decide)) (fun _=>?_)
 refine rg ?_
 refine callk hg ?_
 refine rg ?_
 refine callk hd1 ?_
 refine rg ?_
 refine callk hd2 ?_
 refine rg ?_
 exact ⟨_,rfl,.tup (.cons (.refl _) (.cons (.refl _) .nil))⟩
end Go.Slot.T

namespace Go.Slot.T
open Go Go.RowKit Go.Slot
open Go.Proofs.Tryz (prog)
set_option maxRecDepth 10000
set_option maxHeartbeats 4000000
theorem cMulF (a b:Fc) (ha:a.sz≤67108864) (hb:b.sz≤67108864) :
 CallsTo prog 61 [.agg a.C,.agg b.C] (.tup [.agg (Fc.mul a b).C,.one (.raw (.int .i64 (Fc.er (a.ok∧b.ok))))]):=by
 by_cases h1:a.ok
 · by_cases h2:b.ok
   · rw [Fc.er_of ⟨h1,h2⟩]
     obtain ⟨x,rfl⟩:=Fc.ok_ex h1
     obtain ⟨y,rfl⟩:=Fc.ok_ex h2
     have lx:=szO ha
     have ly:=szO hb
     have l1:=len_mul x.num y.num
     have l4:=dig_len_mul x.den y.den
     rw [Fc.mul_of,Rat.mul_def']
     refine CallsTo.run [] Go.Proofs.Tryz.func61 rfl rfl ?_;conv=>simp (maxSteps:=2000000) (disch:=omega) only [go_sem,Nat.reduceAdd,Nat.reduceSub,Nat.reduceMul,Int.reduceToNat,Nat.reduceEqDiff,Nat.reduceBEq,Nat.reduceBneDiff,Go.Proofs.Tryz.f61,List.replicate]
     refine callk (cRightOf x (by omega)) ?_
     refine rg ?_
     refine callk (cRightOf y (by omega)) ?_
     refine rg ?_
     refine callk (cTimes x.num y.num (by unfold okZ;omega) (by unfold okZ;omega)) ?_
     refine rg ?_
     refine callk (cTimesD x.den y.den x.den_nz y.den_nz (by omega) (by omega)) ?_
     refine rg ?_
     refine callk (cNewQ (x.num*y.num) (x.den*y.den) (by unfold okZ;omega) (Nat.mul_ne_zero x.den_nz y.den_nz) (by omega)) ?_
     refine rg ?_
     refine indk (by kernel_rfl) ?_
     refine rg ?_
     exact ⟨_,rfl,.tup (.cons (.refl _) (.cons (.refl _) .nil))⟩
   · rw [Fc.er_bad (fun h=>h2 h.2),show Fc.mul a b=Fc.zero from Fc.op2_bad (fun h=>h2 h.2)]
     obtain ⟨x,rfl⟩:=Fc.ok_ex h1
     refine CallsTo.run [] Go.Proofs.Tryz.func61 rfl rfl ?_;conv=>simp (maxSteps:=2000000) (disch:=omega) only [go_sem,Nat.reduceAdd,Nat.reduceSub,Nat.reduceMul,Int.reduceToNat,Nat.reduceEqDiff,Nat.reduceBEq,Nat.reduceBneDiff,Go.Proofs.Tryz.f61,List.replicate]
     refine callk (cRightOf x (by omega)) ?_
     refine rg ?_
     refine callk (cRightBad b (by omega) h2) ?_
     refine rg ?_
     exact ⟨_,rfl,.tup (.cons zeroLe (.cons (.refl _) .nil))⟩
 · rw [Fc.er_bad (fun h=>h1 h.1),show Fc.mul a b=Fc.zero from Fc.op2_bad (fun h=>h1 h.1)]
   refine CallsTo.run [] Go.Proofs.Tryz.func61 rfl rfl ?_;conv=>simp (maxSteps:=2000000) (disch:=omega) only [go_sem,Nat.reduceAdd,Nat.reduceSub,Nat.reduceMul,Int.reduceToNat,Nat.reduceEqDiff,Nat.reduceBEq,Nat.reduceBneDiff,Go.Proofs.Tryz.f61,List.replicate]
   refine callk (cRightBad a (by omega) h1) ?_
   refine rg ?_
   exact ⟨_,rfl,.tup (.cons zeroLe (.cons (.refl _) .nil))⟩
instance:DecidableEq Fc:=fun a b=>decidable_of_iff (a.s=b.s∧a.L=b.L∧a.t=b.t∧a.M=b.M) ⟨fun h=>by cases a;cases b;simp at h;simp [h],fun h=>by rw [h];exact ⟨rfl,rfl,rfl,rfl⟩⟩
theorem cIntF (n:Int) (hn:inI n):CallsTo prog 31 [.one (.raw (.int .i64 n))] (.agg (Fc.of (n:Rat)).C):=by
 have h1:=cOf 1 (by decide)
 rw [show sg 1=1 from rfl] at h1
 refine CallsTo.run [] Go.Proofs.Tryz.func31 rfl rfl ?_;conv=>simp (maxSteps:=2000000) (disch:=omega) only [go_sem,Nat.reduceAdd,Nat.reduceSub,Nat.reduceMul,Int.reduceToNat,Nat.reduceEqDiff,Nat.reduceBEq,Nat.reduceBneDiff,Go.Proofs.Tryz.f31,List.replicate]
 refine callk (cOf n hn) ?_
 refine rg ?_
 refine callk h1 ?_
 refine rg ?_
 exact ⟨_,rfl,.one (.refl _)⟩
end Go.Slot.T

namespace Go.Hp.T
open Go Go.RowKit Go.Slot Go.Hp Go.Slot.T
open Go.Proofs.Tryz (prog)
set_option maxRecDepth 10000
set_option maxHeartbeats 4000000
variable {Γ:List (Nat×List Cell)}
abbrev zC (z:Int):List Cell:=[.raw (.int .i64 (sg z)),.ints .i64 (dig z.natAbs)]
theorem cNewPos (z:Int) (d:Nat) (hz:okZ z) (hd:d≠0) (hl:(dig d).length≤268435456):CallsD Γ prog 91 [.agg (zC z),.agg (zC d)] (.tup [.agg (Fc.of (Rat.divInt z d)).C,.one (cI 0)]):=by
 have:=toD (Γ:=Γ) (cNewQ z d hz hd hl)
 rw [Rat.divInt_ofNat]
 unfold zC
 rw [sg_nat hd]
 exact this
theorem cNewNeg (z:Int) (d:Nat) (hz:okZ z) (hd:d≠0) (hl:(dig d).length≤268435456):CallsD Γ prog 91 [.agg (zC z),.agg (zC (-(d:Int)))] (.tup [.agg (Fc.of (Rat.divInt z (-(d:Int)))).C,.one (cI 0)]):=by
 have hdd:okZ (-(d:Int)):=by unfold okZ;rw [show (-(d:Int)).natAbs=d by omega];exact hl
 have hzz:okZ (-z):=by unfold okZ at hz ⊢;rw [Int.natAbs_neg];exact hz
 have hdz:okZ (d:Int):=hl
 have hs:sg (-(d:Int)) = -1:=sg_neg (by omega)
 have hgp:0<(Int.gcd (-z) d:Int):=(mkRat_parts (-z) hd).2.2
 obtain ⟨p1,p2,p3⟩:=mkRat_parts (-z) hd
 have hden:=sg_den (mkRat (-z) d)
 rw [p2] at hden
 have hgl:okZ (Int.gcd (-z) d:Int):=by
  have:(Int.gcd (-z) d:Int).natAbs≤d:=by
   have:Int.gcd (-z) d ∣ d:=by have:=Int.gcd_dvd_natAbs_right (-z) d;simpa using this
   exact Nat.le_of_dvd (Nat.pos_of_ne_zero hd) this
  exact Nat.le_trans (dig_len_le this) hl
 have hn1:=cNegZ z hz
 have hn2:=cNegZ (-(d:Int)) hdd
 rw [Int.neg_neg,hs,sg_nat hd] at hn2
 have hr:=cRightZ (-(d:Int)) hdd
 rw [hs] at hr
 have hg:=cGcdZ (-z) d hzz hdz
 have hd1:=cDivZ (-z) (Int.gcd (-z) d:Int) hzz hgl hgp
 have hd2:=cDivZ d (Int.gcd (-z) d:Int) hdz hgl hgp
 rw [sg_nat hd] at hg hd2
 rw [hden] at hd2
 have hden2:(mkRat (-z) d).den=((d:Int) / (Int.gcd (-z) d:Int)).natAbs:=by omega
 have hfin:(Fc.of (Rat.divInt z (-(d:Int)))).C=[.raw (.int .i64 (sg (-z / (Int.gcd (-z) d:Int)))),.ints .i64 (dig (-z / (Int.gcd (-z) d:Int)).natAbs),.raw (.int .i64 1),.ints .i64 (dig ((d:Int) / (Int.gcd (-z) d:Int)).natAbs)]:=by
  rw [Rat.divInt_neg',Rat.divInt_ofNat,←p1,←hden2];rfl
 rw [hfin]
 generalize (Int.gcd (-z) d:Int)=g at *
 unfold zC
 rw [hs]
 refine CallsD.run [] Go.Proofs.Tryz.func91 rfl rfl rfl ?_;simp only [Go.Proofs.Tryz.f91];refine hgR ?_
 repeat' ((first | refine hfk ?_ ?_<;>intros | refine hik ?_ | with_reducible first | refine hcall (toD (cRightZ z hz)) ?_ | refine hcalle (toD (cRightZ z hz)) ?_ | refine hcall (toD hr) ?_ | refine hcalle (toD hr) ?_ | refine hcall (toD hn1) ?_ | refine hcalle (toD hn1) ?_ | refine hcall (toD hn2) ?_ | refine hcalle (toD hn2) ?_ | refine hcall (toD hg) ?_ | refine hcalle (toD hg) ?_ | refine hcall (toD hd1) ?_ | refine hcalle (toD hd1) ?_ | refine hcall (toD hd2) ?_ | refine hcalle (toD hd2) ?_)<;>refine hgS ?_)
 exact RLe.ofEq rfl
theorem cNewZ (z q:Int) (hz:okZ z) (hq:q≠0) (hl:okZ q):CallsD Γ prog 91 [.agg (zC z),.agg (zC q)] (.tup [.agg (Fc.of (Rat.divInt z q)).C,.one (cI 0)]):=by
 unfold okZ at hl
 rcases Int.lt_or_gt_of_ne hq with h | h
 · have e:q = -((q.natAbs:Nat):Int):=by omega
   have:=cNewNeg (Γ:=Γ) z q.natAbs hz (by omega) hl
   rw [←e] at this
   exact this
 · have e:((q.natAbs:Nat):Int)=q:=by omega
   have:=cNewPos (Γ:=Γ) z q.natAbs hz (by omega) hl
   rw [e] at this
   exact this
theorem cFracOf (p q:Int) (hp:inI p) (hq:inI q) (hq0:q≠0):CallsD Γ prog 60 [.one (cI p),.one (cI q)] (.tup [.agg (Fc.of (Rat.divInt p q)).C,.one (cI 0)]):=by
 have okI:∀ n:Int,inI n→okZ n:=fun n hn=>by
  unfold okZ
  have:=dig_small (n:=n.natAbs) (by unfold inI at hn;omega)
  omega
 refine CallsD.run [] Go.Proofs.Tryz.func60 rfl rfl rfl ?_;simp only [Go.Proofs.Tryz.f60];refine hgR ?_
 repeat' ((first | refine hfk ?_ ?_<;>intros | refine hik ?_ | with_reducible first | refine hcall (toD (cOf p hp)) ?_ | refine hcalle (toD (cOf p hp)) ?_ | refine hcall (toD (cOf q hq)) ?_ | refine hcalle (toD (cOf q hq)) ?_ | refine hcall (cNewZ p q (okI p hp) hq0 (okI q hq)) ?_ | refine hcalle (cNewZ p q (okI p hp) hq0 (okI q hq)) ?_)<;>refine hgS ?_)
 exact RLe.ofEq rfl
theorem rat_div (x y:Rat):x / y=Rat.divInt (x.num*y.den) (x.den*y.num):=by
 rw [Rat.div_def,Rat.inv_def]
 conv=>lhs;rw [←Rat.num_divInt_den x]
 rw [Rat.divInt_mul_divInt]
abbrev fQ (x:Rat):List Cell:=[.raw (.int .i64 (sg x.num)),.ints .i64 (dig x.num.natAbs),.raw (.int .i64 1),.ints .i64 (dig x.den)]
abbrev qs (x:Rat):Nat:=(Fc.of x).sz
theorem qRight (x:Rat) (h:qs x≤268435456):CallsD Γ prog 92 [.agg (fQ x)] (.one (cB true)):=toD (cRightOf x h)
theorem qMul (x y:Rat) (hx:qs x≤67108864) (hy:qs y≤67108864):CallsD Γ prog 61 [.agg (fQ x),.agg (fQ y)] (.tup [.agg (fQ (x*y)),.one (cI 0)]):=by
 have:=toD (Γ:=Γ) (cMulF (Fc.of x) (Fc.of y) hx hy)
 rw [Fc.mul_of,Fc.er_of ⟨Fc.of_ok x,Fc.of_ok y⟩] at this
 exact this
theorem qInt (n:Int) (hn:inI n):CallsD Γ prog 31 [.one (cI n)] (.agg (fQ (n:Rat))):=toD (cIntF n hn)
theorem qOf (p q:Int) (hp:inI p) (hq:inI q) (hq0:q≠0):CallsD Γ prog 60 [.one (cI p),.one (cI q)] (.tup [.agg (fQ (Rat.divInt p q)),.one (cI 0)]):=cFracOf p q hp hq hq0
theorem qDiv (x y:Rat) (hy:y≠0) (hx:qs x≤67108864) (hyl:qs y≤67108864):CallsD Γ prog 62 [.agg (fQ x),.agg (fQ y)] (.tup [.agg (fQ (x / y)),.one (cI 0)]):=by
 have lx:=szO hx
 have ly:=szO hyl
 have l1:=len_mul x.num y.den
 have l4:=len_mul (x.den:Int) y.num
 have hyn:y.num≠0:=fun h=>hy (Rat.num_eq_zero.1 h)
 have hsy:sg y.num≠0:=by have:=sg_cases y.num;omega
 have hD:okZ (x.den:Int):=by unfold okZ;have:=lx.2;simp only [Int.natAbs_natCast];omega
 have hDy:okZ (y.den:Int):=by unfold okZ;have:=ly.2;simp only [Int.natAbs_natCast];omega
 have t1:=cTimes x.num y.den (by unfold okZ;omega) hDy
 have t2:=cTimes (x.den:Int) y.num hD (by unfold okZ;omega)
 rw [sg_nat y.den_nz] at t1
 rw [sg_nat x.den_nz] at t2
 simp only [Int.natAbs_natCast] at t1 t2
 have hden:((x.den:Int)*y.num)≠0:=Int.mul_ne_zero (by have:=x.den_nz;omega) hyn
 have hn:=cNewZ (Γ:=Γ) (x.num*y.den) (x.den*y.num) (by unfold okZ;simp only [Int.natAbs_natCast] at l1;omega) hden (by unfold okZ;simp only [Int.natAbs_natCast] at l4;omega)
 rw [rat_div]
 refine CallsD.run [] Go.Proofs.Tryz.func62 rfl rfl rfl ?_;simp only [Go.Proofs.Tryz.f62];refine hgR ?_
 repeat' ((first | refine hfk ?_ ?_<;>intros | refine hik ?_ | with_reducible first | refine hcall (qRight x (by omega)) ?_ | refine hcalle (qRight x (by omega)) ?_ | refine hcall (qRight y (by omega)) ?_ | refine hcalle (qRight y (by omega)) ?_ | refine hcall (toD t1) ?_ | refine hcalle (toD t1) ?_ | refine hcall (toD t2) ?_ | refine hcalle (toD t2) ?_ | refine hcall (hn) ?_ | refine hcalle (hn) ?_)<;>refine hgS ?_)
 exact RLe.ofEq rfl
end Go.Hp.T

namespace Go.Hp.T
open Go Go.RowKit Go.Slot Go.Hp
set_option maxRecDepth 10000
structure Un where
 d:Dm
 f:Rat
abbrev unC (u:Un):List Cell:=[cI u.d.a,cI u.d.b,cI u.d.c,cI u.d.d,cI u.d.e,cI u.d.f,.raw (.int .i64 (sg u.f.num)),.ints .i64 (dig u.f.num.natAbs),.raw (.int .i64 1),.ints .i64 (dig u.f.den)]
abbrev unZ:List Cell:=[cI 0,cI 0,cI 0,cI 0,cI 0,cI 0,cI 0,.zc,cI 0,.zc]
def unO:Option Un→List Cell
 | some u=>unC u
 | none=>unZ
def baseD (b e:Int):Dm:=⟨bif decide (b=0) then e else 0,bif decide (b=1) then e else 0,bif decide (b=2) then e else 0,bif decide (b=3) then e else 0,bif decide (b=4) then e else 0,bif decide (b=5) then e else 0⟩
def unOf (b e p q:Int):Un:=⟨baseD b e,Rat.divInt p q⟩
def symF (s:ByteArray):Option Un:=
 bif seq s ⟨#[103]⟩ then some (unOf 0 1 1 1) else
 bif seq s ⟨#[116]⟩ then some (unOf 0 1 1000000 1) else
 bif seq s ⟨#[109]⟩ then some (unOf 1 1 1 1) else
 bif seq s ⟨#[108]⟩ then some (unOf 1 3 1 1000) else
 bif seq s ⟨#[115]⟩ then some (unOf 2 1 1 1) else
 bif seq s ⟨#[104]⟩ then some (unOf 2 1 3600 1) else
 bif seq s ⟨#[100]⟩ then some (unOf 2 1 86400 1) else
 bif seq s ⟨#[74]⟩ then some (unOf 3 1 1 1) else
 bif seq s ⟨#[87,104]⟩ then some (unOf 3 1 3600 1) else
 bif seq s ⟨#[99,101,110,116]⟩ then some (unOf 4 1 1 1) else
 bif seq s ⟨#[101,117,114]⟩ then some (unOf 4 1 100 1) else
 bif seq s ⟨#[112,99]⟩ then some (unOf 5 1 1 1) else none
def sDrop (s:ByteArray) (i:Nat):ByteArray:=s.extract i s.size
def sTake (s:ByteArray) (i:Nat):ByteArray:=s.extract 0 i
def preF (c:Int):Option (Int×Int):=bif decide (c=107) then some (1000,1) else bif decide (c=77) then some (1000000,1) else bif decide (c=71) then some (1000000000,1) else bif decide (c=109) then some (1,1000) else none
def preO:Option (Int×Int)→Int×Int
 | some p=>p
 | none=>(0,0)
def prefixedF (s:ByteArray):Bool:=seq s ⟨#[103]⟩||seq s ⟨#[109]⟩||seq s ⟨#[108]⟩||seq s ⟨#[115]⟩||seq s ⟨#[74]⟩||seq s ⟨#[87,104]⟩
theorem sDrop_size (s:ByteArray) (i:Nat):(sDrop s i).size=s.size-i:=by unfold sDrop;simp
theorem sTake_size (s:ByteArray) (i:Nat) (h:i≤s.size):(sTake s i).size=i:=by unfold sTake;simp;omega
structure It where
 w:ByteArray
 e:Int
instance:Inhabited It:=⟨⟨⟨#[]⟩,0⟩⟩
def It.C (x:It):List Cell:=[cS x.w,cI x.e]
abbrev itC (x:It):List Cell:=[cS x.w,cI x.e]
theorem It.C_eq (x:It):x.C=itC x:=rfl
attribute [go_sem] It.C_eq
def cutRest (s:ByteArray):ByteArray:=sDrop s (spanF isLetter s)
def cutDig (s:ByteArray):Bool:=decide (¬(cutRest s).size=0)&&decide (50≤byteAt (cutRest s) 0)&&decide (byteAt (cutRest s) 0≤57)
def cutIt (s:ByteArray):It:=⟨sTake s (spanF isLetter s),bif cutDig s then byteAt (cutRest s) 0-48 else 1⟩
def cutAfter (s:ByteArray):ByteArray:=bif cutDig s then sDrop (cutRest s) 1 else cutRest s
def cutOk' (s:ByteArray):Bool:=decide (0<(spanF isLetter s:Int))
def uWordF (s:ByteArray):Option Un:=
 bif (symF s).isSome then symF s else
 bif !(preF (byteAt s 0)).isSome||!(symF (sDrop s 1)).isSome||!prefixedF (sDrop s 1) then none else
 match preF (byteAt s 0),symF (sDrop s 1) with
 | some p,some u=>some ⟨u.d,u.f*Rat.divInt p.1 p.2⟩
 | _,_=>none
def iter {α:Type} (g:α→α):Nat→α→α
 | 0,a=>a
 | n+1,a=>iter g n (g a)
theorem iter_succ {α:Type} (g:α→α):∀(n:Nat) (a:α),iter g (n+1) a=g (iter g n a)
 | 0,_=>rfl
 | n+1,a=>by rw [iter,iter_succ g n (g a),iter]
def timesF (a f:Rat) (e:Int):Rat:=bif decide (0<e) then iter (· * f) e.natAbs a else iter (· / f) e.natAbs a
theorem qs_mul (x y:Rat):qs (x*y)≤qs x+qs y:=Fc.sz_mul_of x y
theorem qs_inv (x:Rat):qs x⁻¹≤qs x+1:=by
 by_cases h:x=0
 · subst h;rw [Rat.inv_zero];exact Nat.le_succ _
 · show (Fc.of x⁻¹).sz≤(Fc.of x).sz+1
   have hn:x.num≠0:=fun e=>h (Rat.num_eq_zero.1 e)
   rw [Fc.sz_of,Fc.sz_of,Rat.num_inv,Rat.den_inv,if_neg hn]
   have:(x.num.sign*(x.den:Int)).natAbs=x.den:=by
    rw [Int.natAbs_mul,Int.natAbs_sign]
    simp [hn]
   rw [this]
   omega
theorem qs_div (x y:Rat):qs (x / y)≤qs x+qs y+1:=by
 rw [Rat.div_def]
 have:=qs_mul x y⁻¹
 have:=qs_inv y
 omega
def Dm.in03 (d:Dm):Prop:=(0≤d.a∧d.a≤3)∧(0≤d.b∧d.b≤3)∧(0≤d.c∧d.c≤3)∧(0≤d.d∧d.d≤3)∧(0≤d.e∧d.e≤3)∧(0≤d.f∧d.f≤3)
theorem divInt_sm {p q:Int} (hp:1≤p∧p≤1000000000) (hq:1≤q∧q≤1000000000):qs (Rat.divInt p q)≤4∧Rat.divInt p q≠0:=by
 obtain ⟨n,rfl⟩:∃ n:Nat,q=n:=⟨q.toNat,by omega⟩
 rw [Rat.divInt_ofNat]
 refine ⟨?_,(Rat.mkRat_ne_zero (by omega)).2 (by omega)⟩
 have:=Fc.sz_mkRat p n (by omega)
 have h1:=Slot.T.dig_small (n:=p.natAbs) (by omega)
 have h2:=Slot.T.dig_small (n:=n) (by omega)
 show (Fc.of _).sz≤4
 omega
theorem baseD_in {b e:Int} (he:0≤e∧e≤3):(baseD b e).in03:=by
 have key:∀ p:Bool,0≤(bif p then e else 0)∧(bif p then e else 0)≤3:=fun p=>by cases p<;>simp<;>omega
 exact ⟨key _,key _,key _,key _,key _,key _⟩
theorem unOf_sm {b e p q:Int} (he:0≤e∧e≤3) (hp:1≤p∧p≤1000000000) (hq:1≤q∧q≤1000000000):(unOf b e p q).d.in03∧qs (unOf b e p q).f≤4∧(unOf b e p q).f≠0:=⟨baseD_in he,divInt_sm hp hq⟩
theorem symF_sm {s:ByteArray} {u:Un} (h:symF s=some u):u.d.in03∧qs u.f≤4∧u.f≠0:=by
 unfold symF at h
 repeat' first
  | (cases h;exact unOf_sm (by omega) (by omega) (by omega))
  | (cases hc:seq s _<;>rw [hc] at h<;>simp only [cond_true,cond_false] at h)
 cases h
theorem preF_sm {c:Int} {p:Int×Int} (h:preF c=some p):(1≤p.1∧p.1≤1000000000)∧(1≤p.2∧p.2≤1000000000):=by
 unfold preF at h
 repeat' first
  | (cases h;done)
  | (cases h;simp;done)
  | (cases hc:decide (c=_)<;>rw [hc] at h<;>simp only [cond_true,cond_false] at h)
theorem uWordF_sm {s:ByteArray} {u:Un} (h:uWordF s=some u):u.d.in03∧qs u.f≤8∧u.f≠0:=by
 unfold uWordF at h
 cases h1:(symF s).isSome with
 | true=>
  rw [h1,cond_true] at h
  obtain ⟨a,b,c⟩:=symF_sm h
  exact ⟨a,by omega,c⟩
 | false=>
  rw [h1,cond_false] at h
  cases h2:(!(preF (byteAt s 0)).isSome||!(symF (sDrop s 1)).isSome||!prefixedF (sDrop s 1)) with
  | true=>rw [h2,cond_true] at h;cases h
  | false=>
   rw [h2,cond_false] at h
   split at h
   · rename_i p v hp hv
     cases h
     obtain ⟨a,b,c⟩:=symF_sm hv
     obtain ⟨d,e⟩:=preF_sm hp
     obtain ⟨f,g⟩:=divInt_sm d e
     refine ⟨a,?_,?_⟩
     · have:=qs_mul v.f (Rat.divInt p.1 p.2)
       show qs (v.f*_)≤8
       omega
     · exact fun h0=>by
        rcases Rat.mul_eq_zero.1 h0 with h0 | h0
        · exact c h0
        · exact g h0
   · cases h
def pw (a f:Rat) (x:Int) (i:Nat):Rat:=bif decide (0<x) then iter (· * f) i a else iter (· / f) i a
theorem pw_zero (a f:Rat) (x:Int):pw a f x 0=a:=by unfold pw;cases decide (0<x)<;>rfl
theorem pw_pos {a f:Rat} {x:Int} (h:0<x) (i:Nat):pw a f x (i+1)=pw a f x i*f:=by unfold pw;rw [decide_eq_true h];exact iter_succ _ _ _
theorem pw_neg {a f:Rat} {x:Int} (h:¬0<x) (i:Nat):pw a f x (i+1)=pw a f x i / f:=by unfold pw;rw [decide_eq_false h];exact iter_succ _ _ _
theorem pw_qs (a f:Rat) (x:Int):∀ i,qs (pw a f x i)≤qs a+i*(qs f+1)
 | 0=>by rw [pw_zero];omega
 | i+1=>by
  have ih:=pw_qs a f x i
  rw [Nat.add_mul,Nat.one_mul]
  by_cases h:0<x
  · rw [pw_pos h]
    have:=qs_mul (pw a f x i) f
    omega
  · rw [pw_neg h]
    have:=qs_div (pw a f x i) f
    omega
theorem timesF_pw (a f:Rat) (x:Int):timesF a f x=pw a f x x.natAbs:=rfl
theorem cutIt_e (s:ByteArray):1≤(cutIt s).e∧(cutIt s).e≤9:=by
 unfold cutIt
 cases h:cutDig s with
 | false=>simp
 | true=>
  simp only [cutDig,Bool.and_eq_true,decide_eq_true_eq] at h
  simp only [cond_true]
  omega
theorem cutAfter_size (s:ByteArray):(cutAfter s).size≤s.size:=by
 unfold cutAfter cutRest
 cases cutDig s<;>simp only [cond_true,cond_false,sDrop_size]<;>omega
def sgnIt (c:Int) (x:It):It:=bif decide (c=47) then ⟨x.w,0-x.e⟩ else x
def hasPre (s p:ByteArray):Bool:=decide ((p.size:Int)≤s.size)&&seq (sTake s p.size) p
def itemsStart (s:ByteArray):ByteArray:=bif hasPre s ⟨#[49]⟩ then sDrop s 1 else ⟨#[42]⟩++s
def itemsL:Nat→ByteArray→List It→Option (List It)
 | 0,_,_=>none
 | n+1,r,acc=>bif decide (r.size=0) then some acc else
  bif !cutOk' (sDrop r 1)||(decide (¬byteAt r 0=42)&&decide (¬byteAt r 0=47)) then none else
  itemsL n (cutAfter (sDrop r 1)) (acc++[sgnIt (byteAt r 0) (cutIt (sDrop r 1))])
def itemsF (s:ByteArray):Option (List It):=bif decide (s.size=0) then some [] else bif decide (40<(s.size:Int)) then none else itemsL (s.size+2) (itemsStart s) []
def itO:Option (List It)→List It
 | some l=>l
 | none=>[]
def It.ok (x:It):Prop:=1≤x.w.size∧x.w.size≤1000∧-9≤x.e∧x.e≤9
theorem sgnIt_ok {r:ByteArray} (h:cutOk' r=true) (hr:r.size≤1000) (c:Int):(sgnIt c (cutIt r)).ok:=by
 have he:=cutIt_e r
 have hw:(cutIt r).w.size=spanF isLetter r:=sTake_size _ _ (spanF_le _ _)
 have hl:=spanF_le isLetter r
 have h0:1≤spanF isLetter r:=by
  have:(0:Int)<(spanF isLetter r:Int):=by simpa [cutOk'] using h
  omega
 unfold sgnIt
 cases decide (c=47)
 · exact ⟨by simp only [cond_false];omega,by simp only [cond_false];omega,by simp only [cond_false];omega,by simp only [cond_false];omega⟩
 · exact ⟨by simp only [cond_true];omega,by simp only [cond_true];omega,by simp only [cond_true];omega,by simp only [cond_true];omega⟩
theorem itemsL_ok : ∀ (n : Nat) (r : ByteArray) (acc l : List It), itemsL n r acc = some l → r.size ≤ 1000 → (∀ x ∈ acc, x.ok) → l.length ≤ acc.length + r.size ∧ ∀ x ∈ l, x.ok
 | 0,_,_,_,h,_,_=>by cases h
 | n + 1, r, acc, l, h, hr, ha => by
  rw [itemsL] at h
  by_cases h0:r.size=0
  · rw [decide_eq_true h0,cond_true] at h;cases h;exact ⟨by omega,ha⟩
  · rw [decide_eq_false h0, cond_false] at h
    cases hb:(!cutOk' (sDrop r 1)||(decide (¬byteAt r 0=42)&&decide (¬byteAt r 0=47))) with
    | true=>rw [hb,cond_true] at h;cases h
    | false=>
     rw [hb,cond_false] at h
     have hok:cutOk' (sDrop r 1)=true:=by
      cases hc:cutOk' (sDrop r 1) with
      | true=>rfl
      | false=>rw [hc] at hb;simp at hb
     have hd:=sDrop_size r 1
     have hcs:=cutAfter_size (sDrop r 1)
     obtain ⟨h1,h2⟩:=itemsL_ok n _ _ _ h (by omega) (fun x hx=>by
      rcases List.mem_append.1 hx with hx | hx
      · exact ha x hx
      · simp at hx;subst hx;exact sgnIt_ok hok (by omega) _)
     refine ⟨?_,h2⟩
     rw [List.length_append,List.length_singleton] at h1
     omega
theorem itemsF_ok {s : ByteArray} {l : List It} (h : itemsF s = some l) : l.length ≤ 41 ∧ ∀ x ∈ l, x.ok := by
 unfold itemsF at h
 by_cases h0:s.size=0
 · rw [decide_eq_true h0,cond_true] at h;cases h;simp
 · rw [decide_eq_false h0, cond_false] at h
   by_cases h1:40<(s.size:Int)
   · rw [decide_eq_true h1,cond_true] at h;cases h
   · rw [decide_eq_false h1,cond_false] at h
     have hsz:(itemsStart s).size≤s.size+1:=by
      unfold itemsStart
      have h42:(⟨#[42]⟩:ByteArray).size=1:=rfl
      cases hasPre s ⟨#[49]⟩
      · simp only [cond_false,ByteArray.size_append];omega
      · simp only [cond_true,sDrop_size];omega
     obtain ⟨a,b⟩:=itemsL_ok _ _ _ _ h (by omega) (fun x hx=>by cases hx)
     exact ⟨by simp at a;omega,b⟩
def Dm.acc (x y:Dm) (e:Int):Dm:=⟨x.a+y.a*e,x.b+y.b*e,x.c+y.c*e,x.d+y.d*e,x.e+y.e*e,x.f+y.f*e⟩
def readL:List It→Un→Option Un
 | [],u=>some u
 | x::l,u=>match uWordF x.w with
  | none=>none
  | some v=>readL l ⟨u.d.acc v.d x.e,timesF u.f v.f x.e⟩
def uReadF (s:ByteArray):Option Un×Int:=match itemsF s with
 | none=>(none,12)
 | some l=>match readL l ⟨Dm.zero,(1:Int)⟩ with
  | none=>(none,11)
  | some u=>bif dRight u.d then (some u,0) else (none,3)
def Dm.le (d:Dm) (n:Int):Prop:=(-n≤d.a∧d.a≤n)∧(-n≤d.b∧d.b≤n)∧(-n≤d.c∧d.c≤n)∧(-n≤d.d∧d.d≤n)∧(-n≤d.e∧d.e≤n)∧(-n≤d.f∧d.f≤n)
theorem mul27 {a e:Int} (ha:0≤a∧a≤3) (he:-9≤e∧e≤9):-27≤a*e∧a*e≤27:=by
 have:a=0∨a=1∨a=2∨a=3:=by omega
 rcases this with rfl | rfl | rfl | rfl<;>omega
theorem Dm.acc_le {x y:Dm} {e n:Int} (hx:x.le n) (hy:y.in03) (he:-9≤e∧e≤9):(x.acc y e).le (n+27):=by
 obtain ⟨a1,a2,a3,a4,a5,a6⟩:=hx
 obtain ⟨b1,b2,b3,b4,b5,b6⟩:=hy
 have c1:=mul27 b1 he
 have c2:=mul27 b2 he
 have c3:=mul27 b3 he
 have c4:=mul27 b4 he
 have c5:=mul27 b5 he
 have c6:=mul27 b6 he
 unfold Dm.le Dm.acc
 simp only
 omega
theorem qs_one:qs ((1:Int):Rat)≤1:=by
 show max (dig (1:Nat)).length (dig (1:Nat)).length≤1
 have:=dig_len (n:=1) (k:=1) (by decide)
 omega
def dmO:Option Un→Dm
 | some u=>u.d
 | none=>Dm.zero
def fcO (i:Nat):Option Un→Cell
 | some u=>(fQ u.f).getD i .zc
 | none=>[cI 0,.zc,cI 0,.zc].getD i .zc
abbrev unX (o:Option Un):List Cell:=[cI (dmO o).a,cI (dmO o).b,cI (dmO o).c,cI (dmO o).d,cI (dmO o).e,cI (dmO o).f,fcO 0 o,fcO 1 o,fcO 2 o,fcO 3 o]
theorem unO_eq (o:Option Un):unO o=unX o:=by cases o<;>rfl
end Go.Hp.T

namespace Go.Hp.T
open Go Go.RowKit Go.Slot Go.Hp Go.Slot.T
open Go.Proofs.Tryz (prog)
set_option maxRecDepth 10000
set_option maxHeartbeats 4000000
variable {Γ:List (Nat×List Cell)}
theorem cULetter (c:Int):CallsD Γ prog 88 [.one (c8 c)] (.one (cB (isLetter c))):=by
 refine CallsD.run [] Go.Proofs.Tryz.func88 rfl rfl rfl ?_;simp only [Go.Proofs.Tryz.f88];refine hgR ?_
 repeat' ((first | refine hfk ?_ ?_<;>intros | refine hik ?_)<;>refine hgS ?_)
 all_goals (refine RLe.ofEq ?_;conv=>simp only [Bool.and_true,Bool.true_and,Bool.and_false,Bool.false_and,Bool.or_true,Bool.true_or,Bool.or_false,Bool.false_or,Bool.not_true,Bool.not_false,decide_true,decide_false,not_true_eq_false,not_false_eq_true,bnot_decide,if_true,if_false,Bool.and_self,Bool.or_self,cond_true,cond_false,List.length_map,ne_eq,Int.reduceEq,Int.reduceLT,Int.reduceLE, *,isLetter]);first | exact trivial | rfl
theorem cUnOf (b e p q:Int) (hb:b=0∨b=1∨b=2∨b=3∨b=4∨b=5) (hp:inI p) (hq:inI q) (hq0:q≠0):CallsD Γ prog 90 [.one (cI b),.one (cI e),.one (cI p),.one (cI q)] (.agg (unC (unOf b e p q))):=by
 rcases hb with rfl | rfl | rfl | rfl | rfl | rfl
 all_goals
  refine CallsD.run [] Go.Proofs.Tryz.func90 rfl rfl rfl ?_;simp only [Go.Proofs.Tryz.f90];refine hgR ?_
  repeat' ((first | refine hfk ?_ ?_<;>intros | refine hik ?_ | with_reducible first | refine hcall (qOf p q hp hq hq0) ?_ | refine hcalle (qOf p q hp hq hq0) ?_)<;>refine hgS ?_)
  exact RLe.ofEq rfl
theorem cSymbol (s:ByteArray):CallsD Γ prog 57 [.one (cS s)] (.tup [.agg (unO (symF s)),.one (cB (symF s).isSome)]):=by
 have h1:=cUnOf (Γ:=Γ) 0 1 1 1 (by decide) (by decide) (by decide) (by decide)
 have h2:=cUnOf (Γ:=Γ) 0 1 1000000 1 (by decide) (by decide) (by decide) (by decide)
 have h3:=cUnOf (Γ:=Γ) 1 1 1 1 (by decide) (by decide) (by decide) (by decide)
 have h4:=cUnOf (Γ:=Γ) 1 3 1 1000 (by decide) (by decide) (by decide) (by decide)
 have h5:=cUnOf (Γ:=Γ) 2 1 1 1 (by decide) (by decide) (by decide) (by decide)
 have h6:=cUnOf (Γ:=Γ) 2 1 3600 1 (by decide) (by decide) (by decide) (by decide)
 have h7:=cUnOf (Γ:=Γ) 2 1 86400 1 (by decide) (by decide) (by decide) (by decide)
 have h8:=cUnOf (Γ:=Γ) 3 1 1 1 (by decide) (by decide) (by decide) (by decide)
 have h9:=cUnOf (Γ:=Γ) 3 1 3600 1 (by decide) (by decide) (by decide) (by decide)
 have h10:=cUnOf (Γ:=Γ) 4 1 1 1 (by decide) (by decide) (by decide) (by decide)
 have h11:=cUnOf (Γ:=Γ) 4 1 100 1 (by decide) (by decide) (by decide) (by decide)
 have h12:=cUnOf (Γ:=Γ) 5 1 1 1 (by decide) (by decide) (by decide) (by decide)
 refine CallsD.run [] Go.Proofs.Tryz.func57 rfl rfl rfl ?_;simp only [Go.Proofs.Tryz.f57];refine hgR ?_
 repeat' ((first | refine hfk ?_ ?_<;>intros | refine hik ?_ | with_reducible first | refine hcall (h1) ?_ | refine hcalle (h1) ?_ | refine hcall (h2) ?_ | refine hcalle (h2) ?_ | refine hcall (h3) ?_ | refine hcalle (h3) ?_ | refine hcall (h4) ?_ | refine hcalle (h4) ?_ | refine hcall (h5) ?_ | refine hcalle (h5) ?_ | refine hcall (h6) ?_ | refine hcalle (h6) ?_ | refine hcall (h7) ?_ | refine hcalle (h7) ?_ | refine hcall (h8) ?_ | refine hcalle (h8) ?_ | refine hcall (h9) ?_ | refine hcalle (h9) ?_ | refine hcall (h10) ?_ | refine hcalle (h10) ?_ | refine hcall (h11) ?_ | refine hcalle (h11) ?_ | refine hcall (h12) ?_ | refine hcalle (h12) ?_)<;>refine hgS ?_)
 all_goals (refine RLe.ofEq ?_;conv=>simp only [Bool.and_true,Bool.true_and,Bool.and_false,Bool.false_and,Bool.or_true,Bool.true_or,Bool.or_false,Bool.false_or,Bool.not_true,Bool.not_false,decide_true,decide_false,not_true_eq_false,not_false_eq_true,bnot_decide,if_true,if_false,Bool.and_self,Bool.or_self,cond_true,cond_false,List.length_map,ne_eq,Int.reduceEq,Int.reduceLT,Int.reduceLE, *,symF,unO,Option.isSome]);first | exact trivial | rfl
theorem cPrefix (c:Int):CallsD Γ prog 58 [.one (c8 c)] (.tup [.one (cI (preO (preF c)).1),.one (cI (preO (preF c)).2),.one (cB (preF c).isSome)]):=by
 refine CallsD.run [] Go.Proofs.Tryz.func58 rfl rfl rfl ?_;simp only [Go.Proofs.Tryz.f58];refine hgR ?_
 repeat' ((first | refine hfk ?_ ?_<;>intros | refine hik ?_)<;>refine hgS ?_)
 all_goals (refine RLe.ofEq ?_;conv=>simp only [Bool.and_true,Bool.true_and,Bool.and_false,Bool.false_and,Bool.or_true,Bool.true_or,Bool.or_false,Bool.false_or,Bool.not_true,Bool.not_false,decide_true,decide_false,not_true_eq_false,not_false_eq_true,bnot_decide,if_true,if_false,Bool.and_self,Bool.or_self,cond_true,cond_false,List.length_map,ne_eq,Int.reduceEq,Int.reduceLT,Int.reduceLE, *,preF,preO,Option.isSome]);first | exact trivial | rfl
theorem cPrefixed (s:ByteArray):CallsD Γ prog 59 [.one (cS s)] (.one (cB (prefixedF s))):=by
 refine CallsD.run [] Go.Proofs.Tryz.func59 rfl rfl rfl ?_;simp only [Go.Proofs.Tryz.f59];refine hgR ?_
 repeat' ((first | refine hfk ?_ ?_<;>intros | refine hik ?_)<;>refine hgS ?_)
 all_goals (refine RLe.ofEq ?_;conv=>simp only [Bool.and_true,Bool.true_and,Bool.and_false,Bool.false_and,Bool.or_true,Bool.true_or,Bool.or_false,Bool.false_or,Bool.not_true,Bool.not_false,decide_true,decide_false,not_true_eq_false,not_false_eq_true,bnot_decide,if_true,if_false,Bool.and_self,Bool.or_self,cond_true,cond_false,List.length_map,ne_eq,Int.reduceEq,Int.reduceLT,Int.reduceLE, *,prefixedF]);first | exact trivial | rfl
theorem sExt (s:ByteArray) (i:Nat):s.extract 0 i=sTake s i:=rfl
theorem sExt' (s:ByteArray) (i:Nat):s.extract i s.size=sDrop s i:=rfl
attribute [go_sem] sExt sExt'
theorem cHasPrefix (s p:ByteArray) (_hs:s.size≤1073741824) (hp:p.size≤1073741824):CallsD Γ prog 112 [.one (cS s),.one (cS p)] (.one (cB (hasPre s p))):=by
 refine CallsD.run [] Go.Proofs.Tryz.func112 rfl rfl rfl ?_;simp only [Go.Proofs.Tryz.f112];refine hgR ?_
 repeat' ((first | refine hfk ?_ ?_<;>intros | refine hik ?_)<;>refine hgS ?_)
 all_goals (refine RLe.ofEq ?_;conv=>simp only [Bool.and_true,Bool.true_and,Bool.and_false,Bool.false_and,Bool.or_true,Bool.true_or,Bool.or_false,Bool.false_or,Bool.not_true,Bool.not_false,decide_true,decide_false,not_true_eq_false,not_false_eq_true,bnot_decide,if_true,if_false,Bool.and_self,Bool.or_self,cond_true,cond_false,List.length_map,ne_eq,Int.reduceEq,Int.reduceLT,Int.reduceLE, *,hasPre]);first | exact trivial | rfl
theorem cCutPrefix' (s p:ByteArray) (hs:s.size≤1073741824) (hp:p.size≤1073741824):CallsD Γ prog 87 [.one (cS s),.one (cS p)] (.tup [.one (cS (bif hasPre s p then sDrop s p.size else s)),.one (cB (hasPre s p))]):=by
 refine CallsD.run [] Go.Proofs.Tryz.func87 rfl rfl rfl ?_;simp only [Go.Proofs.Tryz.f87];refine hgR ?_
 refine hcall (cHasPrefix s p hs hp) ?_
 refine hg ?_
 refine condN (fun h=>?_) (fun h=>?_)
 · refine hg ?_
   (refine RLe.ofEq ?_;conv=>simp only [Bool.and_true,Bool.true_and,Bool.and_false,Bool.false_and,Bool.or_true,Bool.true_or,Bool.or_false,Bool.false_or,Bool.not_true,Bool.not_false,decide_true,decide_false,not_true_eq_false,not_false_eq_true,bnot_decide,if_true,if_false,Bool.and_self,Bool.or_self,cond_true,cond_false,List.length_map,ne_eq,Int.reduceEq,Int.reduceLT,Int.reduceLE, *]);first | exact trivial | rfl
 · have hle:p.size≤s.size:=by
    simp only [hasPre,Bool.and_eq_true,decide_eq_true_eq] at h
    omega
   refine hg ?_
   (refine RLe.ofEq ?_;conv=>simp only [Bool.and_true,Bool.true_and,Bool.and_false,Bool.false_and,Bool.or_true,Bool.true_or,Bool.or_false,Bool.false_or,Bool.not_true,Bool.not_false,decide_true,decide_false,not_true_eq_false,not_false_eq_true,bnot_decide,if_true,if_false,Bool.and_self,Bool.or_self,cond_true,cond_false,List.length_map,ne_eq,Int.reduceEq,Int.reduceLT,Int.reduceLE, *]);first | exact trivial | rfl
theorem cCutPrefix (s p:ByteArray) (hs:s.size≤1073741824) (hp:p.size≤1073741824):CallsD Γ prog 54 [.one (cS s),.one (cS p)] (.tup [.one (cS (bif hasPre s p then sDrop s p.size else s)),.one (cB (hasPre s p))]):=by
 refine CallsD.run [] Go.Proofs.Tryz.func54 rfl rfl rfl ?_;simp only [Go.Proofs.Tryz.f54];refine hgR ?_
 repeat' ((first | refine hfk ?_ ?_<;>intros | refine hik ?_ | with_reducible first | refine hcall (cCutPrefix' s p hs hp) ?_ | refine hcalle (cCutPrefix' s p hs hp) ?_)<;>refine hgS ?_)
 all_goals (refine RLe.ofEq ?_;conv=>simp only [Bool.and_true,Bool.true_and,Bool.and_false,Bool.false_and,Bool.or_true,Bool.true_or,Bool.or_false,Bool.false_or,Bool.not_true,Bool.not_false,decide_true,decide_false,not_true_eq_false,not_false_eq_true,bnot_decide,if_true,if_false,Bool.and_self,Bool.or_self,cond_true,cond_false,List.length_map,ne_eq,Int.reduceEq,Int.reduceLT,Int.reduceLE, *]);first | exact trivial | rfl
theorem cCut (s:ByteArray) (hs:s.size≤1073741824):CallsD Γ prog 55 [.one (cS s)] (.tup [.agg (itC (cutIt s)),.one (cS (cutAfter s)),.one (cB (cutOk' s))]):=by
 refine CallsD.run [] Go.Proofs.Tryz.func55 rfl rfl rfl ?_;simp only [Go.Proofs.Tryz.f55];refine hgR ?_
 refine hloop [0,2] (fun n:Nat=>[(5,.one (.dat (cI n)))]) (fun _=>[.box [.dat (cS ⟨⟨[]⟩⟩),.dat (cI 0)] (some 76)]) (fun n=>n≤s.size∧∀ j,j<n→isLetter (byteAt s j)=true) (fun n=>s.size-n) 0 ⟨Nat.zero_le _,fun j hj=>by omega⟩ ?_ ?_
 · refine hg ?_
   exact StH.same (by repeat' first | exact .nil | refine .cons (by first | exact .refl _ | exact .any _) ?_) rfl
 intro n hn
 obtain ⟨hn,hj⟩:=hn
 refine hg ?_
 refine guardD (fun hlt hd=>?_) (fun hlt _=>?_)
 · conv=>simp (maxSteps:=2000000) (disch:=omega) only [go_sem,Nat.reduceAdd,Nat.reduceSub,Nat.reduceMul,Int.reduceToNat,Nat.reduceEqDiff,Nat.reduceBEq,Nat.reduceBneDiff,Nat.reduceLT,Int.reduceEq,Int.reduceLT,Int.reduceLE,Int.reduceNeg,Int.reduceAdd,Int.reduceSub,Int.reduceMul,hd]
   refine hcall (cULetter _) ?_
   refine hg ?_
   refine condT (fun h1=>?_) (fun h1=>?_)
   · refine hg ?_
     refine ⟨n+1,⟨by omega,fun j hj'=>?_⟩,by omega,StH.same (by repeat' first | exact .nil | refine .cons (by first | exact .refl _ | exact .any _) ?_) rfl⟩
     rcases Nat.lt_or_eq_of_le (Nat.le_of_lt_succ hj') with h2 | h2
     · exact hj j h2
     · rw [h2];exact h1
   · have hsp:=spanF_eq hn hj (.inr h1)
     clear h1
     refine hg ?_
     repeat' ((first | refine hfk ?_ ?_<;>intros | refine hik ?_)<;>refine hgS ?_)
     all_goals (refine RLe.ofEq ?_;conv=>simp only [Bool.and_true,Bool.true_and,Bool.and_false,Bool.false_and,Bool.or_true,Bool.true_or,Bool.or_false,Bool.false_or,Bool.not_true,Bool.not_false,decide_true,decide_false,not_true_eq_false,not_false_eq_true,bnot_decide,if_true,if_false,Bool.and_self,Bool.or_self,cond_true,cond_false,List.length_map,ne_eq,Int.reduceEq,Int.reduceLT,Int.reduceLE, *,cutIt,cutAfter,cutDig,cutRest,cutOk',hsp]);first | exact trivial | rfl
 · have hsp:=spanF_eq hn hj (.inl (by omega))
   refine hgS ?_
   repeat' ((first | refine hfk ?_ ?_<;>intros | refine hik ?_)<;>refine hgS ?_)
   all_goals (refine RLe.ofEq ?_;conv=>simp only [Bool.and_true,Bool.true_and,Bool.and_false,Bool.false_and,Bool.or_true,Bool.true_or,Bool.or_false,Bool.false_or,Bool.not_true,Bool.not_false,decide_true,decide_false,not_true_eq_false,not_false_eq_true,bnot_decide,if_true,if_false,Bool.and_self,Bool.or_self,cond_true,cond_false,List.length_map,ne_eq,Int.reduceEq,Int.reduceLT,Int.reduceLE, *,cutIt,cutAfter,cutDig,cutRest,cutOk',hsp]);first | exact trivial | rfl
theorem cUWord (s:ByteArray) (hs:s.size≤1073741824) (h1:1≤s.size):CallsD Γ prog 32 [.one (cS s)] (.tup [.agg (unO (uWordF s)),.one (cB (uWordF s).isSome)]):=by
 refine CallsD.run [] Go.Proofs.Tryz.func32 rfl rfl rfl ?_;simp only [Go.Proofs.Tryz.f32];refine hgR ?_
 refine hcall (cSymbol s) ?_
 cases hy:symF s with
 | some u=>
  conv=>simp (maxSteps:=2000000) (disch:=omega) only [go_sem,Nat.reduceAdd,Nat.reduceSub,Nat.reduceMul,Int.reduceToNat,Nat.reduceEqDiff,Nat.reduceBEq,Nat.reduceBneDiff,Nat.reduceLT,Int.reduceEq,Int.reduceLT,Int.reduceLE,Int.reduceNeg,Int.reduceAdd,Int.reduceSub,Int.reduceMul,unO,Option.isSome]
  exact RLe.ofEq (by simp only [uWordF,hy];rfl)
 | none=>
  conv=>simp (maxSteps:=2000000) (disch:=omega) only [go_sem,Nat.reduceAdd,Nat.reduceSub,Nat.reduceMul,Int.reduceToNat,Nat.reduceEqDiff,Nat.reduceBEq,Nat.reduceBneDiff,Nat.reduceLT,Int.reduceEq,Int.reduceLT,Int.reduceLE,Int.reduceNeg,Int.reduceAdd,Int.reduceSub,Int.reduceMul,unO,Option.isSome]
  refine hcall (cPrefix _) ?_
  refine hg ?_
  refine hcall (cSymbol _) ?_
  cases hp:preF (byteAt s 0) with
  | none=>
   cases hy2:symF (sDrop s 1)<;>
   · conv=>simp (maxSteps:=2000000) (disch:=omega) only [go_sem,Nat.reduceAdd,Nat.reduceSub,Nat.reduceMul,Int.reduceToNat,Nat.reduceEqDiff,Nat.reduceBEq,Nat.reduceBneDiff,Nat.reduceLT,Int.reduceEq,Int.reduceLT,Int.reduceLE,Int.reduceNeg,Int.reduceAdd,Int.reduceSub,Int.reduceMul,unO,Option.isSome]
     exact RLe.ofEq (by simp only [uWordF,hy,hp];rfl)
  | some p=>
   cases hy2:symF (sDrop s 1) with
   | none=>
    conv=>simp (maxSteps:=2000000) (disch:=omega) only [go_sem,Nat.reduceAdd,Nat.reduceSub,Nat.reduceMul,Int.reduceToNat,Nat.reduceEqDiff,Nat.reduceBEq,Nat.reduceBneDiff,Nat.reduceLT,Int.reduceEq,Int.reduceLT,Int.reduceLE,Int.reduceNeg,Int.reduceAdd,Int.reduceSub,Int.reduceMul,unO,Option.isSome]
    exact RLe.ofEq (by simp only [uWordF,hy,hp,hy2];rfl)
   | some u=>
    obtain ⟨_,hu1,_⟩:=symF_sm hy2
    obtain ⟨hp1,hp2⟩:=preF_sm hp
    obtain ⟨hf1,_⟩:=divInt_sm hp1 hp2
    conv=>simp (maxSteps:=2000000) (disch:=omega) only [go_sem,Nat.reduceAdd,Nat.reduceSub,Nat.reduceMul,Int.reduceToNat,Nat.reduceEqDiff,Nat.reduceBEq,Nat.reduceBneDiff,Nat.reduceLT,Int.reduceEq,Int.reduceLT,Int.reduceLE,Int.reduceNeg,Int.reduceAdd,Int.reduceSub,Int.reduceMul,unO,Option.isSome,preO]
    repeat' ((first | refine hfk ?_ ?_<;>intros | refine hik ?_ | with_reducible first | refine hcall (cPrefixed _) ?_ | refine hcalle (cPrefixed _) ?_ | refine hcall (qOf p.1 p.2 (by unfold inI;omega) (by unfold inI;omega) (by omega)) ?_ | refine hcalle (qOf p.1 p.2 (by unfold inI;omega) (by unfold inI;omega) (by omega)) ?_ | refine hcall (qMul _ _ (Nat.le_trans hu1 (by decide)) (Nat.le_trans hf1 (by decide))) ?_ | refine hcalle (qMul _ _ (Nat.le_trans hu1 (by decide)) (Nat.le_trans hf1 (by decide))) ?_)<;>refine hgS ?_)
    all_goals rename_i hq
    all_goals exact RLe.ofEq (by simp only [uWordF,hy,hp,hy2,hq];rfl)
theorem cTimes (a f:Rat) (x:Int) (hx:x.natAbs≤1000) (ha:qs a≤100000) (hf:qs f≤1000) (hf0:f≠0):CallsD Γ prog 33 [.agg (fQ a),.agg (fQ f),.one (cI x)] (.agg (fQ (timesF a f x))):=by
 refine CallsD.run [] Go.Proofs.Tryz.func33 rfl rfl rfl ?_;simp only [Go.Proofs.Tryz.f33];refine hgR ?_
 refine hloop [2,3,4,6,10] (fun i:Nat=>[(11,.one (.dat (cI i)))]) (fun i=>[.box ((fQ (pw a f x i)).map .dat) (some 47),.box ((fQ f).map .dat) (some 47),.box [.dat (cI 0),.dat .zc,.dat (cI 0),.dat .zc] (some 47)]) (fun i=>i≤x.natAbs) (fun i=>x.natAbs-i) 0 (Nat.zero_le _) ?_ ?_
 · refine hg ?_
   exact StH.same (by repeat' first | exact .nil | refine .cons (by first | exact .refl _ | exact .any _) ?_) (by rw [pw_zero])
 intro i hi
 have hq:=pw_qs a f x i
 have hm:i*(qs f+1)≤1000*1001:=Nat.mul_le_mul (by omega) (by omega)
 refine hg ?_
 refine condD (fun hlt _=>?_) (fun hlt _=>?_)
 · refine hg ?_
   refine condD (fun hp hd=>?_) (fun hp hd=>?_)
   · refine hg ?_
     refine hcall (qMul (pw a f x i) f (by omega) (by omega)) ?_
     refine hg ?_
     exact ⟨i+1,by omega,by omega,StH.same (by repeat' first | exact .nil | refine .cons (by first | exact .refl _ | exact .any _) ?_) (by rw [pw_pos hp])⟩
   · refine hg ?_
     refine hcall (qDiv (pw a f x i) f hf0 (by omega) (by omega)) ?_
     refine hg ?_
     exact ⟨i+1,by omega,by omega,StH.same (by repeat' first | exact .nil | refine .cons (by first | exact .refl _ | exact .any _) ?_) (by rw [pw_neg hp])⟩
 · refine hg ?_
   have e:i=x.natAbs:=by omega
   subst e
   exact RLe.ofEq rfl
theorem cItems (s:ByteArray) (hs:s.size≤1073741824):CallsD Γ prog 30 [.one (cS s)] (.tup [.one (.sl 2 ((itO (itemsF s)).map It.C)),.one (cB (itemsF s).isSome)]):=by
 have bad:∀ b,itemsF s=none→b=false→RLe (.tup [.one (.raw (.slice none 0 0)),.one (cB b)]) (.tup [.one (.sl 2 ((itO (itemsF s)).map It.C)),.one (cB (itemsF s).isSome)]):=fun b h hb=>by
  rw [h,hb];exact .tup (.cons (.one (.nilSl 2)) (.cons (.refl _) .nil))
 refine CallsD.run [(9,[.join])] Go.Proofs.Tryz.func30 rfl rfl rfl ?_;simp only [Go.Proofs.Tryz.f30];refine hgR ?_
 repeat' ((first | refine hfk ?_ ?_<;>intros | refine hik ?_)<;>refine hgS ?_)
 · exact .tup (.cons (.one (by rename_i h;simp only [itemsF,h];exact .nilSl 2)) (.cons (by rename_i h;simp only [itemsF,h];exact .refl _) .nil))
 · refine bad _ (by simp only [itemsF, *];rfl) rfl
 refine hcall (cCutPrefix _ _ hs (by decide)) ?_
 refine hgS ?_
 refine hjoin [2,3,4] (fun r:ByteArray=>[(5,.one (.dat (cS r)))]) (fun _=>[]) (fun r=>r=itemsStart s) ?_ ?_
 · refine hg ?_
   refine condN (fun h=>?_) (fun h=>?_)
   · refine hg ?_
     refine ⟨_,rfl,?_⟩
     simp only [itemsStart,h]
     exact StH.same (by repeat' first | exact .nil | refine .cons (by first | exact .refl _ | exact .any _) ?_) rfl
   · refine hg ?_
     refine ⟨_,rfl,?_⟩
     simp only [itemsStart,h]
     exact StH.same (by repeat' first | exact .nil | refine .cons (by first | exact .refl _ | exact .any _) ?_) rfl
 intro r0 hr0
 have h0:itemsF s=itemsL (s.size+2) r0 []:=by simp only [itemsF, *];rfl
 have hsz:r0.size≤s.size+1:=by
  rw [hr0]
  unfold itemsStart
  have h42:(⟨#[42]⟩:ByteArray).size=1:=rfl
  cases hasPre s ⟨#[49]⟩
  · simp only [cond_false,ByteArray.size_append];omega
  · simp only [cond_true,sDrop_size];omega
 clear hr0
 refine hg ?_
 refine hloop [2,3] (fun p:Nat×ByteArray×List It=>[(4,.one (.sl 0 2 0 p.2.2.length)),(5,.one (.dat (cS p.2.1)))]) (fun p=>[.arr (.sl 2 (p.2.2.map It.C)) 0 (some 76)])
  (fun p=>p.2.1.size<p.1∧p.2.1.size≤1073741824∧p.2.2.length+p.2.1.size≤100∧itemsL p.1 p.2.1 p.2.2=itemsF s) (fun p=>p.2.1.size) (s.size+2,r0,[]) ⟨by simp only;omega,by simp only;omega,by simp only [List.length_nil];omega,h0.symm⟩ ?_ ?_
 · refine hg ?_
   refine StH.trans (StH.empty (d:=4) (es:=2) (c:=.sl 2 []) (T:=some 76) rfl rfl (fun r hr=>by cases hr) rfl) ?_
   refine hg ?_
   exact StH.same (by repeat' first | exact .nil | refine .cons (by first | exact .refl _ | exact .any _) ?_) rfl
 rintro ⟨k,r,acc⟩ ⟨h1,h2,h3,h4⟩
 simp only at h1 h2 h3 h4
 clear h0 hsz
 obtain ⟨k,rfl⟩:∃ m,k=m+1:=⟨k-1,by omega⟩
 rw [itemsL] at h4
 refine hg ?_
 refine condD (fun hne _=>?_) (fun he _=>?_)
 · have hne':=decide_eq_false hne
   rw [hne',cond_false] at h4
   have hd':=sDrop_size r 1
   refine hg ?_
   have hcs:=cutAfter_size (sDrop r 1)
   have hce:=cutIt_e (sDrop r 1)
   rw [hd'] at hcs
   refine hcall (cCut (sDrop r 1) (by rw [hd'];omega)) ?_
   refine hg ?_
   have g1:(cutAfter (sDrop r 1)).size<k:=by omega
   have g2:(cutAfter (sDrop r 1)).size≤1073741824:=by omega
   have g3:∀ x:It,(acc++[x]).length+(cutAfter (sDrop r 1)).size≤100:=fun x=>by rw [List.length_append,List.length_singleton];omega
   have g4:(cutAfter (sDrop r 1)).size<r.size:=by omega
   have hmap:∀ x:It,acc.map It.C++[itC x]=(acc++[x]).map It.C:=fun x=>by simp;rfl
   repeat' ((first | refine hfk ?_ ?_<;>intros | refine hik ?_)<;>refine hgS ?_)
   · exact bad _ (by rw [←h4];simp only [*];rfl) rfl
   · rename_i h47 _
     have h4':itemsL k (cutAfter (sDrop r 1)) (acc++[⟨(cutIt (sDrop r 1)).w,0-(cutIt (sDrop r 1)).e⟩])=itemsF s:=by
      rw [←h4];simp only [*,sgnIt];rfl
     refine ⟨(k,cutAfter (sDrop r 1),acc++[⟨(cutIt (sDrop r 1)).w,0-(cutIt (sDrop r 1)).e⟩]),?_,?_,?_⟩
     · dsimp only
       exact ⟨g1,g2,g3 _,h4'⟩
     · dsimp only
       exact g4
     rw [hmap ⟨(cutIt (sDrop r 1)).w,0-(cutIt (sDrop r 1)).e⟩]
     refine StH.back [2,3,4,5] 0 2 1 rfl rfl rfl rfl rfl (by kernel_rfl) ?_
     refine hg ?_
     exact StH.same (by repeat' first | exact .nil | refine .cons (by first | exact .refl _ | exact .any _) ?_) rfl
   · exfalso;omega
   · exfalso;omega
   · have h4':itemsL k (cutAfter (sDrop r 1)) (acc++[cutIt (sDrop r 1)])=itemsF s:=by
      rw [←h4];simp only [*,sgnIt];rfl
     refine ⟨(k,cutAfter (sDrop r 1),acc++[cutIt (sDrop r 1)]),?_,?_,?_⟩
     · dsimp only
       exact ⟨g1,g2,g3 _,h4'⟩
     · dsimp only
       exact g4
     try rw [hmap (cutIt (sDrop r 1))]
     refine StH.back [2,3,4,5] 0 2 1 rfl rfl rfl rfl rfl (by kernel_rfl) ?_
     refine hg ?_
     exact StH.same (by repeat' first | exact .nil | refine .cons (by first | exact .refl _ | exact .any _) ?_) rfl
   · exact bad _ (by rw [←h4];simp only [*];rfl) rfl
 · refine hg ?_
   have he':decide (r.size=0)=true:=decide_eq_true (by omega)
   rw [he',cond_true] at h4
   rw [←h4]
   exact RLe.ofEq rfl
theorem cURead (s:ByteArray) (hs:s.size≤1073741824):CallsD Γ prog 14 [.one (cS s)] (.tup [.agg (unO (uReadF s).1),.one (cI (uReadF s).2)]):=by
 refine CallsD.run [] Go.Proofs.Tryz.func14 rfl rfl rfl ?_;simp only [Go.Proofs.Tryz.f14];refine hgR ?_
 refine hcall (cItems s hs) ?_
 cases hi:itemsF s with
 | none=>
  conv=>simp (maxSteps:=2000000) (disch:=omega) only [go_sem,Nat.reduceAdd,Nat.reduceSub,Nat.reduceMul,Int.reduceToNat,Nat.reduceEqDiff,Nat.reduceBEq,Nat.reduceBneDiff,Nat.reduceLT,Int.reduceEq,Int.reduceLT,Int.reduceLE,Int.reduceNeg,Int.reduceAdd,Int.reduceSub,Int.reduceMul,Option.isSome,itO]
  exact RLe.ofEq (by simp only [uReadF,hi];rfl)
 | some l=>
  obtain ⟨hl,hx⟩:=itemsF_ok hi
  conv=>simp (maxSteps:=2000000) (disch:=omega) only [go_sem,Nat.reduceAdd,Nat.reduceSub,Nat.reduceMul,Int.reduceToNat,Nat.reduceEqDiff,Nat.reduceBEq,Nat.reduceBneDiff,Nat.reduceLT,Int.reduceEq,Int.reduceLT,Int.reduceLE,Int.reduceNeg,Int.reduceAdd,Int.reduceSub,Int.reduceMul,Option.isSome,itO]
  refine hcall (qInt 1 (by decide)) ?_
  refine hg ?_
  refine hloop [2,6,23,24] (fun p:Nat×Un=>[(25,.one (.dat (cI p.1)))]) (fun p=>[.box (unZ.map .dat) (some 49),.box ((unC p.2).map .dat) (some 49)])
   (fun p=>p.1≤l.length∧p.2.d.le (27*p.1)∧qs p.2.f≤1+100*p.1∧readL (l.drop p.1) p.2=readL l ⟨Dm.zero,(1:Int)⟩) (fun p=>l.length-p.1) (0,⟨Dm.zero,(1:Int)⟩) ⟨Nat.zero_le _,by unfold Dm.le;decide,qs_one,rfl⟩ ?_ ?_
  · refine hg ?_
    exact StH.same (by repeat' first | exact .nil | refine .cons (by first | exact .refl _ | exact .any _) ?_) rfl
  rintro ⟨i,u⟩ ⟨h1,h2,h3,h4⟩
  simp only at h1 h2 h3 h4
  refine hg ?_
  refine condD (fun hlt _=>?_) (fun hlt _=>?_)
  · have hlt':i<l.length:=by omega
    have hok:=hx _ (getD_mem hlt')
    rw [drop_getD hlt',readL] at h4
    refine hg ?_
    refine hcall (cUWord _ (by have:=hok.2.1;omega) hok.1) ?_
    cases hw:uWordF (l.getD i default).w with
    | none=>
     conv=>simp (maxSteps:=2000000) (disch:=omega) only [go_sem,Nat.reduceAdd,Nat.reduceSub,Nat.reduceMul,Int.reduceToNat,Nat.reduceEqDiff,Nat.reduceBEq,Nat.reduceBneDiff,Nat.reduceLT,Int.reduceEq,Int.reduceLT,Int.reduceLE,Int.reduceNeg,Int.reduceAdd,Int.reduceSub,Int.reduceMul,Option.isSome,unO]
     rw [hw] at h4
     exact RLe.ofEq (by simp only [uReadF,hi,←h4])
    | some v=>
     obtain ⟨hv1,hv2,hv3⟩:=uWordF_sm hw
     rw [hw] at h4
     obtain ⟨b1,b2,b3,b4,b5,b6⟩:=h2
     obtain ⟨d1,d2,d3,d4,d5,d6⟩:=hv1
     have he:=hok.2.2
     have c1:=mul27 d1 he
     have c2:=mul27 d2 he
     have c3:=mul27 d3 he
     have c4:=mul27 d4 he
     have c5:=mul27 d5 he
     have c6:=mul27 d6 he
     have hq:qs (timesF u.f v.f (l.getD i default).e)≤qs u.f+9*(qs v.f+1):=by
      have:=pw_qs u.f v.f (l.getD i default).e (l.getD i default).e.natAbs
      rw [←timesF_pw] at this
      have h9:(l.getD i default).e.natAbs*(qs v.f+1)≤9*(qs v.f+1):=Nat.mul_le_mul_right _ (by omega)
      omega
     have hle:(u.d.acc v.d (l.getD i default).e).le (27*(i+1:Nat)):=by
      have:=Dm.acc_le (x:=u.d) ⟨b1,b2,b3,b4,b5,b6⟩ ⟨d1,d2,d3,d4,d5,d6⟩ he
      rw [show (27*((i+1:Nat):Int))=27*i+27 from by omega]
      exact this
     conv=>simp (maxSteps:=2000000) (disch:=omega) only [go_sem,Nat.reduceAdd,Nat.reduceSub,Nat.reduceMul,Int.reduceToNat,Nat.reduceEqDiff,Nat.reduceBEq,Nat.reduceBneDiff,Nat.reduceLT,Int.reduceEq,Int.reduceLT,Int.reduceLE,Int.reduceNeg,Int.reduceAdd,Int.reduceSub,Int.reduceMul,Option.isSome,unO]
     repeat' ((first | refine hfk ?_ ?_<;>intros | refine hik ?_ | with_reducible refine hunroll ?_ | with_reducible refine hround ?_ | with_reducible first | refine hcall (cTimes u.f v.f (l.getD i default).e (by omega) (by omega) (by omega) hv3) ?_ | refine hcalle (cTimes u.f v.f (l.getD i default).e (by omega) (by omega) (by omega) hv3) ?_)<;>refine hgS ?_)
     refine ⟨(i+1,⟨u.d.acc v.d (l.getD i default).e,timesF u.f v.f (l.getD i default).e⟩),?_,?_,?_⟩
     · dsimp only
       exact ⟨by omega,hle,by omega,h4⟩
     · dsimp only
       omega
     refine StH.back [2,6,23,24,25] 2 2 2 rfl rfl rfl rfl rfl (by kernel_rfl) ?_
     refine hg ?_
     exact StH.same (by repeat' first | exact .nil | refine .cons (by first | exact .refl _ | exact .any _) ?_) rfl
  · have h4':readL l ⟨Dm.zero,(1:Int)⟩=some u:=by rw [←h4,List.drop_eq_nil_of_le (by omega)];rfl
    refine hg ?_
    repeat' ((first | refine hfk ?_ ?_<;>intros | refine hik ?_ | with_reducible first | refine hcall (cDimRight _) ?_ | refine hcalle (cDimRight _) ?_)<;>refine hgS ?_)
    all_goals
     rename_i hd
     exact RLe.ofEq (by simp only [uReadF,hi,h4',hd];rfl)
end Go.Hp.T

namespace Go.Hp.T
open Go Go.RowKit Go.Slot Go.Hp Go.Slot.T
open Go.Proofs.Tryz (prog)
set_option maxRecDepth 10000
set_option maxHeartbeats 4000000
variable {Γ:List (Nat×List Cell)}
theorem cWord (s:ByteArray):CallsD Γ prog 41 [.one (cS s)] (.one (cB (isWord s))):=by
 refine CallsD.run [] Go.Proofs.Tryz.func41 rfl rfl rfl ?_;simp only [Go.Proofs.Tryz.f41];refine hgR ?_
 repeat' ((first | refine hfk ?_ ?_<;>intros | refine hik ?_)<;>refine hgS ?_)
 all_goals (refine RLe.ofEq ?_;conv=>simp only [Bool.and_true,Bool.true_and,Bool.and_false,Bool.false_and,Bool.or_true,Bool.true_or,Bool.or_false,Bool.false_or,Bool.not_true,Bool.not_false,decide_true,decide_false,not_true_eq_false,not_false_eq_true,bnot_decide,if_true,if_false,Bool.and_self,Bool.or_self,cond_true,cond_false,List.length_map,ne_eq,Int.reduceEq,Int.reduceLT,Int.reduceLE, *,isWord]);first | exact trivial | rfl
theorem cNamed (s:ByteArray) (hs:s.size≤1099511627776):CallsD Γ prog 85 [.one (cS s)] (.one (cB (isNamed s))):=by
 refine CallsD.run [] Go.Proofs.Tryz.func85 rfl rfl rfl ?_;simp only [Go.Proofs.Tryz.f85];refine hgR ?_
 repeat' ((first | refine hfk ?_ ?_<;>intros | refine hik ?_ | with_reducible first | refine hcall (cName s hs) ?_ | refine hcalle (cName s hs) ?_ | refine hcall (cWord s) ?_ | refine hcalle (cWord s) ?_)<;>refine hgS ?_)
 all_goals (refine RLe.ofEq ?_;conv=>simp only [Bool.and_true,Bool.true_and,Bool.and_false,Bool.false_and,Bool.or_true,Bool.true_or,Bool.or_false,Bool.false_or,Bool.not_true,Bool.not_false,decide_true,decide_false,not_true_eq_false,not_false_eq_true,bnot_decide,if_true,if_false,Bool.and_self,Bool.or_self,cond_true,cond_false,List.length_map,ne_eq,Int.reduceEq,Int.reduceLT,Int.reduceLE, *,isNamed]);first | exact trivial | rfl
theorem cOperator (o:Int):CallsD Γ prog 86 [.one (cI o)] (.tup [.one (cS (opText o)),.one (cB (isOp o))]):=by
 refine CallsD.run [] Go.Proofs.Tryz.func86 rfl rfl rfl ?_;simp only [Go.Proofs.Tryz.f86];refine hgR ?_
 repeat' ((first | refine hfk ?_ ?_<;>intros | refine hik ?_)<;>refine hgS ?_)
 all_goals (refine RLe.ofEq ?_;conv=>simp only [Bool.and_true,Bool.true_and,Bool.and_false,Bool.false_and,Bool.or_true,Bool.true_or,Bool.or_false,Bool.false_or,Bool.not_true,Bool.not_false,decide_true,decide_false,not_true_eq_false,not_false_eq_true,bnot_decide,if_true,if_false,Bool.and_self,Bool.or_self,cond_true,cond_false,List.length_map,ne_eq,Int.reduceEq,Int.reduceLT,Int.reduceLE, *,isOp,opText]);first | exact trivial | rfl
theorem cNode (x:Ex) (hx:x.Sm):CallsD Γ prog 53 [.agg (exC x)] (.one (cB (exNode x))):=by
 have hu:=hx.u
 have hs:=hx.s
 have hl:=hx.len
 obtain ⟨q,hq⟩:∃ q,CallsD Γ prog 84 [.one (cS x.unit)] (.tup [.one (cS q),.one (cB (isQuote x.unit))]):=cQuote x.unit (by omega)
 refine CallsD.run [] Go.Proofs.Tryz.func53 rfl rfl rfl ?_;simp only [Go.Proofs.Tryz.f53];refine hgR ?_
 repeat' ((first | refine hfk ?_ ?_<;>intros | refine hik ?_ | with_reducible first | refine hcall (hq) ?_ | refine hcalle (hq) ?_ | refine hcall (cNamed x.name (by omega)) ?_ | refine hcalle (cNamed x.name (by omega)) ?_ | refine hcall (cOperator _) ?_ | refine hcalle (cOperator _) ?_)<;>refine hgS ?_)
 all_goals (refine RLe.ofEq ?_;conv=>simp only [Bool.and_true,Bool.true_and,Bool.and_false,Bool.false_and,Bool.or_true,Bool.true_or,Bool.or_false,Bool.false_or,Bool.not_true,Bool.not_false,decide_true,decide_false,not_true_eq_false,not_false_eq_true,bnot_decide,if_true,if_false,Bool.and_self,Bool.or_self,cond_true,cond_false,List.length_map,ne_eq,Int.reduceEq,Int.reduceLT,Int.reduceLE, *,exNode]);first | exact trivial | rfl
theorem cIndexEx (l:List Ex) (f:FuncId) (p:Ex→Bool) (hl:l.length≤1073741824) (h:∀ y∈l,CallsD Γ prog f [.agg (exC y)] (.one (cB (p y)))) :
 CallsD Γ prog 66 [.one (.sl 5 (l.map Ex.cells)),fN f] (.one (cI (idxF p l))):=by
 refine CallsD.run [] Go.Proofs.Tryz.func66 rfl rfl rfl ?_;simp only [Go.Proofs.Tryz.f66];refine hgR ?_
 refine hloop [0,1,7] (fun i:Nat=>[(8,.one (.dat (cI i)))]) (fun _=>[]) (fun i=>i≤l.length∧∀ j,j<i→p (l.getD j default)=false) (fun i=>l.length-i) 0 ⟨Nat.zero_le _,fun j hj=>by omega⟩ ?_ ?_
 · refine hg ?_
   exact StH.same (by repeat' first | exact .nil | refine .cons (by first | exact .refl _ | exact .any _) ?_) rfl
 intro i hi
 obtain ⟨hi,hj⟩:=hi
 refine hg ?_
 repeat' ((first | refine hfk ?_ ?_<;>intros | refine hik ?_ | with_reducible first | refine hcall (h _ (getD_mem (show i<l.length by omega))) ?_ | refine hcalle (h _ (getD_mem (show i<l.length by omega))) ?_)<;>refine hgS ?_)
 · rename_i hp
   rw [(idxF_at hi hj).2 (by omega) hp]
   exact RLe.ofEq rfl
 · rename_i hp
   refine ⟨i+1,⟨by omega,fun j hj'=>?_⟩,by omega,StH.same (by repeat' first | exact .nil | refine .cons (by first | exact .refl _ | exact .any _) ?_) rfl⟩
   rcases Nat.lt_or_eq_of_le (Nat.le_of_lt_succ hj') with h2 | h2
   · exact hj j h2
   · rw [h2];exact hp
 · rw [(idxF_at hi hj).1 (by omega)]
   exact RLe.ofEq rfl
theorem cContainsEx (l:List Ex) (f:FuncId) (p:Ex→Bool) (hl:l.length≤1073741824) (h:∀ y∈l,CallsD Γ prog f [.agg (exC y)] (.one (cB (p y)))) :
 CallsD Γ prog 39 [.one (.sl 5 (l.map Ex.cells)),fN f] (.one (cB (l.any p))):=by
 refine CallsD.run [] Go.Proofs.Tryz.func39 rfl rfl rfl ?_;simp only [Go.Proofs.Tryz.f39];refine hgR ?_
 repeat' ((first | refine hfk ?_ ?_<;>intros | refine hik ?_ | with_reducible first | refine hcall (cIndexEx l f p hl h) ?_ | refine hcalle (cIndexEx l f p hl h) ?_)<;>refine hgS ?_)
 exact RLe.ofEq (by rw [←idxF_any])
theorem cShaped:∀ x:Ex,x.Sm→CallsD Γ prog 29 [.agg (exC x)] (.one (cB x.shaped)):=by
 refine Ex.ind (fun x ih hx=>?_)
 have hl:=hx.len
 have hw:∀ y∈x.args,CallsD Γ prog 52 [.agg (exC y)] (.one (cB (!y.shaped))):=fun y hy=>by
  refine CallsD.run [] Go.Proofs.Tryz.func52 rfl rfl rfl ?_;simp only [Go.Proofs.Tryz.f52];refine hgR ?_
  repeat' ((first | refine hfk ?_ ?_<;>intros | refine hik ?_ | with_reducible first | refine hcall (ih y hy (hx.arg y hy)) ?_ | refine hcalle (ih y hy (hx.arg y hy)) ?_)<;>refine hgS ?_)
  exact RLe.ofEq rfl
 refine CallsD.run [] Go.Proofs.Tryz.func29 rfl rfl rfl ?_;simp only [Go.Proofs.Tryz.f29];refine hgR ?_
 repeat' ((first | refine hfk ?_ ?_<;>intros | refine hik ?_ | with_reducible first | refine hcall (cNode x hx) ?_ | refine hcalle (cNode x hx) ?_ | refine hcall (cContainsEx x.args _ _ hl hw) ?_ | refine hcalle (cContainsEx x.args _ _ hl hw) ?_)<;>refine hgS ?_)
 all_goals refine RLe.ofEq ?_
 · rename_i h
   rw [Ex.shaped_eq,h]
   simp [List.all_eq_not_any_not]
 · rename_i h
   rw [Ex.shaped_eq,h];rfl
abbrev nB (n:Int) (T:Option TypeId):SB:=.box [.dat (cI n)] T
theorem cCount:∀ x:Ex,x.Sm→∀(n lv:Int) (T:Option TypeId),0≤n→n≤1000→0≤lv→lv≤1000→
 CallsH Γ prog 28 [nB n T] [.agg ((exC x).map .dat),.one (.ptr 0 0),.one (.dat (cI lv))] [nB (x.cnt n lv).2 T] (.one (.dat (cB (x.cnt n lv).1))):=by
 refine Ex.ind (fun x ih hx n lv T h0 h1 h2 h3=>?_)
 have hl:=hx.len
 have fin:∀(b:Bool) (k:Int),x.cnt n lv=(b,k)→StH Γ [nB n T] [SV.one (.dat (cB b))] [nB k T,.box ((exC x).map .dat) (some 24)] [SV.one (.dat (cB (x.cnt n lv).1))] [nB (x.cnt n lv).2 T]:=fun b k h=>by
  rw [h];exact StH.done 1 rfl (by kernel_rfl) rfl rfl
 refine CallsH.run [] Go.Proofs.Tryz.func28 rfl rfl ?_;simp only [Go.Proofs.Tryz.f28];refine hgR ?_
 repeat' ((first | refine hfk ?_ ?_<;>intros | refine hik ?_)<;>refine hgS ?_)
 · exact fin _ _ (by rw [Ex.cnt_eq];simp only [*];rfl)
 · have e0:x.cnt n lv=Ex.cntL x.args (n+1) (lv+1):=by rw [Ex.cnt_eq];simp only [*];rfl
   refine hloop [1,2,23,24] (fun p:Nat×Int=>[(25,.one (.dat (cI p.1)))]) (fun p=>[nB p.2 T,.box ((exC x).map .dat) (some 24)]) (fun p=>p.1≤x.args.length∧0≤p.2∧p.2≤200∧Ex.cntL (x.args.drop p.1) p.2 (lv+1)=Ex.cntL x.args (n+1) (lv+1)) (fun p=>x.args.length-p.1) (0,n+1) ⟨Nat.zero_le _,by simp only;omega,by simp only;omega,rfl⟩ ?_ ?_
   · refine hg ?_
     exact StH.same (by repeat' first | exact .nil | refine .cons (by first | exact .refl _ | exact .any _) ?_) rfl
   rintro ⟨i,m⟩ ⟨hi,hm0,hm1,hc⟩
   simp only at hi hm0 hm1 hc
   refine hg ?_
   refine condD (fun hlt hd=>?_) (fun hlt _=>?_)
   · have hlt':i<x.args.length:=by omega
     have hy:=getD_mem hlt'
     rw [drop_getD hlt'] at hc
     refine hg ?_
     refine hcallat [0] (ih _ hy (hx.arg _ hy) m (lv+1) T (by omega) (by omega) (by omega) (by omega)) rfl (by decide) rfl rfl rfl ?_
     have hstep:=hc
     rw [Ex.cntL] at hstep
     generalize hr:(x.args.getD i default).cnt m (lv+1)=r at hstep ⊢
     obtain ⟨b,k⟩:=r
     refine hg ?_
     cases b with
     | true=>
      have hk:=Ex.cnt_true _ _ _ _ hr
      refine hg ?_
      exact ⟨(i+1,k),⟨by simp only;omega,by simp only;omega,hk.2,hstep⟩,by simp only;omega,StH.back [1,2,23,24,25] 2 2 2 rfl rfl rfl rfl rfl (by kernel_rfl) (StH.same (by repeat' first | exact .nil | refine .cons (by first | exact .refl _ | exact .any _) ?_) rfl)⟩
     | false=>
      refine hg ?_
      rw [e0,←hstep]
      exact StH.done 1 rfl (by kernel_rfl) rfl rfl
   · refine hg ?_
     rw [e0,←hc,List.drop_eq_nil_of_le (by omega),Ex.cntL]
     exact StH.done 1 rfl (by kernel_rfl) rfl rfl
 · exact fin _ _ (by rw [Ex.cnt_eq];simp only [*];rfl)
theorem cRight (x:Ex) (hx:x.Sm):CallsD Γ prog 13 [.agg (exC x)] (.one (cB (exRight x))):=by
 refine CallsD.run [] Go.Proofs.Tryz.func13 rfl rfl rfl ?_;simp only [Go.Proofs.Tryz.f13];refine hgR ?_
 refine hcallat [1] (cCount x hx 0 1 _ (by decide) (by decide) (by decide) (by decide)) rfl (by decide) rfl rfl rfl ?_
 refine hg ?_
 repeat' ((first | refine hfk ?_ ?_<;>intros | refine hik ?_ | with_reducible first | refine hcall (cShaped x hx) ?_ | refine hcalle (cShaped x hx) ?_)<;>refine hgS ?_)
 all_goals (refine RLe.ofEq ?_;conv=>simp only [Bool.and_true,Bool.true_and,Bool.and_false,Bool.false_and,Bool.or_true,Bool.true_or,Bool.or_false,Bool.false_or,Bool.not_true,Bool.not_false,decide_true,decide_false,not_true_eq_false,not_false_eq_true,bnot_decide,if_true,if_false,Bool.and_self,Bool.or_self,cond_true,cond_false,List.length_map,ne_eq,Int.reduceEq,Int.reduceLT,Int.reduceLE, *,exRight]);first | exact trivial | rfl
end Go.Hp.T

namespace Go.Hp
open Go Go.RowKit Go.Slot
variable {P:Program} {Γ:List (Nat×List Cell)}
theorem atR_range {n N i:Nat} (h:i<n):atR (List.range n) N i=i:=atR_lt (by simp [h])
theorem CallsH.pre {f:FuncId} {ηs ξ:List SB} {args:List SV} {res:SV} (h:CallsH Γ P f ηs args ηs res) (hs:∀ r,ηs.map (rnSB r)=ηs) (ha:args.map (rnSV0 (atR (List.range ηs.length) (ηs++ξ).length))=args) (hr:rnSV (atR (List.range ηs.length) (ηs++ξ).length) res=res):CallsH Γ P f (ηs++ξ) args (ηs++ξ) res:=by
 have hfix:∀(r:Nat→Nat) (i:Nat) (x:SB),ηs[i]? = some x→rnSB r x=x:=fun r i x hx=>by
  have:=congrArg (fun l=>l[i]?) (hs r)
  simp only [List.getElem?_map,hx,Option.map_some] at this
  exact Option.some.inj this
 have hlt:∀ j∈List.range ηs.length,j<(ηs++ξ).length:=fun j hj=>by
  rw [List.mem_range] at hj;rw [List.length_append];omega
 have hk:=CallsH.frame (φ:=List.range ηs.length) (η:=ηs++ξ) List.nodup_range hlt ⟨by simp,fun i x hx=>by
  have hi:i<ηs.length:=(List.getElem?_eq_some_iff.1 hx).1
  exact ⟨i,by simp [hi],by rw [hfix _ i x hx,List.getElem?_append_left hi];exact hx⟩⟩ (by simp) h
 rw [ha,hr] at hk
 have hp:putR (List.range ηs.length) (ηs++ξ) ηs=ηs++ξ:=by
  apply List.ext_getElem?
  intro i
  by_cases hi:i<ηs.length
  · have h1:=putR_at (φ:=List.range ηs.length) (η:=ηs++ξ) (ηs':=ηs) List.nodup_range hlt (List.getElem?_eq_getElem hi)
    rw [atR_range hi,hfix _ i _ (List.getElem?_eq_getElem hi)] at h1
    rw [h1,List.getElem?_append_left hi,List.getElem?_eq_getElem hi]
  · by_cases hi2:i<(ηs++ξ).length
    · exact putR_not hi2 (by simpa using hi)
    · rw [List.getElem?_eq_none (by rw [putR_len];simp at hi2 ⊢;omega),List.getElem?_eq_none (by omega)]
 rw [hp] at hk
 exact hk
theorem hcallzp {f:FuncId} {η ηs ξ:List SB} {args l:List SV} {res:SV} {K:Bool→List SB→SV→Prop} (h:CallsH Γ P f ηs args ηs res) (hs:∀ r,ηs.map (rnSB r)=ηs) (hz:dzL η l=args) (hη:appL (frzE η (dzB η l)) η=ηs++ξ) (ha:args.map (rnSV0 (atR (List.range ηs.length) (ηs++ξ).length))=args) (hr:rnSV (atR (List.range ηs.length) (ηs++ξ).length) res=res) (hk:K true (ηs++ξ) res):CallKH Γ P f η l K:=by
 subst hz
 refine hcallb (CallsH.frz ?_) hk
 rw [hη]
 exact CallsH.pre h hs ha hr
end Go.Hp
namespace Go.Hp.T
open Go Go.RowKit Go.Slot Go.Hp
theorem rnSB_envE {r:Nat→Nat} {l:List (ByteArray×Dm)}:rnSB r (.map (envE l))=.map (envE l):=by
 have:∀ l:List (ByteArray×Dm),(envE l).map (fun p=>(p.1,rnSV0 r p.2))=envE l:=by
  intro l
  induction l with
  | nil=>rfl
  | cons p l ih=>
   show _::(envE l).map _=_
   rw [ih];rfl
 show SB.map _=_
 rw [this]
theorem envs_rn (V T:List (ByteArray×Dm)):∀ r,[SB.map (envE V),SB.map (envE T)].map (rnSB r)=[SB.map (envE V),SB.map (envE T)]:=fun r=>by
 simp only [List.map_cons,List.map_nil,rnSB_envE]
theorem exNode_len {x:Ex} (h:exNode x=true) (h3:x.op≠3) (h0:x.args.length≠0):(x.op≠2→x.op≠4→2≤x.args.length)∧(x.op=5→3≤x.args.length):=by
 unfold exNode at h
 by_cases a0:x.op=0
 · rw [decide_eq_true a0,cond_true] at h;simp only [Bool.and_eq_true,decide_eq_true_eq] at h;omega
 rw [decide_eq_false a0,cond_false] at h
 cases hb:(decide (¬x.n=0)||decide (¬x.unit.size=0)) with
 | true=>rw [hb,cond_true] at h;cases h
 | false=>
 rw [hb,cond_false] at h
 by_cases a1:x.op=1
 · rw [decide_eq_true a1,cond_true] at h;simp only [Bool.and_eq_true,decide_eq_true_eq] at h;omega
 rw [decide_eq_false a1,cond_false] at h
 by_cases a2:x.op=2
 · rw [decide_eq_true a2,cond_true] at h;simp only [Bool.and_eq_true,decide_eq_true_eq] at h;omega
 rw [decide_eq_false a2,cond_false] at h
 by_cases a3:x.op=3
 · rw [decide_eq_true a3,cond_true] at h;simp only [Bool.and_eq_true,decide_eq_true_eq] at h;omega
 rw [decide_eq_false a3,cond_false] at h
 by_cases a4:x.op=4
 · rw [decide_eq_true a4,cond_true] at h;simp only [Bool.and_eq_true,decide_eq_true_eq] at h;omega
 rw [decide_eq_false a4,cond_false] at h
 by_cases a5:x.op=5
 · rw [decide_eq_true a5,cond_true] at h;simp only [Bool.and_eq_true,decide_eq_true_eq] at h;omega
 rw [decide_eq_false a5,cond_false] at h
 cases hc:(decide (x.op=10)||decide (x.op=11)) with
 | true=>rw [hc,cond_true] at h;simp only [Bool.and_eq_true,decide_eq_true_eq] at h;omega
 | false=>rw [hc,cond_false] at h;simp only [Bool.and_eq_true,decide_eq_true_eq] at h;omega
end Go.Hp.T
