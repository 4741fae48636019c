/- The proof, part Y38: Rl, Rf, Rg, Ub, Uc, Ud. -/
import Derived.Test.YtjhbbadljohadaaGreatDoorY37
import Derived.Test.YtjhbbadljohadaaGreatDoorY32
import Derived.Test.YtjhbbadljohadaaGreatDoorY36
namespace Go.Slot.T
open Go Go.RowKit Go.Slot
open Go.Proofs.Tryz (prog)
set_option maxRecDepth 10000
set_option maxHeartbeats 4000000
theorem yjg (z:Int) (d:Nat) (hz:okZ z) (hd:d≠0) (hl:(dig d).length<=268435456) :
 za1 prog 139 [.agg [.raw (.int .i64 (sg z)),.ints .i64 (dig z.natAbs)],.agg [.raw (.int .i64 1),.ints .i64 (dig d)]]
  (.tup [.agg (Fc.of (mkRat z d)).C,.one (.raw (.int .i64 0))]):=by
 obtain ⟨p1,p2,p3⟩:=zgz z hd
 have hden:=z2x (mkRat z d)
 rw [p2] at hden
 have hden2:(mkRat z d).den=((d:Int) / (Int.gcd z d:Int)).natAbs:=by omega
 have hgl:okZ (Int.gcd z d:Int):=by
  have:(Int.gcd z d:Int).natAbs<=d:=by
   have:Int.gcd z d ∣ d:=by have:=Int.gcd_dvd_natAbs_right z d;simpa using this
   exact Nat.le_of_dvd (Nat.pos_of_ne_zero hd) this
  exact Nat.le_trans (zar this) hl
 have hr:=zc2 (d:Int) hl
 have hg:=ylg z d hz hl
 have hd1:=ymy z (Int.gcd z d:Int) hz hgl p3
 have hd2:=ymy d (Int.gcd z d:Int) hl hgl p3
 rw [zet hd] at hr hg hd2
 rw [hden] at hd2
 rw [show ((d:Nat):Int).natAbs=d from rfl] at hr hg hd2
 have hfin:(Fc.of (mkRat z d)).C=[.raw (.int .i64 (sg (z / (Int.gcd z d:Int)))),.ints .i64 (dig (z / (Int.gcd z d:Int)).natAbs),.raw (.int .i64 1),.ints .i64 (dig ((d:Int) / (Int.gcd z d:Int)).natAbs)]:=by
  rw [<-p1,<-hden2];rfl
 rw [hfin]
 generalize (Int.gcd z d:Int)=g at *
 refine za1.run [] Go.Proofs.Tryz.func139 rfl rfl ?_;conv=>simp (maxSteps:=2000000) (disch:=omega) only [go_sem,Nat.reduceAdd,Nat.reduceSub,Nat.reduceMul,Int.reduceToNat,Nat.reduceEqDiff,Nat.reduceBEq,Nat.reduceBneDiff,Go.Proofs.Tryz.f139,List.replicate]
 refine za7 (zc2 z hz) ?_
 refine rg ?_
 refine za7 hr ?_
 refine rg ?_
 refine zap (fun h=>absurd h (by decide)) (fun _=>?_)
 refine rg ?_
 refine zap (fun h=>absurd h (by decide)) (fun _=>?_)
 refine rg ?_
 refine za7 hg ?_
 refine rg ?_
 refine za7 hd1 ?_
 refine rg ?_
 refine za7 hd2 ?_
 refine rg ?_
 exact ⟨_,rfl,.tup (.cons (.refl _) (.cons (.refl _) .nil))⟩
theorem mkRat_one (n:Int):mkRat n 1=(n:Rat):=by
 refine Rat.ext ?_ ?_
 · rw [Rat.num_mkRat,if_neg (by decide)];simp
 · rw [Rat.den_mkRat,if_neg (by decide)];simp
theorem yeq {n:Int} (h:inI n):okZ n:=by
 have:(dig n.natAbs).length<=4:=zdb (by unfold inI at h;omega)
 unfold okZ;omega
theorem yom (n:Int) (hn:inI n):za1 prog 106 [.one (.raw (.int .i64 n))] (.agg (Fc.of (n:Rat)).C):=by
 have h1:=rOf 1 (by decide)
 rw [show sg 1=1 from rfl] at h1
 have hN:=yjg n 1 (yeq hn) (by decide) (by have:=zdb (n:=1) (by decide);omega)
 rw [mkRat_one] at hN
 have hof:za1 prog 134 [.one (.raw (.int .i64 n)),.one (.raw (.int .i64 1))] (.tup [.agg (Fc.of (n:Rat)).C,.one (.raw (.int .i64 0))]):=by
  refine za1.run [] Go.Proofs.Tryz.func134 rfl rfl ?_;conv=>simp (maxSteps:=2000000) (disch:=omega) only [go_sem,Nat.reduceAdd,Nat.reduceSub,Nat.reduceMul,Int.reduceToNat,Nat.reduceEqDiff,Nat.reduceBEq,Nat.reduceBneDiff,Go.Proofs.Tryz.f134,List.replicate]
  refine za7 (rOf n hn) ?_
  refine rg ?_
  refine za7 h1 ?_
  refine rg ?_
  refine za7 hN ?_
  refine rg ?_
  exact ⟨_,rfl,.tup (.cons (.refl _) (.cons (.refl _) .nil))⟩
 refine za1.run [] Go.Proofs.Tryz.func106 rfl rfl ?_;conv=>simp (maxSteps:=2000000) (disch:=omega) only [go_sem,Nat.reduceAdd,Nat.reduceSub,Nat.reduceMul,Int.reduceToNat,Nat.reduceEqDiff,Nat.reduceBEq,Nat.reduceBneDiff,Go.Proofs.Tryz.f106,List.replicate]
 refine za7 hof ?_
 refine rg ?_
 exact ⟨_,rfl,.one (.refl _)⟩
end Go.Slot.T

namespace Go.Slot.T
open Go Go.RowKit Go.Slot
open Go.Proofs.Tryz (prog)
set_option maxRecDepth 10000
set_option maxHeartbeats 4000000
theorem z14 {α:Type} {l:List α} {i:Nat} (d:α) (h:i<l.length):l.take (i+1)=l.take i++[l.getD i d]:=by
 rw [List.take_add_one];simp [h]
theorem ygz (s:Int) (L:List Int) (s':Int) (M:List Int) (lL:L.length<=1073741824) (_lM:M.length<=1073741824) :
 za1 prog 174 [.agg [.raw (.int .i64 s),.ints .i64 L],.agg [.raw (.int .i64 s'),.ints .i64 M]] (.one (.raw (.bool (decide (s=s'/\L=M))))):=by
 obtain ⟨r,hr⟩:∃ r,r=decide (s=s'/\L=M):=⟨_,rfl⟩
 rw [<-hr]
 have bad:¬(s=s'/\L=M)->false=r:=fun h=>by rw [hr,decide_eq_false h]
 by_cases h1:s=s'
 · subst h1
   by_cases h2:(L.length:Int)=M.length
   · have hl:L.length=M.length:=by omega
     have h2':¬((L.length:Int)≠M.length):=fun h=>h h2
     refine za1.run [] Go.Proofs.Tryz.func174 rfl rfl ?_;conv=>simp (maxSteps:=2000000) (disch:=omega) only [go_sem,Nat.reduceAdd,Nat.reduceSub,Nat.reduceMul,Int.reduceToNat,Nat.reduceEqDiff,Nat.reduceBEq,Nat.reduceBneDiff,Go.Proofs.Tryz.f174,List.replicate]
     refine zap (fun h=>absurd h h2') (fun _=>?_)
     refine rg ?_
     refine zee [] (fun i:Nat=>[(5,.one (.raw (.int .i64 i)))]) (fun i=>i<=L.length/\L.take i=M.take i) (fun i=>L.length-i) 0 ⟨Nat.zero_le _,rfl⟩ ?_ ?_
     · refine rg ?_
       exact StLe.weaken (by repeat' first | exact .nil | refine .cons (by first | exact .refl _ | exact .any _) ?_) rfl
     rintro i ⟨hi,he⟩
     refine rg ?_
     refine zap (fun h1=>?_) (fun h1=>?_)
     · have hg:∀(l:List Int),i<l.length->l.take (i+1)=l.take i++[l.getD i 0]:=fun l h=>z14 0 h
       refine rg ?_
       refine indk (by kernel_rfl) ?_
       refine rg ?_
       refine zap (fun h2=>?_) (fun h2=>?_)
       · refine rg ?_
         exact ⟨_,rfl,by rw [bad (fun e=>h2 (by rw [e.2]))];exact .one (.refl _)⟩
       · have h2:L.getD i 0=M.getD i 0:=by omega
         refine rg ?_
         refine ⟨i+1,⟨by omega,?_⟩,by omega,StLe.weaken (by repeat' first | exact .nil | refine .cons (by first | exact .refl _ | exact .any _) ?_) rfl⟩
         rw [hg L (by omega),hg M (by omega),he,h2]
     · have hi:i=L.length:=by omega
       subst hi
       rw [List.take_length,hl,List.take_length] at he
       have e:true=r:=by rw [hr,decide_eq_true ⟨rfl,he⟩]
       refine rg ?_
       exact ⟨_,rfl,by rw [e];exact .one (.refl _)⟩
   · have h2:(L.length:Int)≠M.length:=h2
     refine za1.run [] Go.Proofs.Tryz.func174 rfl rfl ?_;conv=>simp (maxSteps:=2000000) (disch:=omega) only [go_sem,Nat.reduceAdd,Nat.reduceSub,Nat.reduceMul,Int.reduceToNat,Nat.reduceEqDiff,Nat.reduceBEq,Nat.reduceBneDiff,Go.Proofs.Tryz.f174,List.replicate]
     refine zap (fun _=>?_) (fun h=>absurd h2 h)
     refine rg ?_
     exact ⟨_,rfl,by rw [bad (fun e=>h2 (by rw [e.2]))];exact .one (.refl _)⟩
 · have h1':=decide_eq_true (show s≠s' from h1)
   refine za1.run [] Go.Proofs.Tryz.func174 rfl rfl ?_;conv=>simp (maxSteps:=2000000) (disch:=omega) only [go_sem,Nat.reduceAdd,Nat.reduceSub,Nat.reduceMul,Int.reduceToNat,Nat.reduceEqDiff,Nat.reduceBEq,Nat.reduceBneDiff,Go.Proofs.Tryz.f174,List.replicate]
   refine zi2 (fun h=>absurd h1 h) (fun h=>?_)
   conv=>simp (maxSteps:=2000000) (disch:=omega) only [go_sem,Nat.reduceAdd,Nat.reduceSub,Nat.reduceMul,Int.reduceToNat,Nat.reduceEqDiff,Nat.reduceBEq,Nat.reduceBneDiff,h1']
   exact ⟨_,rfl,by rw [bad (fun e=>h1 e.1)];exact .one (.refl _)⟩
theorem yd3 (x y:Int):(sg x=sg y/\dig x.natAbs=dig y.natAbs)↔x=y:=by
 constructor
 · rintro ⟨h1,h2⟩
   have ex:=zes x
   have ey:=zes y
   rw [h2,ey] at ex
   rcases zb9 x with ⟨h,e⟩ | ⟨h,e⟩ | ⟨h,e⟩<;>rcases zb9 y with ⟨h',e'⟩ | ⟨h',e'⟩ | ⟨h',e'⟩<;>omega
 · rintro rfl;exact ⟨rfl,rfl⟩
theorem z3u (x y:Int) (hx:okZ x) (hy:okZ y) :
 za1 prog 163 [.agg [.raw (.int .i64 (sg x)),.ints .i64 (dig x.natAbs)],.agg [.raw (.int .i64 (sg y)),.ints .i64 (dig y.natAbs)]] (.one (.raw (.int .i64 (ord x y)))):=by
 have sx:=zb9 x
 have sy:=zb9 y
 have hx':(dig x.natAbs).length<=268435456:=hx
 have hy':(dig y.natAbs).length<=268435456:=hy
 have hS:=ygz (sg x) (dig x.natAbs) (sg y) (dig y.natAbs) (by omega) (by omega)
 rw [decide_eq_decide.2 (yd3 x y)] at hS
 have hL:=yl1 (dig x.natAbs) (dig y.natAbs) (zad _) (zad _) (by omega) (by omega)
 rw [zes,zes] at hL
 by_cases h:x=y
 · rw [decide_eq_true h] at hS
   rw [show ord x y=0 by unfold ord;rw [if_neg (by omega),if_neg (by omega)]]
   refine za1.run [] Go.Proofs.Tryz.func163 rfl rfl ?_;conv=>simp (maxSteps:=2000000) (disch:=omega) only [go_sem,Nat.reduceAdd,Nat.reduceSub,Nat.reduceMul,Int.reduceToNat,Nat.reduceEqDiff,Nat.reduceBEq,Nat.reduceBneDiff,Go.Proofs.Tryz.f163,List.replicate]
   refine za7 (zc2 x hx) ?_
   refine rg ?_
   refine za7 (zc2 y hy) ?_
   refine rg ?_
   refine za7 hS ?_
   refine rg ?_
   exact ⟨_,rfl,.one (.refl _)⟩
 · rw [decide_eq_false h] at hS
   by_cases h1:sg x=sg y
   · have h1':¬sg x≠sg y:=fun e=>e h1
     by_cases h2:(x.natAbs:Int)<y.natAbs
     · rw [decide_eq_true h2] at hL
       by_cases h3:0<sg x
       · rw [show ord x y = -1 by unfold ord;rw [if_pos (by omega)]]
         have h3':=decide_eq_true h3
         refine za1.run [] Go.Proofs.Tryz.func163 rfl rfl ?_;conv=>simp (maxSteps:=2000000) (disch:=omega) only [go_sem,Nat.reduceAdd,Nat.reduceSub,Nat.reduceMul,Int.reduceToNat,Nat.reduceEqDiff,Nat.reduceBEq,Nat.reduceBneDiff,Go.Proofs.Tryz.f163,List.replicate]
         refine za7 (zc2 x hx) ?_
         refine rg ?_
         refine za7 (zc2 y hy) ?_
         refine rg ?_
         refine za7 hS ?_
         refine rg ?_
         refine zap (fun e=>absurd e h1') (fun _=>?_)
         refine rg ?_
         refine za7 hL ?_
         conv=>simp (maxSteps:=2000000) (disch:=omega) only [go_sem,Nat.reduceAdd,Nat.reduceSub,Nat.reduceMul,Int.reduceToNat,Nat.reduceEqDiff,Nat.reduceBEq,Nat.reduceBneDiff,h3']
         refine indk (by kernel_rfl) ?_
         refine rg ?_
         exact ⟨_,rfl,.one (.refl _)⟩
       · rw [show ord x y=1 by unfold ord;rw [if_neg (by omega),if_pos (by omega)]]
         have h3':=decide_eq_false h3
         refine za1.run [] Go.Proofs.Tryz.func163 rfl rfl ?_;conv=>simp (maxSteps:=2000000) (disch:=omega) only [go_sem,Nat.reduceAdd,Nat.reduceSub,Nat.reduceMul,Int.reduceToNat,Nat.reduceEqDiff,Nat.reduceBEq,Nat.reduceBneDiff,Go.Proofs.Tryz.f163,List.replicate]
         refine za7 (zc2 x hx) ?_
         refine rg ?_
         refine za7 (zc2 y hy) ?_
         refine rg ?_
         refine za7 hS ?_
         refine rg ?_
         refine zap (fun e=>absurd e h1') (fun _=>?_)
         refine rg ?_
         refine za7 hL ?_
         conv=>simp (maxSteps:=2000000) (disch:=omega) only [go_sem,Nat.reduceAdd,Nat.reduceSub,Nat.reduceMul,Int.reduceToNat,Nat.reduceEqDiff,Nat.reduceBEq,Nat.reduceBneDiff,h3']
         refine indk (by kernel_rfl) ?_
         refine rg ?_
         exact ⟨_,rfl,.one (.refl _)⟩
     · rw [decide_eq_false h2] at hL
       by_cases h3:0<sg x
       · rw [show ord x y=1 by unfold ord;rw [if_neg (by omega),if_pos (by omega)]]
         have h3':=decide_eq_true h3
         refine za1.run [] Go.Proofs.Tryz.func163 rfl rfl ?_;conv=>simp (maxSteps:=2000000) (disch:=omega) only [go_sem,Nat.reduceAdd,Nat.reduceSub,Nat.reduceMul,Int.reduceToNat,Nat.reduceEqDiff,Nat.reduceBEq,Nat.reduceBneDiff,Go.Proofs.Tryz.f163,List.replicate]
         refine za7 (zc2 x hx) ?_
         refine rg ?_
         refine za7 (zc2 y hy) ?_
         refine rg ?_
         refine za7 hS ?_
         refine rg ?_
         refine zap (fun e=>absurd e h1') (fun _=>?_)
         refine rg ?_
         refine za7 hL ?_
         conv=>simp (maxSteps:=2000000) (disch:=omega) only [go_sem,Nat.reduceAdd,Nat.reduceSub,Nat.reduceMul,Int.reduceToNat,Nat.reduceEqDiff,Nat.reduceBEq,Nat.reduceBneDiff,h3']
         refine indk (by kernel_rfl) ?_
         refine rg ?_
         exact ⟨_,rfl,.one (.refl _)⟩
       · rw [show ord x y = -1 by unfold ord;rw [if_pos (by omega)]]
         have h3':=decide_eq_false h3
         refine za1.run [] Go.Proofs.Tryz.func163 rfl rfl ?_;conv=>simp (maxSteps:=2000000) (disch:=omega) only [go_sem,Nat.reduceAdd,Nat.reduceSub,Nat.reduceMul,Int.reduceToNat,Nat.reduceEqDiff,Nat.reduceBEq,Nat.reduceBneDiff,Go.Proofs.Tryz.f163,List.replicate]
         refine za7 (zc2 x hx) ?_
         refine rg ?_
         refine za7 (zc2 y hy) ?_
         refine rg ?_
         refine za7 hS ?_
         refine rg ?_
         refine zap (fun e=>absurd e h1') (fun _=>?_)
         refine rg ?_
         refine za7 hL ?_
         conv=>simp (maxSteps:=2000000) (disch:=omega) only [go_sem,Nat.reduceAdd,Nat.reduceSub,Nat.reduceMul,Int.reduceToNat,Nat.reduceEqDiff,Nat.reduceBEq,Nat.reduceBneDiff,h3']
         refine indk (by kernel_rfl) ?_
         refine rg ?_
         exact ⟨_,rfl,.one (.refl _)⟩
   · refine za1.run [] Go.Proofs.Tryz.func163 rfl rfl ?_;conv=>simp (maxSteps:=2000000) (disch:=omega) only [go_sem,Nat.reduceAdd,Nat.reduceSub,Nat.reduceMul,Int.reduceToNat,Nat.reduceEqDiff,Nat.reduceBEq,Nat.reduceBneDiff,Go.Proofs.Tryz.f163,List.replicate]
     refine za7 (zc2 x hx) ?_
     refine rg ?_
     refine za7 (zc2 y hy) ?_
     refine rg ?_
     refine za7 hS ?_
     refine rg ?_
     refine zap (fun _=>?_) (fun e=>absurd h1 e)
     refine rg ?_
     refine zap (fun h2=>?_) (fun h2=>?_)
     · refine rg ?_
       rw [show ord x y = -1 by unfold ord;rw [if_pos (by omega)]]
       exact ⟨_,rfl,.one (.refl _)⟩
     · refine rg ?_
       rw [show ord x y=1 by unfold ord;rw [if_neg (by omega),if_pos (by omega)]]
       exact ⟨_,rfl,.one (.refl _)⟩
theorem yc1 (x y:Int) (hx:okZ x) (hy:okZ y) :
 za1 prog 138 [.agg [.raw (.int .i64 (sg x)),.ints .i64 (dig x.natAbs)],.agg [.raw (.int .i64 (sg y)),.ints .i64 (dig y.natAbs)]]
  (.tup [.agg [.raw (.int .i64 (sg (x*y))),.ints .i64 (dig (x*y).natAbs)],.one (.raw (.int .i64 0))]):=by
 have hx':(dig x.natAbs).length<=268435456:=hx
 have hy':(dig y.natAbs).length<=268435456:=hy
 have hl:=zhj x y
 have hT:=z5c (dig x.natAbs) (dig y.natAbs) (zad _) (zad _) (by omega) (by omega)
 rw [zes,zes,<-Int.natCast_mul,Int.toNat_natCast,<-Int.natAbs_mul] at hT
 have hm:=yeo x y
 have hr:=zb9 (x*y)
 have hM:=zqq (sg (x*y)) (x*y) (by omega) (yk1 _)
 refine za1.run [] Go.Proofs.Tryz.func138 rfl rfl ?_;conv=>simp (maxSteps:=2000000) (disch:=omega) only [go_sem,Nat.reduceAdd,Nat.reduceSub,Nat.reduceMul,Int.reduceToNat,Nat.reduceEqDiff,Nat.reduceBEq,Nat.reduceBneDiff,Go.Proofs.Tryz.f138,List.replicate]
 refine za7 (zc2 x hx) ?_
 refine rg ?_
 refine za7 (zc2 y hy) ?_
 conv=>simp (maxSteps:=2000000) (disch:=omega) only [go_sem,Nat.reduceAdd,Nat.reduceSub,Nat.reduceMul,Int.reduceToNat,Nat.reduceEqDiff,Nat.reduceBEq,Nat.reduceBneDiff,hm]
 refine za7 hT ?_
 conv=>simp (maxSteps:=2000000) (disch:=omega) only [go_sem,Nat.reduceAdd,Nat.reduceSub,Nat.reduceMul,Int.reduceToNat,Nat.reduceEqDiff,Nat.reduceBEq,Nat.reduceBneDiff,hm]
 refine za7 hM ?_
 refine rg ?_
 refine indk (by kernel_rfl) ?_
 refine rg ?_
 exact ⟨_,rfl,.tup (.cons (.refl _) (.cons (.refl _) .nil))⟩
end Go.Slot.T

namespace Go.Slot.T
open Go Go.RowKit Go.Slot
open Go.Proofs.Tryz (prog)
set_option maxRecDepth 10000
set_option maxHeartbeats 4000000
theorem z9c (x y:Int):ord x y=0↔x=y:=by unfold ord;repeat' split<;>omega
theorem ybe (f:Fc) (hf:f.sz<=268435456):za1 prog 137 [.agg f.C] (.one (.raw (.bool (decide f.ok)))):=by
 obtain ⟨s,L,t,M⟩:=f
 obtain ⟨hL,hM⟩:=szL hf
 dsimp only at hL hM
 obtain ⟨r,hr⟩:∃ r,r=decide (Fc.mk s L t M).ok:=⟨_,rfl⟩
 rw [<-hr]
 have bad:¬zch s L t M->r=false:=fun h=>by rw [hr];exact decide_eq_false h
 have hRL:=zid s L (by omega)
 have hRM:=zid t M (by omega)
 by_cases h1:zb4 s L
 · rw [decide_eq_true h1] at hRL
   by_cases h2:zb4 t M
   · rw [decide_eq_true h2] at hRM
     obtain ⟨x,rfl,rfl⟩:=(zck _ _).1 h1
     obtain ⟨y,rfl,rfl⟩:=(zck _ _).1 h2
     refine za1.run [] Go.Proofs.Tryz.func137 rfl rfl ?_;conv=>simp (maxSteps:=2000000) (disch:=omega) only [go_sem,Nat.reduceAdd,Nat.reduceSub,Nat.reduceMul,Int.reduceToNat,Nat.reduceEqDiff,Nat.reduceBEq,Nat.reduceBneDiff,Go.Proofs.Tryz.f137,List.replicate]
     refine za7 hRL ?_
     refine rg ?_
     refine za7 hRM ?_
     refine rg ?_
     refine zap (fun h3=>?_) (fun h3=>?_)
     · have e:=bad (fun h=>by have:=h.2.2.1;omega)
       subst e
       refine rg ?_
       exact ⟨_,rfl,.one (.refl _)⟩
     · have h3:sg y=1:=by have:=zb9 y;omega
       have hgl:okZ (Int.gcd x y:Int):=by
        have:(Int.gcd x y:Int).natAbs<=y.natAbs:=by
         have hy:0<y.natAbs:=by rcases zb9 y with ⟨h,e⟩ | ⟨h,e⟩ | ⟨h,e⟩<;>omega
         exact Nat.le_of_dvd hy (Nat.gcd_dvd_right _ _)
        exact Nat.le_trans (zar this) hM
       have e:r=decide (ord (Int.gcd x y:Int) 1=0):=by
        rw [hr]
        apply decide_eq_decide.2
        rw [z9c]
        show zch _ _ _ _↔_
        unfold zch
        rw [zmj,zmj]
        constructor
        · exact fun h=>by have:=h.2.2.2;omega
        · exact fun h=>⟨h1,h2,h3,by omega⟩
       subst e
       have ho:=rOf 1 (by decide)
       have hc:=z3u (Int.gcd x y:Int) 1 hgl (yeq (by decide))
       refine rg ?_
       refine za7 (ylg x y hL hM) ?_
       refine rg ?_
       refine za7 ho ?_
       refine rg ?_
       refine za7 hc ?_
       refine rg ?_
       refine indk (by kernel_rfl) ?_
       refine rg ?_
       exact ⟨_,rfl,.one (.refl _)⟩
   · have e:=bad (fun h=>h2 h.2.1)
     subst e
     rw [decide_eq_false h2] at hRM
     refine za1.run [] Go.Proofs.Tryz.func137 rfl rfl ?_;conv=>simp (maxSteps:=2000000) (disch:=omega) only [go_sem,Nat.reduceAdd,Nat.reduceSub,Nat.reduceMul,Int.reduceToNat,Nat.reduceEqDiff,Nat.reduceBEq,Nat.reduceBneDiff,Go.Proofs.Tryz.f137,List.replicate]
     refine za7 hRL ?_
     refine rg ?_
     refine za7 hRM ?_
     refine rg ?_
     exact ⟨_,rfl,.one (.refl _)⟩
 · have e:=bad (fun h=>h1 h.1)
   subst e
   rw [decide_eq_false h1] at hRL
   refine za1.run [] Go.Proofs.Tryz.func137 rfl rfl ?_;conv=>simp (maxSteps:=2000000) (disch:=omega) only [go_sem,Nat.reduceAdd,Nat.reduceSub,Nat.reduceMul,Int.reduceToNat,Nat.reduceEqDiff,Nat.reduceBEq,Nat.reduceBneDiff,Go.Proofs.Tryz.f137,List.replicate]
   refine za7 hRL ?_
   refine rg ?_
   exact ⟨_,rfl,.one (.refl _)⟩
theorem zwp (r:Rat) (h:(Fc.of r).sz<=268435456):za1 prog 137 [.agg (Fc.of r).C] (.one (.raw (.bool true))):=by
 have:=ybe (Fc.of r) h
 rwa [decide_eq_true (Fc.zwd r)] at this
theorem ykv (x:Int) (d:Nat) (hx:okZ x) (hd:d≠0) (hl:(dig d).length<=268435456) :
 za1 prog 138 [.agg [.raw (.int .i64 (sg x)),.ints .i64 (dig x.natAbs)],.agg [.raw (.int .i64 1),.ints .i64 (dig d)]]
  (.tup [.agg [.raw (.int .i64 (sg (x*d))),.ints .i64 (dig (x*d).natAbs)],.one (.raw (.int .i64 0))]):=by
 have:=yc1 x (d:Int) hx hl
 rw [zet hd] at this
 exact this
theorem yob (c d:Nat) (hc0:c≠0) (hd:d≠0) (hc:(dig c).length<=268435456) (hl:(dig d).length<=268435456) :
 za1 prog 138 [.agg [.raw (.int .i64 1),.ints .i64 (dig c)],.agg [.raw (.int .i64 1),.ints .i64 (dig d)]]
  (.tup [.agg [.raw (.int .i64 1),.ints .i64 (dig (c*d))],.one (.raw (.int .i64 0))]):=by
 have:=ykv (c:Int) d hc hd hl
 rw [zet hc0,show (c:Int)*d=((c*d:Nat):Int) from (Int.natCast_mul c d).symm,zet (Nat.mul_ne_zero hc0 hd)] at this
 exact this
theorem yny (x y:Rat) (ha:(Fc.of x).sz<=67108864) (hb:(Fc.of y).sz<=67108864) :
 za1 prog 108 [.agg (Fc.of x).C,.agg (Fc.of y).C] (.tup [.agg (Fc.of (x*y)).C,.one (.raw (.int .i64 0))]):=by
 have lx:=szO ha
 have ly:=szO hb
 have l1:=zhj x.num y.num
 have l4:=zf7 x.den y.den
 rw [Rat.mul_def']
 refine za1.run [] Go.Proofs.Tryz.func108 rfl rfl ?_;conv=>simp (maxSteps:=2000000) (disch:=omega) only [go_sem,Nat.reduceAdd,Nat.reduceSub,Nat.reduceMul,Int.reduceToNat,Nat.reduceEqDiff,Nat.reduceBEq,Nat.reduceBneDiff,Go.Proofs.Tryz.f108,List.replicate]
 refine za7 (zwp x (by omega)) ?_
 refine rg ?_
 refine za7 (zwp y (by omega)) ?_
 refine rg ?_
 refine za7 (yc1 x.num y.num (by unfold okZ;omega) (by unfold okZ;omega)) ?_
 refine rg ?_
 refine za7 (yob x.den y.den x.den_nz y.den_nz (by omega) (by omega)) ?_
 refine rg ?_
 refine za7 (yjg (x.num*y.num) (x.den*y.den) (by unfold okZ;omega) (Nat.mul_ne_zero x.den_nz y.den_nz) (by omega)) ?_
 refine rg ?_
 exact ⟨_,rfl,.tup (.cons (.refl _) (.cons (.refl _) .nil))⟩
end Go.Slot.T

namespace Go.Hp.T
open Go Go.RowKit Go.Slot Go.Hp Go.Slot.T
open Go.Proofs.Tryz (prog)
set_option maxRecDepth 10000
set_option maxHeartbeats 4000000
variable {Γ:List (Nat×List Cell)}
theorem yfc (z:Int) (d:Nat) (hz:okZ z) (hd:d≠0) (hl:(dig d).length<=268435456):CallsD Γ prog 139 [.agg (zC z),.agg (zC d)] (.tup [.agg (Fc.of (Rat.divInt z d)).C,.one (cI 0)]):=by
 have:=toD (Γ:=Γ) (yjg z d hz hd hl)
 rw [Rat.divInt_ofNat]
 unfold zC
 rw [zet hd]
 exact this
theorem zry (x:Rat) (h:qs x<=268435456):CallsD Γ prog 137 [.agg (fQ x)] (.one (cB true)):=toD (zwp x h)
theorem z2t (x y:Rat) (hx:qs x<=67108864) (hy:qs y<=67108864):CallsD Γ prog 108 [.agg (fQ x),.agg (fQ y)] (.tup [.agg (fQ (x*y)),.one (cI 0)]):=toD (yny x y hx hy)
theorem zqa (n:Int) (hn:inI n):CallsD Γ prog 106 [.one (cI n)] (.agg (fQ (n:Rat))):=toD (yom n hn)
theorem s5Of (p:Int) (q:Nat) (hp:inI p) (hq:inI q) (hq0:q≠0):CallsD Γ prog 134 [.one (cI p),.one (cI q)] (.tup [.agg (fQ (Rat.divInt p q)),.one (cI 0)]):=by
 have okI:∀ n:Int,inI n->okZ n:=fun n hn=>by
  unfold okZ
  have:=zdb (n:=n.natAbs) (by unfold inI at hn;omega)
  omega
 have hl:(dig q).length<=268435456:=by have:=okI q hq;unfold okZ at this;simpa using this
 refine CallsD.run [] Go.Proofs.Tryz.func134 rfl rfl rfl ?_;simp only [Go.Proofs.Tryz.f134];refine hgR ?_
 repeat' ((first | refine hfk ?_ ?_<;>intros | refine hik ?_ | with_reducible first | refine za3 (toD (rOf p hp)) ?_ | refine za0 (toD (rOf p hp)) ?_ | refine za3 (toD (rOf q hq)) ?_ | refine za0 (toD (rOf q hq)) ?_ | refine za3 (yfc p q (okI p hp) hq0 hl) ?_ | refine za0 (yfc p q (okI p hp) hq0 hl) ?_)<;>refine hgS ?_)
 exact RLe.ofEq rfl
theorem yn0 (x y:Rat) (hy:0<y.num) (hx:qs x<=67108864) (hyl:qs y<=67108864):CallsD Γ prog 140 [.agg (fQ x),.agg (fQ y)] (.tup [.agg (fQ (x / y)),.one (cI 0)]):=by
 have lx:=szO hx
 have ly:=szO hyl
 have l1:=zhj x.num y.den
 have l4:=zhj (x.den:Int) y.num
 have hsy:sg y.num≠0:=by have:=zb9 y.num;omega
 have hD:okZ (x.den:Int):=by unfold okZ;have:=lx.2;simp only [Int.natAbs_natCast];omega
 have hDy:okZ (y.den:Int):=by unfold okZ;have:=ly.2;simp only [Int.natAbs_natCast];omega
 have t1:=yc1 x.num y.den (by unfold okZ;omega) hDy
 have t2:=yc1 (x.den:Int) y.num hD (by unfold okZ;omega)
 rw [zet y.den_nz] at t1
 rw [zet x.den_nz] at t2
 simp only [Int.natAbs_natCast] at t1 t2
 obtain ⟨m,hm⟩:∃ m:Nat,(x.den:Int)*y.num=m:=⟨((x.den:Int)*y.num).toNat,by
  have:0<=(x.den:Int)*y.num:=Int.mul_nonneg (by omega) (by omega)
  omega⟩
 have hm0:m≠0:=by
  intro h0
  have:(x.den:Int)*y.num≠0:=Int.mul_ne_zero (by have:=x.den_nz;omega) (by omega)
  omega
 have hn:=yfc (Γ:=Γ) (x.num*y.den) m (by unfold okZ;simp only [Int.natAbs_natCast] at l1;omega) hm0 (by
  simp only [Int.natAbs_natCast] at l4
  rw [hm] at l4
  simp only [Int.natAbs_natCast] at l4
  omega)
 rw [z63,hm]
 rw [hm] at t2
 refine CallsD.run [] Go.Proofs.Tryz.func140 rfl rfl rfl ?_;simp only [Go.Proofs.Tryz.f140];refine hgR ?_
 repeat' ((first | refine hfk ?_ ?_<;>intros | refine hik ?_ | with_reducible first | refine za3 (zry x (by omega)) ?_ | refine za0 (zry x (by omega)) ?_ | refine za3 (zry y (by omega)) ?_ | refine za0 (zry y (by omega)) ?_ | refine za3 (toD t1) ?_ | refine za0 (toD t1) ?_ | refine za3 (toD t2) ?_ | refine za0 (toD t2) ?_ | refine za3 (hn) ?_ | refine za0 (hn) ?_)<;>refine hgS ?_)
 exact RLe.ofEq rfl
theorem yav (c:Int):CallsD Γ prog 157 [.one (c8 c)] (.one (cB (zaq c))):=by
 refine CallsD.run [] Go.Proofs.Tryz.func157 rfl rfl rfl ?_;simp only [Go.Proofs.Tryz.f157];refine hgR ?_
 repeat' ((first | refine hfk ?_ ?_<;>intros | refine hik ?_)<;>refine hgS ?_)
 all_goals (refine RLe.ofEq ?_;conv=>simp only [Bool.and_true,Bool.true_and,Bool.and_false,Bool.false_and,Bool.or_true,Bool.true_or,Bool.or_false,Bool.false_or,Bool.not_true,Bool.not_false,decide_true,decide_false,not_true_eq_false,not_false_eq_true,za2,if_true,if_false,Bool.and_self,Bool.or_self,cond_true,cond_false,List.length_map,ne_eq,Int.reduceEq,Int.reduceLT,Int.reduceLE, *,zaq]);first | exact trivial | rfl
theorem ydm (b e:Int) (f:Rat) (hb:b=0∨b=1∨b=2∨b=3∨b=4∨b=5):CallsD Γ prog 159 [.one (cI b),.one (cI e),.agg (fQ f)] (.agg (unC ⟨ycs b e,f⟩)):=by
 rcases hb with rfl | rfl | rfl | rfl | rfl | rfl
 all_goals
  refine CallsD.run [] Go.Proofs.Tryz.func159 rfl rfl rfl ?_;simp only [Go.Proofs.Tryz.f159];refine hgR ?_
  repeat' ((first | refine hfk ?_ ?_<;>intros | refine hik ?_)<;>refine hgS ?_)
  exact RLe.ofEq rfl
theorem yd4 (b e n:Int):unOf b e n 1=⟨ycs b e,(n:Rat)⟩:=by
 unfold unOf
 congr 1
 rw [show (1:Int)=((1:Nat):Int) from rfl,Rat.divInt_ofNat,Rat.mkRat_one]
theorem zfn (b e n:Int) (hb:b=0∨b=1∨b=2∨b=3∨b=4∨b=5):CallsD Γ prog 159 [.one (cI b),.one (cI e),.agg (fQ (n:Rat))] (.agg (unC (unOf b e n 1))):=by
 rw [yd4];exact ydm b e n hb
theorem zqn (p:Int) (q:Nat) (hp:inI p) (hq:inI q) (hq0:q≠0):CallsD Γ prog 160 [.one (cI p),.one (cI q)] (.agg (fQ (Rat.divInt p q))):=by
 refine CallsD.run [] Go.Proofs.Tryz.func160 rfl rfl rfl ?_;simp only [Go.Proofs.Tryz.f160];refine hgR ?_
 repeat' ((first | refine hfk ?_ ?_<;>intros | refine hik ?_ | with_reducible first | refine za3 (s5Of p q hp hq hq0) ?_ | refine za0 (s5Of p q hp hq hq0) ?_)<;>refine hgS ?_)
 exact RLe.ofEq rfl
theorem zt2 (s:ByteArray):CallsD Γ prog 135 [.one (cS s)] (.tup [.agg (unO (symF s)),.one (cB (symF s).isSome)]):=by
 have i1:=zqa (Γ:=Γ) 1 (by decide)
 have i2:=zqa (Γ:=Γ) 1000000 (by decide)
 have i3:=zqa (Γ:=Γ) 3600 (by decide)
 have i4:=zqa (Γ:=Γ) 86400 (by decide)
 have i5:=zqa (Γ:=Γ) 100 (by decide)
 have i6:CallsD Γ prog 160 [.one (cI 1),.one (cI 1000)] (.agg (fQ (Rat.divInt 1 1000))):=zqn 1 1000 (by decide) (by decide) (by decide)
 have h1:=zfn (Γ:=Γ) 0 1 1 (by decide)
 have h2:=zfn (Γ:=Γ) 0 1 1000000 (by decide)
 have h3:=zfn (Γ:=Γ) 1 1 1 (by decide)
 have h4:CallsD Γ prog 159 [.one (cI 1),.one (cI 3),.agg (fQ (Rat.divInt 1 1000))] (.agg (unC (unOf 1 3 1 1000))):=ydm 1 3 _ (by decide)
 have h5:=zfn (Γ:=Γ) 2 1 1 (by decide)
 have h6:=zfn (Γ:=Γ) 2 1 3600 (by decide)
 have h7:=zfn (Γ:=Γ) 2 1 86400 (by decide)
 have h8:=zfn (Γ:=Γ) 3 1 1 (by decide)
 have h9:=zfn (Γ:=Γ) 3 1 3600 (by decide)
 have h10:=zfn (Γ:=Γ) 4 1 1 (by decide)
 have h11:=zfn (Γ:=Γ) 4 1 100 (by decide)
 have h12:=zfn (Γ:=Γ) 5 1 1 (by decide)
 refine CallsD.run [] Go.Proofs.Tryz.func135 rfl rfl rfl ?_;simp only [Go.Proofs.Tryz.f135];refine hgR ?_
 repeat' ((first | refine hfk ?_ ?_<;>intros | refine hik ?_ | with_reducible first | refine za3 (i1) ?_ | refine za0 (i1) ?_ | refine za3 (i2) ?_ | refine za0 (i2) ?_ | refine za3 (i3) ?_ | refine za0 (i3) ?_ | refine za3 (i4) ?_ | refine za0 (i4) ?_ | refine za3 (i5) ?_ | refine za0 (i5) ?_ | refine za3 (i6) ?_ | refine za0 (i6) ?_ | refine za3 (h1) ?_ | refine za0 (h1) ?_ | refine za3 (h2) ?_ | refine za0 (h2) ?_ | refine za3 (h3) ?_ | refine za0 (h3) ?_ | refine za3 (h4) ?_ | refine za0 (h4) ?_ | refine za3 (h5) ?_ | refine za0 (h5) ?_ | refine za3 (h6) ?_ | refine za0 (h6) ?_ | refine za3 (h7) ?_ | refine za0 (h7) ?_ | refine za3 (h8) ?_ | refine za0 (h8) ?_ | refine za3 (h9) ?_ | refine za0 (h9) ?_ | refine za3 (h10) ?_ | refine za0 (h10) ?_ | refine za3 (h11) ?_ | refine za0 (h11) ?_ | refine za3 (h12) ?_ | refine za0 (h12) ?_)<;>refine hgS ?_)
 all_goals (refine RLe.ofEq ?_;conv=>simp only [Bool.and_true,Bool.true_and,Bool.and_false,Bool.false_and,Bool.or_true,Bool.true_or,Bool.or_false,Bool.false_or,Bool.not_true,Bool.not_false,decide_true,decide_false,not_true_eq_false,not_false_eq_true,za2,if_true,if_false,Bool.and_self,Bool.or_self,cond_true,cond_false,List.length_map,ne_eq,Int.reduceEq,Int.reduceLT,Int.reduceLE, *,symF,unO,Option.isSome]);first | exact trivial | rfl
def prQ (c:Int):Option Rat:=(preF c).map fun p=>Rat.divInt p.1 p.2
def frO:Option Rat->List Cell
 | some f=>fQ f
 | none=>[cI 0,.zc,cI 0,.zc]
theorem z9f (c:Int):CallsD Γ prog 136 [.one (c8 c)] (.tup [.agg (frO (prQ c)),.one (cB (preF c).isSome)]):=by
 have e:∀ n:Int,Rat.divInt n 1=(n:Rat):=fun n=>by rw [show (1:Int)=((1:Nat):Int) from rfl,Rat.divInt_ofNat,Rat.mkRat_one]
 have i1:=zqa (Γ:=Γ) 1000 (by decide)
 have i2:=zqa (Γ:=Γ) 1000000 (by decide)
 have i3:=zqa (Γ:=Γ) 1000000000 (by decide)
 have i6:CallsD Γ prog 160 [.one (cI 1),.one (cI 1000)] (.agg (fQ (Rat.divInt 1 1000))):=zqn 1 1000 (by decide) (by decide) (by decide)
 refine CallsD.run [] Go.Proofs.Tryz.func136 rfl rfl rfl ?_;simp only [Go.Proofs.Tryz.f136];refine hgR ?_
 repeat' ((first | refine hfk ?_ ?_<;>intros | refine hik ?_ | with_reducible first | refine za3 (i1) ?_ | refine za0 (i1) ?_ | refine za3 (i2) ?_ | refine za0 (i2) ?_ | refine za3 (i3) ?_ | refine za0 (i3) ?_ | refine za3 (i6) ?_ | refine za0 (i6) ?_)<;>refine hgS ?_)
 all_goals (refine RLe.ofEq ?_;conv=>simp only [Bool.and_true,Bool.true_and,Bool.and_false,Bool.false_and,Bool.or_true,Bool.true_or,Bool.or_false,Bool.false_or,Bool.not_true,Bool.not_false,decide_true,decide_false,not_true_eq_false,not_false_eq_true,za2,if_true,if_false,Bool.and_self,Bool.or_self,cond_true,cond_false,List.length_map,ne_eq,Int.reduceEq,Int.reduceLT,Int.reduceLE, *,prQ,preF,frO,Option.map_some,Option.map_none,Option.isSome,e]);first | exact trivial | rfl
end Go.Hp.T

namespace Go.Hp.T
open Go Go.RowKit Go.Slot Go.Hp Go.Slot.T
open Go.Proofs.Tryz (prog)
set_option maxRecDepth 10000
set_option maxHeartbeats 4000000
variable {Γ:List (Nat×List Cell)}
theorem zu8 {p q:Int} (hp:1<=p) (hq:1<=q):0<=Rat.divInt p q:=by
 obtain ⟨n,rfl⟩:∃ n:Nat,q=n:=⟨q.toNat,by omega⟩
 rw [Rat.divInt_ofNat]
 exact (Rat.divInt_ofNat p n)▸Rat.divInt_nonneg (by omega) (by omega)
theorem z7e {s:ByteArray} {u:Un} (h:symF s=some u):0<=u.f:=by
 unfold symF at h
 repeat' first
  | (cases h;exact zu8 (by omega) (by omega))
  | (cases hc:seq s _<;>rw [hc] at h<;>simp only [cond_true,cond_false] at h)
 cases h
theorem z3n {s:ByteArray} {u:Un} (h:zcy s=some u):0<=u.f:=by
 unfold zcy at h
 cases h1:(symF s).isSome with
 | true=>
  rw [h1,cond_true] at h
  exact z7e h
 | false=>
  rw [h1,cond_false] at h
  cases h2:(!(preF (zab s 0)).isSome||!(symF (za8 s 1)).isSome||!zgq (za8 s 1)) with
  | true=>rw [h2,cond_true] at h;cases h
  | false=>
   rw [h2,cond_false] at h
   split at h
   · rename_i p v hp hv
     cases h
     obtain ⟨d,e⟩:=zrn hp
     exact Rat.mul_nonneg (z7e hv) (zu8 d.1 e.1)
   · cases h
theorem z28 {s:ByteArray} {u:Un} (h:zcy s=some u):0<u.f.num:=by
 have h1:=Rat.num_nonneg.2 (z3n h)
 have h2:=(zop h).2.2
 have h3:u.f.num≠0:=fun e=>h2 (Rat.num_eq_zero.1 e)
 omega
theorem z1e:symF ⟨#[]⟩=none:=by kernel_rfl
theorem z71 {s:ByteArray} (h:s.size<2):symF (za8 s 1)=none:=by
 have e:za8 s 1=⟨#[]⟩:=ByteArray.ext (Array.eq_empty_of_size_eq_zero (by have:=zas s 1;have h2:(za8 s 1).size=(za8 s 1).data.size:=rfl;omega))
 rw [e]
 exact z1e
theorem yn8 (s:ByteArray) (hs:s.size<=1073741824):CallsD Γ prog 107 [.one (cS s)] (.tup [.agg (unO (zcy s)),.one (cB (zcy s).isSome)]):=by
 refine CallsD.run [] Go.Proofs.Tryz.func107 rfl rfl rfl ?_;simp only [Go.Proofs.Tryz.f107];refine hgR ?_
 refine za3 (zt2 s) ?_
 cases hy:symF s with
 | some u=>
  conv=>simp (maxSteps:=2000000) (disch:=omega) only [go_sem,Nat.reduceAdd,Nat.reduceSub,Nat.reduceMul,Int.reduceToNat,Nat.reduceEqDiff,Nat.reduceBEq,Nat.reduceBneDiff,Nat.reduceLT,Int.reduceEq,Int.reduceLT,Int.reduceLE,Int.reduceNeg,Int.reduceAdd,Int.reduceSub,Int.reduceMul,unO,Option.isSome]
  exact RLe.ofEq (by simp only [zcy,hy];rfl)
 | none=>
  conv=>simp (maxSteps:=2000000) (disch:=omega) only [go_sem,Nat.reduceAdd,Nat.reduceSub,Nat.reduceMul,Int.reduceToNat,Nat.reduceEqDiff,Nat.reduceBEq,Nat.reduceBneDiff,Nat.reduceLT,Int.reduceEq,Int.reduceLT,Int.reduceLE,Int.reduceNeg,Int.reduceAdd,Int.reduceSub,Int.reduceMul,unO,Option.isSome]
  refine zfv (fun hlt _=>?_) (fun hge _=>?_)
  · refine hg ?_
    exact RLe.ofEq (by simp only [zcy,hy,z71 (show s.size<2 by omega)];cases (preF (zab s 0)).isSome<;>rfl)
  refine hg ?_
  refine za3 (z9f _) ?_
  cases hp:preF (zab s 0) with
  | none=>
   conv=>simp (maxSteps:=2000000) (disch:=omega) only [go_sem,Nat.reduceAdd,Nat.reduceSub,Nat.reduceMul,Int.reduceToNat,Nat.reduceEqDiff,Nat.reduceBEq,Nat.reduceBneDiff,Nat.reduceLT,Int.reduceEq,Int.reduceLT,Int.reduceLE,Int.reduceNeg,Int.reduceAdd,Int.reduceSub,Int.reduceMul,prQ,hp,frO,Option.map_none,Option.isSome]
   refine za3 (zt2 _) ?_
   cases hy2:symF (za8 s 1)<;>
   · conv=>simp (maxSteps:=2000000) (disch:=omega) only [go_sem,Nat.reduceAdd,Nat.reduceSub,Nat.reduceMul,Int.reduceToNat,Nat.reduceEqDiff,Nat.reduceBEq,Nat.reduceBneDiff,Nat.reduceLT,Int.reduceEq,Int.reduceLT,Int.reduceLE,Int.reduceNeg,Int.reduceAdd,Int.reduceSub,Int.reduceMul,unO,Option.isSome]
     exact RLe.ofEq (by simp only [zcy,hy,hp];rfl)
  | some p=>
   conv=>simp (maxSteps:=2000000) (disch:=omega) only [go_sem,Nat.reduceAdd,Nat.reduceSub,Nat.reduceMul,Int.reduceToNat,Nat.reduceEqDiff,Nat.reduceBEq,Nat.reduceBneDiff,Nat.reduceLT,Int.reduceEq,Int.reduceLT,Int.reduceLE,Int.reduceNeg,Int.reduceAdd,Int.reduceSub,Int.reduceMul,prQ,hp,frO,Option.map_some,Option.isSome]
   refine za3 (zt2 _) ?_
   cases hy2:symF (za8 s 1) with
   | none=>
    conv=>simp (maxSteps:=2000000) (disch:=omega) only [go_sem,Nat.reduceAdd,Nat.reduceSub,Nat.reduceMul,Int.reduceToNat,Nat.reduceEqDiff,Nat.reduceBEq,Nat.reduceBneDiff,Nat.reduceLT,Int.reduceEq,Int.reduceLT,Int.reduceLE,Int.reduceNeg,Int.reduceAdd,Int.reduceSub,Int.reduceMul,unO,Option.isSome]
    exact RLe.ofEq (by simp only [zcy,hy,hp,hy2];rfl)
   | some u=>
    obtain ⟨_,hu1,_⟩:=zs5 hy2
    obtain ⟨hp1,hp2⟩:=zrn hp
    obtain ⟨hf1,_⟩:=zkr hp1 hp2
    conv=>simp (maxSteps:=2000000) (disch:=omega) only [go_sem,Nat.reduceAdd,Nat.reduceSub,Nat.reduceMul,Int.reduceToNat,Nat.reduceEqDiff,Nat.reduceBEq,Nat.reduceBneDiff,Nat.reduceLT,Int.reduceEq,Int.reduceLT,Int.reduceLE,Int.reduceNeg,Int.reduceAdd,Int.reduceSub,Int.reduceMul,unO,Option.isSome]
    repeat' ((first | refine hfk ?_ ?_<;>intros | refine hik ?_ | with_reducible first | refine za3 (z2t _ _ (Nat.le_trans hu1 (by decide)) (Nat.le_trans hf1 (by decide))) ?_ | refine za0 (z2t _ _ (Nat.le_trans hu1 (by decide)) (Nat.le_trans hf1 (by decide))) ?_)<;>refine hgS ?_)
    all_goals exact RLe.ofEq (by simp only [zcy,hy,hp,hy2];simp [zgq, *])
theorem z5s (f:Rat) (x:Int) (hx:x.natAbs<=1000) (hf:qs f<=1000) (hf0:0<f.num):CallsD Γ prog 109 [.agg (fQ f),.one (cI x)] (.agg (fQ (zht (1:Int) f x))):=by
 have h1:=zqa (Γ:=Γ) 1 (by decide)
 have q1:=zy2
 by_cases hp:0<x
 · have hneg:decide (x<0)=false:=decide_eq_false (by omega)
   refine CallsD.run [] Go.Proofs.Tryz.func109 rfl rfl rfl ?_;simp only [Go.Proofs.Tryz.f109];refine hgR ?_
   refine za3 h1 ?_
   refine hg ?_
   refine zcu [1,2,4,5] (fun i:Nat=>[(6,.one (.dat (cI i)))]) (fun i=>[.box ((fQ f).map .dat) (some 47),.box [.dat (cI 0),.dat .zc,.dat (cI 0),.dat .zc] (some 47),.box ((fQ (pw (1:Int) f x i)).map .dat) (some 47)]) (fun i=>i<=x.natAbs) (fun i=>x.natAbs-i) 0 (Nat.zero_le _) ?_ ?_
   · refine hg ?_
     exact StH.same svl (by rw [zm6])
   intro i hi
   have hq:=zxa (1:Int) f x i
   have hm:i*(qs f+1)<=1000*1001:=Nat.mul_le_mul (by omega) (by omega)
   refine hg ?_
   refine zfv (fun hlt _=>?_) (fun hlt _=>?_)
   · refine hg ?_
     repeat' ((first | refine hfk ?_ ?_<;>intros | refine hik ?_ | with_reducible first | refine za3 (z2t (pw (1:Int) f x i) f (by omega) (by omega)) ?_ | refine za0 (z2t (pw (1:Int) f x i) f (by omega) (by omega)) ?_)<;>refine hgS ?_)
     exact ⟨i+1,by omega,by omega,StH.same svl (by rw [zvn hp])⟩
   · have e:i=x.natAbs:=by omega
     refine hg ?_
     refine zcs ?_
     conv=>simp (maxSteps:=2000000) (disch:=omega) only [go_sem,Nat.reduceAdd,Nat.reduceSub,Nat.reduceMul,Int.reduceToNat,Nat.reduceEqDiff,Nat.reduceBEq,Nat.reduceBneDiff,Nat.reduceLT,Int.reduceEq,Int.reduceLT,Int.reduceLE,Int.reduceNeg,Int.reduceAdd,Int.reduceSub,Int.reduceMul,hneg]
     exact RLe.ofEq (by rw [zf6,<-e])
 · have hneg:decide ((0:Int)<x)=false:=decide_eq_false hp
   refine CallsD.run [] Go.Proofs.Tryz.func109 rfl rfl rfl ?_;simp only [Go.Proofs.Tryz.f109];refine hgR ?_
   refine za3 h1 ?_
   refine hg ?_
   refine zcs ?_
   conv=>simp (maxSteps:=2000000) (disch:=omega) only [go_sem,Nat.reduceAdd,Nat.reduceSub,Nat.reduceMul,Int.reduceToNat,Nat.reduceEqDiff,Nat.reduceBEq,Nat.reduceBneDiff,Nat.reduceLT,Int.reduceEq,Int.reduceLT,Int.reduceLE,Int.reduceNeg,Int.reduceAdd,Int.reduceSub,Int.reduceMul,hneg]
   refine zcu [1,2,4,5] (fun i:Nat=>[(7,.one (.dat (cI (-(i:Int)))))]) (fun i=>[.box ((fQ f).map .dat) (some 47),.box [.dat (cI 0),.dat .zc,.dat (cI 0),.dat .zc] (some 47),.box ((fQ (pw (1:Int) f x i)).map .dat) (some 47)]) (fun i=>i<=x.natAbs) (fun i=>x.natAbs-i) 0 (Nat.zero_le _) ?_ ?_
   · refine hg ?_
     exact StH.same svl (by rw [zm6])
   intro i hi
   have hq:=zxa (1:Int) f x i
   have hm:i*(qs f+1)<=1000*1001:=Nat.mul_le_mul (by omega) (by omega)
   refine hg ?_
   refine zfv (fun hlt _=>?_) (fun hlt _=>?_)
   · refine hg ?_
     repeat' ((first | refine hfk ?_ ?_<;>intros | refine hik ?_ | with_reducible first | refine za3 (yn0 (pw (1:Int) f x i) f hf0 (by omega) (by omega)) ?_ | refine za0 (yn0 (pw (1:Int) f x i) f hf0 (by omega) (by omega)) ?_)<;>refine hgS ?_)
     refine ⟨i+1,by omega,by omega,?_⟩
     rw [show (-(i:Int)-1) = -((i+1:Nat):Int) by omega]
     exact StH.same svl (by rw [zvk hp])
   · have e:i=x.natAbs:=by omega
     refine hg ?_
     exact RLe.ofEq (by rw [zf6,<-e])
end Go.Hp.T

namespace Go.Hp.T
open Go Go.RowKit Go.Slot Go.Hp Go.Slot.T
open Go.Proofs.Tryz (prog)
set_option maxRecDepth 10000
set_option maxHeartbeats 4000000
variable {Γ:List (Nat×List Cell)}
theorem zek (s:ByteArray) (k i:Nat) (h:k+i<s.size):zab (za8 s k) i=zab s (k+i):=by
 have h':k+i<s.data.size:=h
 unfold zab za8
 rw [ByteArray.data_extract,Array.getElem?_extract,if_pos (by simp only [Nat.min_def];split<;>simp_all<;>omega)]
theorem zgk (s:ByteArray) (a k:Nat):za8 (za8 s a) k=za8 s (a+k):=by
 unfold za8
 apply ByteArray.ext
 simp only [ByteArray.data_extract,ByteArray.size_extract,Array.extract_extract]
 congr 1
 omega
theorem z24 (s:ByteArray) (a n:Nat) (ha:a<=n) (hn:n<=s.size):zob (za8 s a) (n-a)=s.extract a n:=by
 unfold za8 zob
 apply ByteArray.ext
 simp only [ByteArray.data_extract,Array.extract_extract]
 congr 1
 omega
theorem z1c (c:UInt8) (s:ByteArray):za8 (⟨#[c]⟩++s) 1=s:=by
 unfold za8
 apply ByteArray.ext
 rw [ByteArray.data_extract,ByteArray.data_append,ByteArray.size_append]
 have h1:(⟨#[c]⟩:ByteArray).size=1:=rfl
 have h2:(⟨#[c]⟩:ByteArray).data=#[c]:=rfl
 rw [h1,h2]
 apply Array.ext
 · have:s.size=s.data.size:=rfl
   simp only [Array.size_extract,Array.size_append,List.size_toArray,List.length_cons,List.length_nil]
   omega
 · intro i h3 h4
   rw [Array.getElem_extract,Array.getElem_append_right (by simp)]
   try simp
theorem yjh {s:ByteArray} (h:1<=s.size):zhw s ⟨#[49]⟩=decide (zab s 0=49):=by
 unfold zhw
 rw [show ((⟨#[49]⟩:ByteArray).size)=1 from rfl,decide_eq_true (show ((1:Nat):Int)<=s.size by omega),Bool.true_and,zod]
 refine decide_eq_decide.2 ⟨fun e=>?_,fun e=>?_⟩
 · have h':0<s.data.size:=h
   have h1:zab (zob s 1) 0=49:=by rw [e];rfl
   unfold zab zob at h1
   rw [ByteArray.data_extract,Array.getElem?_extract,if_pos (by simp only [Nat.min_def];split<;>simp_all<;>omega)] at h1
   simpa [zab] using h1
 · have h':0<s.data.size:=h
   unfold zab at e
   rw [Array.getElem?_eq_getElem h'] at e
   simp only [Option.getD_some] at e
   have e2:s.data[0]=49:=UInt8.toNat_inj.1 (by have:(s.data[0]).toNat=49:=(by omega);rw [this];rfl)
   unfold zob
   apply ByteArray.ext
   rw [ByteArray.data_extract]
   apply Array.ext
   · simp;omega
   · intro i h1 h2
     have hi:i=0:=by simp at h2;omega
     subst hi
     rw [Array.getElem_extract]
     simpa using e2
def spI (r:ByteArray):List Cell:=bif zbw r then itC (zbz r) else [cS ⟨⟨[]⟩⟩,cI 0]
def spN (s:ByteArray) (a:Nat):Nat:=bif zbw (za8 s a) then s.size-(zb1 (za8 s a)).size else a
theorem ykz {s:ByteArray} {a:Nat} (h:zgo zaq (za8 s a)=0):zbw (za8 s a)=false:=by
 unfold zbw;rw [h];rfl
theorem ydn {s:ByteArray} {a n:Nat} (ha:a<n) (hn:n<=s.size) (h:zgo zaq (za8 s a)=n-a):zbw (za8 s a)=true/\zda (za8 s a)=za8 s n/\(zbz (za8 s a)).w=s.extract a n/\
 zje (za8 s a)=(decide (n<s.size)&&decide (50<=zab s n)&&decide (zab s n<=57)):=by
 have e1:zda (za8 s a)=za8 s n:=by
  unfold zda
  rw [h,zgk]
  congr 1
  omega
 refine ⟨?_,e1,?_,?_⟩
 · unfold zbw;rw [h];exact decide_eq_true (by omega)
 · unfold zbz
   show zob (za8 s a) (zgo zaq (za8 s a))=_
   rw [h,z24 s a n (by omega) hn]
 · unfold zje
   rw [e1,zas]
   by_cases hlt:n<s.size
   · rw [decide_eq_true hlt,decide_eq_true (show ¬s.size-n=0 by omega),zek s n 0 (by omega),Nat.add_zero]
   · rw [decide_eq_false hlt,decide_eq_false (show ¬¬s.size-n=0 by omega)]
     rfl
theorem ymv {s:ByteArray} {a n:Nat} (ha:a<n) (hn:n<=s.size) (h:zgo zaq (za8 s a)=n-a) (hd:(decide (n<s.size)&&decide (50<=zab s n)&&decide (zab s n<=57))=true) :
 spI (za8 s a)=[cS (s.extract a n),cI (zab s n-48)]/\spN s a=n+1/\zbw (za8 s a)=true:=by
 obtain ⟨h1,h2,h3,h4⟩:=ydn ha hn h
 rw [hd] at h4
 have hlt:n<s.size:=by
  simp only [Bool.and_eq_true,decide_eq_true_eq] at hd
  exact hd.1.1
 refine ⟨?_,?_,h1⟩
 · unfold spI
   rw [h1,cond_true]
   have e:(zbz (za8 s a)).e=zab s n-48:=by
    unfold zbz
    rw [h4]
    show zab (zda (za8 s a)) 0-48=_
    rw [h2,zek s n 0 (by omega),Nat.add_zero]
   rw [itC,h3,e]
 · unfold spN zb1
   rw [h1,h4,cond_true,cond_true,h2,zgk,zas]
   omega
theorem zyy {s:ByteArray} {a n:Nat} (ha:a<n) (hn:n<=s.size) (h:zgo zaq (za8 s a)=n-a) (hd:(decide (n<s.size)&&decide (50<=zab s n)&&decide (zab s n<=57))=false) :
 spI (za8 s a)=[cS (s.extract a n),cI 1]/\spN s a=n/\zbw (za8 s a)=true:=by
 obtain ⟨h1,h2,h3,h4⟩:=ydn ha hn h
 rw [hd] at h4
 refine ⟨?_,?_,h1⟩
 · unfold spI
   rw [h1,cond_true]
   have e:(zbz (za8 s a)).e=1:=by
    unfold zbz
    rw [h4];rfl
   rw [itC,h3,e]
 · unfold spN zb1
   rw [h1,h4,cond_true,cond_false,h2,zas]
   omega
theorem z81 (s:ByteArray) (a:Nat) (hs:s.size<=1073741824) (ha:a<=s.size):CallsD Γ prog 133 [.one (cS s),.one (cI a)] (.tup [.agg (spI (za8 s a)),.one (cI (spN s a)),.one (cB (zbw (za8 s a)))]):=by
 have hsz:=zas s a
 refine CallsD.run [] Go.Proofs.Tryz.func133 rfl rfl rfl ?_;simp only [Go.Proofs.Tryz.f133];refine hgR ?_
 refine zcu [0,1,4] (fun n:Nat=>[(7,.one (.dat (cI n)))]) (fun _=>[.box [.dat (cS ⟨⟨[]⟩⟩),.dat (cI 0)] (some 150)]) (fun n=>a<=n/\n<=s.size/\∀ j,a<=j->j<n->zaq (zab s j)=true) (fun n=>s.size-n) a ⟨Nat.le_refl _,ha,fun j h1 h2=>by omega⟩ ?_ ?_
 · refine hg ?_
   exact StH.same svl rfl
 intro n hn
 obtain ⟨h1,h2,hj⟩:=hn
 have hj':∀ j,j<n-a->zaq (zab (za8 s a) j)=true:=fun j h=>by
  rw [zek _ _ _ (by omega)]
  exact hj _ (by omega) (by omega)
 refine hg ?_
 refine z3p (fun hlt hd=>?_) (fun hlt _=>?_)
 · have hmin:min (n:Int) ((s.size:Int)-1)=n:=by omega
   conv=>simp (maxSteps:=2000000) (disch:=omega) only [go_sem,Nat.reduceAdd,Nat.reduceSub,Nat.reduceMul,Int.reduceToNat,Nat.reduceEqDiff,Nat.reduceBEq,Nat.reduceBneDiff,Nat.reduceLT,Int.reduceEq,Int.reduceLT,Int.reduceLE,Int.reduceNeg,Int.reduceAdd,Int.reduceSub,Int.reduceMul,hd,hmin]
   refine za3 (yav _) ?_
   refine hg ?_
   refine yfb (fun h3=>?_) (fun h3=>?_)
   · refine hg ?_
     refine ⟨n+1,⟨by omega,by omega,fun j g1 g2=>?_⟩,by omega,StH.same svl rfl⟩
     rcases Nat.lt_or_eq_of_le (Nat.le_of_lt_succ g2) with g | g
     · exact hj j g1 g
     · rw [g];exact h3
   have hsp:=ze6 (p:=zaq) (s:=za8 s a) (n:=n-a) (by omega) hj' (.inr (by rw [zek _ _ _ (by omega),show a+(n-a)=n by omega];exact h3))
   refine hg ?_
   refine zfv (fun he _=>?_) (fun he _=>?_)
   · have e:n=a:=by omega
     subst e
     refine hg ?_
     have e2:=ykz (s:=s) (a:=n) (by rw [hsp];omega)
     exact RLe.ofEq (by unfold spI spN;rw [e2];rfl)
   have hn1:decide (n<s.size)=true:=decide_eq_true (by omega)
   conv=>simp (maxSteps:=2000000) (disch:=omega) only [go_sem,Nat.reduceAdd,Nat.reduceSub,Nat.reduceMul,Int.reduceToNat,Nat.reduceEqDiff,Nat.reduceBEq,Nat.reduceBneDiff,Nat.reduceLT,Int.reduceEq,Int.reduceLT,Int.reduceLE,Int.reduceNeg,Int.reduceAdd,Int.reduceSub,Int.reduceMul,hd,hmin]
   repeat' ((first | refine hfk ?_ ?_<;>intros | refine hik ?_)<;>refine hgS ?_)
   · obtain ⟨g1,g2,g3⟩:=ymv (s:=s) (a:=a) (n:=n) (by omega) h2 hsp (by simp [*])
     exact RLe.ofEq (by rw [g1,g2,g3];rfl)
   all_goals
    obtain ⟨g1,g2,g3⟩:=zyy (s:=s) (a:=a) (n:=n) (by omega) h2 hsp (by simp [*])
    exact RLe.ofEq (by rw [g1,g2,g3])
 · have hsp:=ze6 (p:=zaq) (s:=za8 s a) (n:=n-a) (by omega) hj' (.inl (by omega))
   refine hgS ?_
   refine zfv (fun he _=>?_) (fun he _=>?_)
   · have e:n=a:=by omega
     subst e
     refine hg ?_
     have e2:=ykz (s:=s) (a:=n) (by rw [hsp];omega)
     exact RLe.ofEq (by unfold spI spN;rw [e2];rfl)
   refine hgS ?_
   obtain ⟨g1,g2,g3⟩:=zyy (s:=s) (a:=a) (n:=n) (by omega) h2 hsp (by rw [decide_eq_false (show ¬n<s.size by omega)];rfl)
   repeat' ((first | refine hfk ?_ ?_<;>intros | refine hik ?_)<;>refine hgS ?_)
   all_goals exact RLe.ofEq (by rw [g1,g2,g3])
end Go.Hp.T
