/- The proof, part E33: Rc, Rd, Rl, Rf. -/
import Derived.Test.YtmegdbbbllffkaaGreatDoorE32
import Derived.Test.YtmegdbbbllffkaaGreatDoorE30
namespace Go.Slot.T
open Go Go.RowKit Go.Slot
open Go.Proofs.Tryz (prog)
set_option maxRecDepth 10000
set_option maxHeartbeats 4000000
theorem v86 (a b:List Int) (ha:digits a) (hb:digits b) (la:a.length<=1073741824) (lb:b.length<=1073741824) :
 yn2 prog 188 [.one (.ints .i64 a),.one (.ints .i64 b)] (.one (.ints .i64 (dig (num a*num b).toNat))):=by
 refine yn2.run [(9,[.join]),(12,[.frz 15])] Go.Proofs.Tryz.func188 rfl rfl ?_;simp only [Go.Proofs.Tryz.f188];refine rgR ?_;refine vxs [0,1,4] (fun x:Nat×List Int=>[(5,.asl 15),(6,.one (.raw (.int .i64 x.1))),(15,.arr [] (.ints .i64 x.2) none)])
  (fun x=>x.1<=a.length/\x.2.length=a.length+b.length/\digits x.2/\xl7 x.2 (x.1+b.length)/\num x.2=num (a.take x.1)*num b)
  (fun x=>a.length-x.1) (0,List.replicate ((a.length:Int)+b.length).toNat 0)
  ⟨Nat.zero_le _,by simp;omega,digits.rep _,(xl7.rep _).mono (Nat.zero_le _),by simp [num,ya9]⟩ ?_ ?_
 . refine rg ?_;exact StLe.weaken (by repeat' first | exact .nil | refine .cons (by first | exact .refl _ | exact .any _) ?_) rfl
 rintro ⟨i,o⟩ ⟨hi,ho,hdo,hz,hn⟩;simp only at hi ho hdo hz hn;refine rg ?_;refine z08 (fun h=>?_) (fun h=>?_)
 . refine rg ?_;have hai:=ha.getD i;refine vxs [0,1,4,5,6] (fun x:Nat×List Int×Int=>[(7,.one (.raw (.int .i64 x.2.2))),(8,.one (.raw (.int .i64 x.1))),(15,.arr [] (.ints .i64 x.2.1) none)])
    (fun x=>x.1<=b.length+1/\x.2.1.length=a.length+b.length/\digits x.2.1/\xl7 x.2.1 (i+max x.1 b.length)/\(0<=x.2.2/\x.2.2<=1048575)/\(b.length<x.1->x.2.2=0)/\
      num x.2.1+1048576 ^ (i+x.1)*x.2.2=num (a.take i)*num b+1048576 ^ i*(a.getD i 0*num (b.take x.1)))
    (fun x=>b.length+1-x.1) (0,o,0)
    ⟨Nat.zero_le _,ho,hdo,hz.mono (by simp),by simp,by simp,by simp [num,hn]⟩ ?_ ?_
   . refine rg ?_;exact StLe.weaken (by repeat' first | exact .nil | refine .cons (by first | exact .refl _ | exact .any _) ?_) rfl
   rintro ⟨k,o',c⟩ ⟨hk,ho',hdo',hz',hc,hc0,hn'⟩;simp only at hk ho' hdo' hz' hc hc0 hn';refine rg ?_;refine zu4 [0,1,4,5,6,7,8,15] (fun _:Unit=>[]) (fun _=>k<b.length\/0<c) ?_ ?_
   . refine rg ?_;refine xjr (fun h1=>?_) (fun h1=>?_)
     . refine rg1 @h1 ?_;refine z08 (fun h3=>?_) (fun h3=>?_)
       . refine rg ?_;exact ⟨(),.inr h3,StLe.weaken (by repeat' first | exact .nil | refine .cons (by first | exact .refl _ | exact .any _) ?_) rfl⟩
       . have hc1:c=0:=by omega
         rw [zvp (l:=b) (i:=k) (by omega),hc1,Int.mul_zero,Int.add_zero] at hn';refine rg ?_;refine ⟨(i+1,o'),⟨by dsimp only;omega,ho',hdo',?_,?_⟩,by dsimp only;omega,StLe.weaken (by repeat' first | exact .nil | refine .cons (by first | exact .refl _ | exact .any _) ?_) rfl⟩
         . dsimp only;exact hz'.mono (by omega)
         . dsimp only;rw [hn',w4d]
           grind
     . have h1':=decide_eq_true h1;refine rg1 @h1' ?_;exact ⟨(),.inl (by omega),StLe.weaken (by repeat' first | exact .nil | refine .cons (by first | exact .refl _ | exact .any _) ?_) rfl⟩
   rintro _ hgo
   have hkb:k<=b.length:=by
    rcases Nat.lt_or_ge b.length k with h | h
    . have:=hc0 h;omega
    . exact h
   have hbk:=hb.getD k;have hok:=hdo'.getD (i+k);have hprod:0<=a.getD i 0*b.getD k 0/\a.getD i 0*b.getD k 0<=1048575*1048575:=⟨Int.mul_nonneg hai.1 hbk.1,Int.mul_le_mul hai.2 hbk.2 hbk.1 (by decide)⟩
   have eik:((i:Int)+k).toNat=i+k:=by omega
   have ho0:b.length<=k->o'.getD (i+k) 0=0/\b.getD k 0=0:=fun h=>⟨hz' _ (by omega),vv7 h⟩
   refine rg1 @eik ?_;refine v1h (zgb b k (by omega) (by omega)) ?_;refine rg1 @eik ?_;refine indk (by kernel_rfl) ?_;refine rg1 @eik ?_
   have hc0':b.length<=k->(o'.getD (i+k) 0+a.getD i 0*b.getD k 0+c) / 1048576=0:=fun h=>by
    obtain ⟨e1,e2⟩:=ho0 h;rw [e1,e2];omega
   generalize hs:o'.getD (i+k) 0+a.getD i 0*b.getD k 0+c=s at *;have hm:s.tmod 1048576=s % 1048576:=Int.tmod_eq_emod_of_nonneg (by omega);have hq:s.tdiv 1048576=s / 1048576:=Int.tdiv_eq_ediv_of_nonneg (by omega);have h2:=vks (o:=o') (i:=i+k) (by omega) s;refine rg3 @hm @hq @eik ?_
   refine ⟨(k+1,o'.set (i+k) (s % 1048576),s / 1048576),
    ⟨by dsimp only;omega,by simpa using ho',hdo'.set _ (by omega),?_,by dsimp only;omega,fun h=>hc0' (by dsimp only at h;omega),?_⟩,by dsimp only;omega,?_⟩
   . dsimp only
     rcases Nat.lt_or_ge k b.length with h | h
     . rw [show max (k+1) b.length=max k b.length by omega];exact hz'.wkp _ (by omega)
     . rw [show i+max (k+1) b.length=i+max k b.length+1 by omega,show i+k=i+max k b.length by omega];exact hz'.set _
   . dsimp only;rw [w4d,show i+(k+1)=i+k+1 by omega,h2,<-hs,Int.pow_add];rw [Int.pow_add] at hn'
     grind
   . exact StLe.weaken (by repeat' first | exact .nil | refine .cons (by first | exact .refl _ | exact .any _) ?_) rfl
 . have hia:i=a.length:=by omega
   subst hia;rw [List.take_length] at hn;refine rg ?_;refine v1h (vg8 o (by omega)) ?_;refine rg ?_;exact ⟨_,rfl,by rw [wah hdo hn];exact .one (.refl _)⟩
theorem wim {x:Int} (h:0<=x/\x<=1048575):xun [x]=dig x.toNat:=wah (digits.cons h digits.nil) (by simp [num])
theorem zu0 (x y:Nat) (hy:y≠0) (la:(dig x).length<=536870912) (lb:(dig y).length<=536870912) :
 yn2 prog 147 [.one (.ints .i64 (dig x)),.one (.ints .i64 (dig y))] (.tup [.one (.ints .i64 (dig (x / y))),.one (.ints .i64 (dig (x % y)))]):=by
 have hnx:=yn8 x;have ha:=wo6 x;have hny:=yn8 y;have hb:=wo6 y;generalize dig x=a at *;refine yn2.run [(6,[.lit]),(16,[.frz 14])] Go.Proofs.Tryz.func147 rfl rfl ?_;simp only [Go.Proofs.Tryz.f147];refine rgR ?_;refine vxs [0,1] (fun z:Nat×List Int×Nat=>[(6,.asl 14),(7,.one (.ints .i64 (dig z.2.2))),(8,.one (.raw (.int .i64 ((z.1:Int)-1)))),(14,.arr [] (.ints .i64 z.2.1) none)])
  (fun z=>z.1<=a.length/\z.2.1.length=a.length/\digits z.2.1/\z.2.2<y/\num (a.drop z.1)=y*num (z.2.1.drop z.1)+z.2.2) (fun z=>z.1) (a.length,List.replicate (a.length:Int).toNat 0,0)
  ⟨Nat.le_refl _,by simp,digits.rep _,Nat.pos_of_ne_zero hy,by simp [num]⟩ ?_ ?_
 . refine rg1 @ylp ?_;exact StLe.weaken (by repeat' first | exact .nil | refine .cons (by first | exact .refl _ | exact .any _ | exact .one (.zrt _)) ?_) rfl
 rintro ⟨n,q,R⟩ ⟨hn,hq,hdq,hR,he⟩;simp only at hn hq hdq hR he;have hlR:(dig R).length<=536870912:=Nat.le_trans (wxv (by omega)) lb;refine rg ?_;refine z08 (fun h=>?_) (fun h=>?_)
 . obtain ⟨i,rfl⟩:∃ i,n=i+1:=⟨n-1,by omega⟩
   have ei:((i+1:Nat):Int)-1=(i:Nat):=by omega
   have hai:=ha.getD i;obtain ⟨S,hS⟩:∃ S:Nat,(S:Int)=a.getD i 0+1048576*R:=⟨(a.getD i 0+1048576*R).toNat,by omega⟩
   have hSl:xun (a.getD i 0::dig R)=dig S:=by
    have:=wah (L:=a.getD i 0::dig R) (n:=S) (digits.cons hai (wo6 R)) (by simp only [num,yn8];omega)
    rwa [Int.toNat_natCast] at this
   have hlS:(dig S).length<=536870913:=by
    rw [<-hSl];refine Nat.le_trans (zhu _) ?_;simp only [List.length_cons];omega
   have hSy:(S:Int)<1048576*y:=by omega
   refine rg1 @ei ?_;refine v1h (vg8 (a.getD i 0::dig R) (by simp only [List.length_cons];omega)) ?_;rw [hSl];refine rg1 @ei ?_;refine vxs [0,1,6,7,8] (fun z:Int×Int=>[(9,.one (.raw (.int .i64 z.1))),(10,.one (.raw (.int .i64 z.2)))])
    (fun z=>0<=z.1/\z.1<z.2/\z.2<=1048576/\z.1*y<=S/\S<z.2*y) (fun z=>(z.2-z.1).toNat) (0,1048576) ⟨by simp,by decide,by simp,by simp,by simp;omega⟩ ?_ ?_
   . refine rg ?_;exact StLe.weaken (by repeat' first | exact .nil | refine .cons (by first | exact .refl _ | exact .any _) ?_) rfl
   rintro ⟨lo,hi⟩ ⟨h0,h1,h2,h3,h4⟩;simp only at h0 h1 h2 h3 h4;refine rg ?_;refine z08 (fun h5=>?_) (fun h5=>?_)
   . have hm2:(lo+hi).tdiv 2=(lo+hi) / 2:=Int.tdiv_eq_ediv_of_nonneg (by omega);refine rg1 @hm2 ?_;generalize hmid:(lo+hi) / 2=mid at *;obtain ⟨m,hm⟩:∃ m:Nat,(m:Int)=mid:=⟨mid.toNat,by omega⟩
     have hT:(num (dig y)*num [mid]).toNat=y*m:=by rw [hny];simp only [num];rw [<-hm,Int.mul_zero,Int.add_zero,<-Int.natCast_mul];rfl
     have hlT:(dig (y*m)).length<=1073741824:=by
      have:=ysr y m
      have:(dig m).length<=4:=vun (by omega)
      omega
     refine v1h (v86 (dig y) [mid] hb (digits.cons (by omega) digits.nil) (by omega) (by simp)) ?_;rw [hT];refine rg ?_;refine v1h (wuz (dig S) (dig (y*m)) (wo6 _) (wo6 _) (by omega) (by omega)) ?_;rw [yn8,yn8]
     have hym:((y*m:Nat):Int)=mid*y:=by rw [Int.natCast_mul,hm,Int.mul_comm]
     rw [hym];refine rg ?_;refine z08 (fun h6=>?_) (fun h6=>?_)
     . refine rg ?_;exact ⟨(lo,mid),⟨h0,by dsimp only;omega,by dsimp only;omega,h3,h6⟩,by dsimp only;omega,StLe.weaken (by repeat' first | exact .nil | refine .cons (by first | exact .refl _ | exact .any _) ?_) rfl⟩
     . refine rg ?_;exact ⟨(mid,hi),⟨by dsimp only;omega,by dsimp only;omega,h2,by dsimp only;omega,h4⟩,by dsimp only;omega,StLe.weaken (by repeat' first | exact .nil | refine .cons (by first | exact .refl _ | exact .any _) ?_) rfl⟩
   . have hlo:hi=lo+1:=by omega
     subst hlo;obtain ⟨l,hl⟩:∃ l:Nat,(l:Int)=lo:=⟨lo.toNat,by omega⟩
     have hlo1:lo.toNat=l:=by omega
     have hT:(num (dig y)*num (dig l)).toNat=y*l:=by rw [hny,yn8,<-Int.natCast_mul];rfl
     have hyl:((y*l:Nat):Int)=lo*y:=by rw [Int.natCast_mul,hl,Int.mul_comm]
     have hll:(dig l).length<=4:=vun (by omega);rw [Int.add_mul,Int.one_mul] at h4;refine rg1 @ei ?_;refine v1h (vg8 [lo] (by simp)) ?_;rw [wim (by omega),hlo1];refine rg1 @ei ?_;refine v1h (v86 (dig y) (dig l) hb (wo6 _) (by omega) (by omega)) ?_;rw [hT];refine rg1 @ei ?_;refine v1h (yt6 S (y*l) (by omega) (by omega)) ?_;refine rg1 @ei ?_;refine ⟨(i,q.set i lo,S-y*l),⟨by dsimp only;omega,by simpa using hq,hdq.set _ (by omega),by dsimp only;omega,?_⟩,by dsimp only;omega,StLe.weaken (by repeat' first | exact .nil | refine .cons (by first | exact .refl _ | exact .any _) ?_) rfl⟩;dsimp only;rw [x7k _ (by omega),win,he];simp only [num];rw [Int.natCast_sub (by omega),hyl,hS]
     grind
 . have h0:n=0:=by omega
   subst h0;simp only [List.drop_zero] at he;rw [hnx] at he;have hq0:=num_nonneg hdq;obtain ⟨Q,hQ⟩:∃ Q:Nat,(Q:Int)=num q:=⟨(num q).toNat,by omega⟩;rw [<-hQ] at he
   have hxx:x=y*Q+R:=by rw [<-Int.natCast_mul] at he;omega
   have e1:x / y=Q:=by rw [hxx,Nat.mul_add_div (by omega),Nat.div_eq_of_lt hR];omega
   have e2:x % y=R:=by rw [hxx,Nat.mul_add_mod,Nat.mod_eq_of_lt hR]
   have e3:xun q=dig Q:=by have:=wah hdq hQ.symm;rwa [Int.toNat_natCast] at this
   rw [e1,e2];refine rg ?_;refine v1h (vg8 q (by omega)) ?_;rw [e3];refine rg ?_;exact ⟨_,rfl,.tup (.cons (.refl _) (.cons (.refl _) .nil))⟩
theorem ykf (s:Int) (L:List Int) (hL:L.length<=1099511627776):yn2 prog 96 [.agg [.raw (.int .i64 s),.ints .i64 L]] (.one (.raw (.bool (decide (xhn s L))))):=by
 obtain ⟨r,hr⟩:∃ r,r=decide (xhn s L):=⟨_,rfl⟩;rw [<-hr]
 have bad:¬xhn s L->false=r:=fun h=>by rw [hr,decide_eq_false h]
 refine yn2.run [] Go.Proofs.Tryz.func96 rfl rfl ?_;simp only [Go.Proofs.Tryz.f96];refine rgR ?_;refine vxs [] (fun i:Nat=>[(3,.one (.raw (.int .i64 i)))])
  (fun i=>i<=L.length/\digits (L.take i)) (fun i=>L.length-i) 0 ⟨Nat.zero_le _,by simp [digits]⟩ ?_ ?_
 . refine rg ?_;exact StLe.weaken (by repeat' first | exact .nil | refine .cons (by first | exact .refl _ | exact .any _) ?_) rfl
 rintro i ⟨hi,hd⟩;refine rg ?_;refine z08 (fun h=>?_) (fun h=>?_)
 . have hi':i<L.length:=by omega
   have hget:L.getD i 0=L[i]:=by simp [hi']
   have hmem:L[i]∈L:=List.getElem_mem hi'
   have hbad:¬(0<=L.getD i 0/\L.getD i 0<=1048575)->false=r:=fun hn=>bad (fun hr=>hn (by rw [hget];exact hr.1 _ hmem))
   refine rg ?_;refine xjr (fun h1=>?_) (fun h1=>?_)
   . refine rg1 @h1 ?_;refine z08 (fun h2=>?_) (fun h2=>?_)
     . refine rg ?_;exact ⟨_,rfl,by rw [hbad (by omega)];exact .one (.refl _)⟩
     . refine rg ?_;refine ⟨i+1,⟨by omega,?_⟩,by omega,StLe.weaken (by repeat' first | exact .nil | refine .cons (by first | exact .refl _ | exact .any _) ?_) rfl⟩;intro x hx;rw [List.take_add_one,List.mem_append] at hx
       rcases hx with hx | hx
       . exact hd x hx
       . simp [hi'] at hx;subst hx;rw [<-hget];omega
   . have h1':=decide_eq_true h1;refine rg1 @h1' ?_;exact ⟨_,rfl,by rw [hbad (by omega)];exact .one (.refl _)⟩
 . have hi':i=L.length:=by omega
   have hdig:digits L:=by rw [hi',List.take_length] at hd;exact hd
   refine rg ?_;refine xjr (fun h1=>?_) (fun h1=>?_)
   . refine rg1 @h1 ?_;refine xjr (fun h2=>?_) (fun h2=>?_)
     . by_cases h3:(L.length:Int)=0
       . have hnil:L=[]:=by have:L.length=0:=(by omega);simpa using this
         have h3':=decide_eq_true h3;by_cases h4:s=0
         . have h4':=decide_eq_true h4
           have e:true=r:=by rw [hr,decide_eq_true (show xhn s L from ⟨hdig,.inl ⟨hnil,h4⟩⟩)]
           refine rg3 @h2 @h3' @h4' ?_;exact ⟨_,rfl,by rw [e];exact .one (.refl _)⟩
         . have h4':=decide_eq_false h4;refine rg3 @h2 @h3' @h4' ?_;exact ⟨_,rfl,by rw [bad (fun hb=>by rcases hb.2 with h | h;exact h4 h.2;exact h.1 hnil)];exact .one (.refl _)⟩
       . have h3':=decide_eq_false h3
         have hne:L≠[]:=fun e=>h3 (by rw [e];rfl)
         have hpos:0<L.length:=List.length_pos_iff.2 hne;by_cases h4:s=0
         . have h4':=decide_eq_true h4;refine rg3 @h2 @h3' @h4' ?_;exact ⟨_,rfl,by rw [bad (fun hb=>by rcases hb.2 with h | h;exact hne h.1;omega)];exact .one (.refl _)⟩
         . have h4':=decide_eq_false h4
           have hlast:decide (L.getD (L.length-1) 0≠0)=r:=by
            rw [hr];apply decide_eq_decide.2;simp only [xhn];constructor
            . exact fun h4=>⟨hdig,.inr ⟨hne,by omega,h4⟩⟩
            . rintro ⟨_,⟨h4,_⟩ | ⟨_,_,h4⟩⟩
              . exact absurd h4 hne
              . exact h4
           have e:((L.length:Int)-1).toNat=L.length-1:=by omega
           conv=>simp (maxSteps:=2000000) (disch:=omega) only [go_sem,Nat.reduceAdd,Nat.reduceSub,Nat.reduceMul,Int.reduceToNat,Nat.reduceEqDiff,Nat.reduceBEq,Nat.reduceBneDiff,h2,h3',h4',e]
           exact ⟨_,rfl,by rw [hlast];exact .one (.refl _)⟩
     . have h2':=decide_eq_true h2;refine rg1 @h2' ?_;exact ⟨_,rfl,by rw [bad (fun hb=>by rcases hb.2 with h | h<;>omega)];exact .one (.refl _)⟩
   . have h1':=decide_eq_true h1;refine rg1 @h1' ?_;exact ⟨_,rfl,by rw [bad (fun hb=>by rcases hb.2 with h | h<;>omega)];exact .one (.refl _)⟩
theorem zh9 (z:Int) (hz:okZ z):yn2 prog 96 [.agg [.raw (.int .i64 (sg z)),.ints .i64 (dig z.natAbs)]] (.one (.raw (.bool true))):=by
 have h:=ykf (sg z) (dig z.natAbs) (by omega);rw [decide_eq_true (xpw z)] at h;exact h
theorem vm1 (x:Int) (hx:okZ x) :
 yn2 prog 141 [.agg [.raw (.int .i64 (sg x)),.ints .i64 (dig x.natAbs)]] (.agg [.raw (.int .i64 (sg (-x))),.ints .i64 (dig (-x).natAbs)]):=by
 have sx:=wzq x
 have e:(-x).natAbs=x.natAbs:=by omega
 have hs:=z4q (0-sg x) (-x) (by rw [e];omega) (by omega);rw [e] at hs ⊢;refine yn2.run [] Go.Proofs.Tryz.func141 rfl rfl ?_;simp only [Go.Proofs.Tryz.f141];refine rgR ?_;refine v1h (zh9 x hx) ?_;refine rg ?_;refine v1h hs ?_;refine rg ?_;exact ⟨_,rfl,.one (.refl _)⟩
theorem yig (x y:Int) (hx:okZ x) (hy:okZ y) :
 yn2 prog 97 [.agg [.raw (.int .i64 (sg x)),.ints .i64 (dig x.natAbs)],.agg [.raw (.int .i64 (sg y)),.ints .i64 (dig y.natAbs)]]
  (.tup [.agg [.raw (.int .i64 (sg (Int.gcd x y:Int))),.ints .i64 (dig (Int.gcd x y:Int).natAbs)],.one (.raw (.int .i64 0))]):=by
 refine yn2.run [] Go.Proofs.Tryz.func97 rfl rfl ?_;simp only [Go.Proofs.Tryz.f97];refine rgR ?_;refine v1h (zh9 x hx) ?_;refine rg ?_;refine v1h (zh9 y hy) ?_;refine rg ?_;refine vxs [5] (fun p:Nat×Nat=>[(6,.one (.ints .i64 (dig p.1))),(7,.one (.ints .i64 (dig p.2)))])
  (fun p=>Nat.gcd p.1 p.2=Int.gcd x y/\(dig p.1).length<=268435456/\(dig p.2).length<=268435456) (fun p=>p.2) (x.natAbs,y.natAbs) ⟨rfl,hx,hy⟩ ?_ ?_
 . refine rg ?_;exact StLe.weaken (by repeat' first | exact .nil | refine .cons (by first | exact .refl _ | exact .any _) ?_) rfl
 rintro ⟨m,n⟩ ⟨hg,hm,hn⟩;simp only at hg hm hn;refine rg ?_;refine z08 (fun h=>?_) (fun h=>?_)
 . have hn0:n≠0:=fun e=>by rw [e,ylp] at h;simp at h
   refine rg ?_;refine v1h (zu0 m n hn0 (by omega) (by omega)) ?_;refine rg ?_;refine ⟨(n,m % n),⟨?_,hn,Nat.le_trans (wxv (Nat.mod_le _ _)) hm⟩,Nat.mod_lt _ (by omega),StLe.weaken (by repeat' first | exact .nil | refine .cons (by first | exact .refl _ | exact .any _) ?_) rfl⟩;dsimp only;rw [<-hg,Nat.gcd_comm n,<-Nat.gcd_rec,Nat.gcd_comm]
 . have hn0:n=0:=zrh.1 (List.eq_nil_of_length_eq_zero (by omega));subst hn0;rw [Nat.gcd_zero_right] at hg
   have e:(Int.gcd x y:Int).natAbs=m:=by rw [<-hg];rfl
   have hs:=z4q 1 (Int.gcd x y:Int) (by rw [e];omega) (.inl ⟨rfl,by omega⟩);rw [e] at hs ⊢;refine rg ?_;refine v1h hs ?_;refine rg ?_;exact ⟨_,rfl,.tup (.cons (.refl _) (.cons (.refl _) .nil))⟩
theorem wbx (x y:Int) (hx:okZ x) (hy:okZ y) (hy0:0<y) :
 yn2 prog 142 [.agg [.raw (.int .i64 (sg x)),.ints .i64 (dig x.natAbs)],.agg [.raw (.int .i64 (sg y)),.ints .i64 (dig y.natAbs)]]
  (.tup [.agg [.raw (.int .i64 (sg (x / y))),.ints .i64 (dig (x / y).natAbs)],.agg [.raw (.int .i64 (sg (x % y))),.ints .i64 (dig (x % y).natAbs)],.one (.raw (.int .i64 0))]):=by
 have sx:=wzq x;have sy:=zgv hy0;have hn:=Nat.div_add_mod x.natAbs y.natAbs;have hr:=Nat.mod_lt x.natAbs (show 0<y.natAbs by omega);have hqx:=Nat.div_le_self x.natAbs y.natAbs;have hrx:=Nat.mod_le x.natAbs y.natAbs;have hlq:=wxv hqx;have hlr:=wxv hrx;have hcd:=zu0 x.natAbs y.natAbs (by omega) (by omega) (by omega);generalize hQ:x.natAbs / y.natAbs=Q at *;generalize hR:x.natAbs % y.natAbs=R at *
 have hyQ:((y.natAbs*Q:Nat):Int)=y*Q:=by rw [Int.natCast_mul];congr 1;omega
 have eR:=yn8 R;have eQ:=yn8 Q;have ey:=zeb y;have hlQ1:=z4z Q 1
 have h1l:(dig 1).length=1:=by rw [yzy (by decide),ylp];rfl
 refine yn2.run [] Go.Proofs.Tryz.func142 rfl rfl ?_;simp only [Go.Proofs.Tryz.f142];refine rgR ?_;refine v1h (zh9 x hx) ?_;refine rg ?_;refine v1h (zh9 y hy) ?_;refine rg ?_;refine z08 (fun h=>absurd h (by omega)) (fun _=>?_);refine rg ?_;refine v1h hcd ?_
 have done:∀(s:Int),s=sg x->(0<=x\/R=0)->((s=1/\0<=x / y)\/(s = -1/\x / y<=0)\/x / y=0)/\((sg x=1/\0<=x % y)\/(sg x = -1/\x % y<=0)\/x % y=0)/\(x / y).natAbs=Q/\(x % y).natAbs=R:=fun s hs h=>by
  rcases h with h | h
  . obtain ⟨k1,k2⟩:=v03 (x:=x) (y:=y) (q:=(Q:Int)) (r:=(R:Int)) (by omega) (by omega) (by omega)
    have hQ0:x=0->Q=0/\R=0:=fun e=>by subst e;simp at hqx hrx;exact ⟨hqx,hrx⟩
    rw [k1,k2,hs]
    refine ⟨?_,?_,by omega,by omega⟩<;>omega
  . rcases Int.lt_or_le x 0 with h0 | h0
    . obtain ⟨k1,k2⟩:=v03 (x:=x) (y:=y) (q:=-(Q:Int)) (r:=0) (by
       have:y * -(Q:Int) = -(y*Q):=by grind
       omega) (by omega) (by omega)
      rw [k1,k2,hs]
      refine ⟨?_,?_,by omega,by omega⟩<;>omega
    . obtain ⟨k1,k2⟩:=v03 (x:=x) (y:=y) (q:=(Q:Int)) (r:=(R:Int)) (by omega) (by omega) (by omega)
      have hQ0:x=0->Q=0/\R=0:=fun e=>by subst e;simp at hqx hrx;exact ⟨hqx,hrx⟩
      rw [k1,k2,hs]
      refine ⟨?_,?_,by omega,by omega⟩<;>omega
 have plain:(0<=x\/R=0)->yn2 prog 143 [.one (.raw (.int .i64 (sg x))),.one (.ints .i64 (dig Q))] (.agg [.raw (.int .i64 (sg (x / y))),.ints .i64 (dig (x / y).natAbs)])/\
  yn2 prog 143 [.one (.raw (.int .i64 (sg x))),.one (.ints .i64 (dig R))] (.agg [.raw (.int .i64 (sg (x % y))),.ints .i64 (dig (x % y).natAbs)]):=fun h=>by
  obtain ⟨d1,d2,m1,m2⟩:=done _ rfl h;have hs1:=z4q (sg x) (x / y) (by rw [m1];omega) d1;have hs2:=z4q (sg x) (x % y) (by rw [m2];omega) d2;rw [m1] at hs1 ⊢;rw [m2] at hs2 ⊢;exact ⟨hs1,hs2⟩
 conv=>simp (maxSteps:=2000000) (disch:=omega) only [go_sem,Nat.reduceAdd,Nat.reduceSub,Nat.reduceMul,Int.reduceToNat,Nat.reduceEqDiff,Nat.reduceBEq,Nat.reduceBneDiff,sy,Int.mul_one]
 refine xjr (fun h1=>?_) (fun h1=>?_)
 . have hx0:x<0:=by omega
   conv=>simp (maxSteps:=2000000) (disch:=omega) only [go_sem,Nat.reduceAdd,Nat.reduceSub,Nat.reduceMul,Int.reduceToNat,Nat.reduceEqDiff,Nat.reduceBEq,Nat.reduceBneDiff,h1,sy,Int.mul_one]
   refine z08 (fun h2=>?_) (fun h2=>?_)
   . have hR0:R=0:=zrh.1 (List.eq_nil_of_length_eq_zero (by omega));obtain ⟨hs1,hs2⟩:=plain (.inr hR0)
     conv=>simp (maxSteps:=2000000) (disch:=omega) only [go_sem,Nat.reduceAdd,Nat.reduceSub,Nat.reduceMul,Int.reduceToNat,Nat.reduceEqDiff,Nat.reduceBEq,Nat.reduceBneDiff,sy,Int.mul_one]
     refine v1h hs1 ?_;refine rg ?_;refine v1h hs2 ?_;refine rg ?_;refine indk (by kernel_rfl) ?_;refine rg ?_;exact ⟨_,rfl,.tup (.cons (.refl _) (.cons (.refl _) (.cons (.refl _) .nil)))⟩
   . have hR0:R≠0:=fun e=>by rw [e,ylp] at h2;simp at h2
     obtain ⟨k1,k2⟩:=v03 (x:=x) (y:=y) (q:=-((Q:Int)+1)) (r:=y-R) (by
      have:y * -((Q:Int)+1) = -(y*Q)-y:=by grind
      omega) (by omega) (by omega)
     have m1:(x / y).natAbs=Q+1:=by rw [k1];omega
     have m2:(x % y).natAbs=y.natAbs-R:=by rw [k2];omega
     have m3:(num (dig Q)+num [1]).toNat=Q+1:=by rw [eQ];simp [num]
     have hA:=y9i (dig Q) [1] (wo6 _) (digits.cons (by decide) digits.nil) (by omega) (by simp);rw [m3,<-m1] at hA;have hS:=yt6 y.natAbs R (by omega) (by omega);rw [<-m2] at hS;have hs1:=z4q (-1) (x / y) (by rw [m1];omega) (by rw [k1];omega);have hs2:=z4q 1 (x % y) (by rw [m2];have:=wxv (show y.natAbs-R<=y.natAbs by omega);omega) (by rw [k2];omega)
     conv=>simp (maxSteps:=2000000) (disch:=omega) only [go_sem,Nat.reduceAdd,Nat.reduceSub,Nat.reduceMul,Int.reduceToNat,Nat.reduceEqDiff,Nat.reduceBEq,Nat.reduceBneDiff,sy,Int.mul_one]
     refine v1h hA ?_;refine rg ?_;refine v1h hs1 ?_;refine rg1 @sy ?_;refine v1h hS ?_;refine rg ?_;refine v1h hs2 ?_;refine rg ?_;refine indk (by kernel_rfl) ?_;refine rg ?_;exact ⟨_,rfl,.tup (.cons (.refl _) (.cons (.refl _) (.cons (.refl _) .nil)))⟩
 . have h1':=decide_eq_true h1;obtain ⟨hs1,hs2⟩:=plain (.inl (by omega))
   conv=>simp (maxSteps:=2000000) (disch:=omega) only [go_sem,Nat.reduceAdd,Nat.reduceSub,Nat.reduceMul,Int.reduceToNat,Nat.reduceEqDiff,Nat.reduceBEq,Nat.reduceBneDiff,h1',sy,Int.mul_one]
   refine v1h hs1 ?_;refine rg ?_;refine v1h hs2 ?_;refine rg ?_;refine indk (by kernel_rfl) ?_;refine rg ?_;exact ⟨_,rfl,.tup (.cons (.refl _) (.cons (.refl _) (.cons (.refl _) .nil)))⟩
theorem rOf (n:Int) (hn:inI n):yn2 prog 93 [.one (.raw (.int .i64 n))] (.agg [.raw (.int .i64 (sg n)),.ints .i64 (dig n.natAbs)]):=by
 unfold inI at hn;refine yn2.run [(6,[.join]),(11,[.join])] Go.Proofs.Tryz.func93 rfl rfl ?_;simp only [Go.Proofs.Tryz.f93];refine rgR ?_;refine z08 (fun h0=>?_) (fun h0=>?_)
 . subst h0;refine rg ?_;exact ⟨_,rfl,by rw [show (0:Int).natAbs=0 from rfl,ylp];exact .one (.agg (.cons (.refl _) (.cons (.ysc _) .nil)))⟩
 refine rg ?_;refine zu4 [0] (fun s:Int=>[(3,.one (.raw (.int .i64 s)))]) (fun s=>(s=1/\0<=n)\/(s = -1/\n<0)) ?_ ?_
 . refine rg ?_;refine z08 (fun h=>?_) (fun h=>?_)
   . refine rg ?_;exact ⟨-1,.inr ⟨rfl,h⟩,StLe.weaken (by repeat' first | exact .nil | refine .cons (by first | exact .refl _ | exact .any _) ?_) rfl⟩
   . refine rg ?_;exact ⟨1,.inl ⟨rfl,by omega⟩,StLe.weaken (by repeat' first | exact .nil | refine .cons (by first | exact .refl _ | exact .any _) ?_) rfl⟩
 rintro s hs
 have hsN:n=s*(n.natAbs:Int):=by rcases hs with ⟨rfl,h⟩ | ⟨rfl,h⟩<;>omega
 have hN:(n.natAbs:Int)<=9223372036854775808:=by omega
 have hss:s=1\/s = -1:=by rcases hs with h | h;exact .inl h.1;exact .inr h.1
 have hmod:∀ u:Int,0<=u->(s*u).tmod 1048576=s*(u % 1048576)/\(s*u).tdiv 1048576=s*(u / 1048576):=fun u hu=>by
  rcases hss with rfl | rfl
  . rw [Int.one_mul,Int.one_mul,Int.one_mul];exact ⟨Int.tmod_eq_emod_of_nonneg hu,Int.tdiv_eq_ediv_of_nonneg hu⟩
  . rw [Int.neg_mul,Int.neg_mul,Int.neg_mul,Int.one_mul,Int.one_mul,Int.one_mul,Int.neg_tmod,Int.neg_tdiv];exact ⟨by rw [Int.tmod_eq_emod_of_nonneg hu],by rw [Int.tdiv_eq_ediv_of_nonneg hu]⟩
 refine rg ?_;refine vxs [3] (fun x:Nat×List Int×Int=>[(0,.one (.raw (.int .i64 (s*x.2.2)))),(4,.one (.tok 22 (.ints .i64 x.2.1)))])
  (fun x=>x.2.1.length=x.1/\x.1<=4/\digits x.2.1/\0<=x.2.2/\num x.2.1+1048576 ^ x.1*x.2.2=n.natAbs) (fun x=>x.2.2.toNat) (0,[],n.natAbs)
  ⟨rfl,Nat.zero_le _,digits.nil,by simp,by simp [num]⟩ ?_ ?_
 . refine StLe.trans (StLe.tokI 4 22 (.ints .i64 []) rfl rfl rfl) ?_;refine rg ?_;rw [<-hsN];exact StLe.weaken (by repeat' first | exact .nil | refine .cons (by first | exact .refl _ | exact .any _) ?_) rfl
 rintro ⟨k,l,u⟩ ⟨hl,hk,hd,hu,he⟩;simp only at hl hk hd hu he;have hl0:=num_nonneg hd;have hp:=zou k
 have huN:u<=n.natAbs:=by
  have:=Int.mul_le_mul_of_nonneg_right (show (1:Int)<=1048576 ^ k by omega) hu
  omega
 refine rg ?_;refine z08 (fun h=>?_) (fun h=>?_)
 . have hu0:u≠0:=fun e=>h (by rw [e,Int.mul_zero])
   have hk3:k<=3:=by
    rcases Nat.lt_or_ge k 4 with h4 | h4
    . omega
    . have h1:=wqr h4;have h2:=Int.mul_le_mul_of_nonneg_left (show (1:Int)<=u by omega) (Int.le_of_lt hp)
      have h3:(1048576:Int) ^ 4=1208925819614629174706176:=by decide
      omega
   obtain ⟨e1,e2⟩:=hmod u hu
   have hm:0<=u % 1048576/\u % 1048576<=1048575:=by omega
   have hq:0<=u / 1048576/\u / 1048576<=9223372036854775807:=by omega
   have hsm:-9223372036854775808<=s*(u / 1048576)/\s*(u / 1048576)<=9223372036854775807:=by rcases hss with rfl | rfl<;>omega
   have hsr:-1048575<=s*(u % 1048576)/\s*(u % 1048576)<=1048575:=by rcases hss with rfl | rfl<;>omega
   refine rg1 @e1 ?_;refine zu4 [0,3,4] (fun _:Unit=>[(5,.one (.raw (.int .i64 (u % 1048576))))]) (fun _=>True) ?_ ?_
   . refine rg ?_;refine z08 (fun h2=>?_) (fun h2=>?_)
     . refine rg ?_;rw [show 0-s*(u % 1048576)=u % 1048576 by rcases hss with rfl | rfl<;>omega];exact ⟨(),StLe.weaken (by repeat' first | exact .nil | refine .cons (by first | exact .refl _ | exact .any _) ?_) rfl⟩
     . refine rg ?_;rw [show s*(u % 1048576)=u % 1048576 by rcases hss with rfl | rfl<;>omega];exact ⟨(),StLe.weaken (by repeat' first | exact .nil | refine .cons (by first | exact .refl _ | exact .any _) ?_) rfl⟩
   rintro _ _;refine rg1 @e2 ?_;refine ⟨(k+1,l++[u % 1048576],u / 1048576),⟨by simp [hl],by dsimp only;omega,hd.append (digits.cons (by omega) digits.nil),by dsimp only;omega,?_⟩,by dsimp only;omega,StLe.weaken (by repeat' first | exact .nil | refine .cons (by first | exact .refl _ | exact .any _) ?_) rfl⟩;dsimp only;rw [yn9,hl,Int.pow_succ];have h:=Int.emod_add_mul_ediv u 1048576;generalize (1048576:Int) ^ k=P at *;generalize u % 1048576=r at *;generalize u / 1048576=q at *
   grind
 . have hu0:u=0:=by rcases hss with rfl | rfl<;>omega
   rw [hu0,Int.mul_zero,Int.add_zero] at he;have e:=wah hd he;rw [Int.toNat_natCast] at e;have hsg:=vla s l (by omega);unfold bigC at hsg;rw [e,<-wb4,vam (by omega)] at hsg;unfold zC at hsg;refine rg ?_;refine v1h hsg ?_;refine rg ?_;exact ⟨_,rfl,.one (.refl _)⟩
theorem xct (z:Int) (d:Nat) (hz:okZ z) (hd:d≠0) (hl:(dig d).length<=268435456) :
 yn2 prog 92 [.agg [.raw (.int .i64 (sg z)),.ints .i64 (dig z.natAbs)],.agg [.raw (.int .i64 1),.ints .i64 (dig d)]]
  (.tup [.agg (Fc.of (mkRat z d)).C,.one (.raw (.int .i64 0))]):=by
 obtain ⟨p1,p2,p3⟩:=zr2 z hd;have hden:=w2p (mkRat z d);rw [p2] at hden
 have hden2:(mkRat z d).den=((d:Int) / (Int.gcd z d:Int)).natAbs:=by omega
 have hgl:okZ (Int.gcd z d:Int):=by
  have:(Int.gcd z d:Int).natAbs<=d:=by
   have:Int.gcd z d ∣ d:=by have:=Int.gcd_dvd_natAbs_right z d;simpa using this
   exact Nat.le_of_dvd (Nat.pos_of_ne_zero hd) this
  exact Nat.le_trans (wxv this) hl
 have hr:=zh9 (d:Int) hl;have hg:=yig z d hz hl;have hd1:=wbx z (Int.gcd z d:Int) hz hgl p3;have hd2:=wbx d (Int.gcd z d:Int) hl hgl p3;rw [wwm hd] at hr hg hd2;rw [hden] at hd2;rw [show ((d:Nat):Int).natAbs=d from rfl] at hr hg hd2
 have hfin:(Fc.of (mkRat z d)).C=[.raw (.int .i64 (sg (z / (Int.gcd z d:Int)))),.ints .i64 (dig (z / (Int.gcd z d:Int)).natAbs),.raw (.int .i64 1),.ints .i64 (dig ((d:Int) / (Int.gcd z d:Int)).natAbs)]:=by
  rw [<-p1,<-hden2];rfl
 rw [hfin];generalize (Int.gcd z d:Int)=g at *;refine yn2.run [] Go.Proofs.Tryz.func92 rfl rfl ?_;simp only [Go.Proofs.Tryz.f92];refine rgR ?_;refine v1h (zh9 z hz) ?_;refine rg ?_;refine v1h hr ?_;refine rg ?_;refine z08 (fun h=>absurd h (by decide)) (fun _=>?_);refine rg ?_;refine z08 (fun h=>absurd h (by decide)) (fun _=>?_);refine rg ?_;refine v1h hg ?_;refine rg ?_;refine v1h hd1 ?_;refine rg ?_;refine v1h hd2 ?_;refine rg ?_;exact ⟨_,rfl,.tup (.cons (.refl _) (.cons (.refl _) .nil))⟩
theorem mkRat_one (n:Int):mkRat n 1=(n:Rat):=by
 refine Rat.ext ?_ ?_
 . rw [Rat.num_mkRat,if_neg (by decide)];simp
 . rw [Rat.den_mkRat,if_neg (by decide)];simp
theorem w4a {n:Int} (h:inI n):okZ n:=by
 have:(dig n.natAbs).length<=4:=vun (by unfold inI at h;omega)
 unfold okZ;omega
theorem yfw (n:Int) (hn:inI n):yn2 prog 17 [.one (.raw (.int .i64 n))] (.agg (Fc.of (n:Rat)).C):=by
 have h1:=rOf 1 (by decide);rw [show sg 1=1 from rfl] at h1;have hN:=xct n 1 (w4a hn) (by decide) (by have:=vun (n:=1) (by decide);omega);rw [mkRat_one] at hN
 have hof:yn2 prog 45 [.one (.raw (.int .i64 n)),.one (.raw (.int .i64 1))] (.tup [.agg (Fc.of (n:Rat)).C,.one (.raw (.int .i64 0))]):=by
  refine yn2.run [] Go.Proofs.Tryz.func45 rfl rfl ?_;simp only [Go.Proofs.Tryz.f45];refine rgR ?_;refine v1h (rOf n hn) ?_;refine rg ?_;refine v1h h1 ?_;refine rg ?_;refine v1h hN ?_;refine rg ?_;exact ⟨_,rfl,.tup (.cons (.refl _) (.cons (.refl _) .nil))⟩
 refine yn2.run [] Go.Proofs.Tryz.func17 rfl rfl ?_;simp only [Go.Proofs.Tryz.f17];refine rgR ?_;refine v1h hof ?_;refine rg ?_;exact ⟨_,rfl,.one (.refl _)⟩
theorem y6y {α:Type} {l:List α} {i:Nat} (d:α) (h:i<l.length):l.take (i+1)=l.take i++[l.getD i d]:=by
 rw [List.take_add_one];simp [h]
theorem vp9 (s:Int) (L:List Int) (s':Int) (M:List Int) (lL:L.length<=1073741824) (_lM:M.length<=1073741824) :
 yn2 prog 148 [.agg [.raw (.int .i64 s),.ints .i64 L],.agg [.raw (.int .i64 s'),.ints .i64 M]] (.one (.raw (.bool (decide (s=s'/\L=M))))):=by
 obtain ⟨r,hr⟩:∃ r,r=decide (s=s'/\L=M):=⟨_,rfl⟩;rw [<-hr]
 have bad:¬(s=s'/\L=M)->false=r:=fun h=>by rw [hr,decide_eq_false h]
 by_cases h1:s=s'
 . subst h1;by_cases h2:(L.length:Int)=M.length
   . have hl:L.length=M.length:=by omega
     have h2':¬((L.length:Int)≠M.length):=fun h=>h h2
     refine yn2.run [] Go.Proofs.Tryz.func148 rfl rfl ?_;simp only [Go.Proofs.Tryz.f148];refine rgR ?_;refine z08 (fun h=>absurd h h2') (fun _=>?_);refine rg ?_;refine vxs [] (fun i:Nat=>[(5,.one (.raw (.int .i64 i)))]) (fun i=>i<=L.length/\L.take i=M.take i) (fun i=>L.length-i) 0 ⟨Nat.zero_le _,rfl⟩ ?_ ?_
     . refine rg ?_;exact StLe.weaken (by repeat' first | exact .nil | refine .cons (by first | exact .refl _ | exact .any _) ?_) rfl
     rintro i ⟨hi,he⟩;refine rg ?_;refine z08 (fun h1=>?_) (fun h1=>?_)
     . have hg:∀(l:List Int),i<l.length->l.take (i+1)=l.take i++[l.getD i 0]:=fun l h=>y6y 0 h
       refine rg ?_;refine indk (by kernel_rfl) ?_;refine rg ?_;refine z08 (fun h2=>?_) (fun h2=>?_)
       . refine rg ?_;exact ⟨_,rfl,by rw [bad (fun e=>h2 (by rw [e.2]))];exact .one (.refl _)⟩
       . have h2:L.getD i 0=M.getD i 0:=by omega
         refine rg ?_;refine ⟨i+1,⟨by omega,?_⟩,by omega,StLe.weaken (by repeat' first | exact .nil | refine .cons (by first | exact .refl _ | exact .any _) ?_) rfl⟩;rw [hg L (by omega),hg M (by omega),he,h2]
     . have hi:i=L.length:=by omega
       subst hi;rw [List.take_length,hl,List.take_length] at he
       have e:true=r:=by rw [hr,decide_eq_true ⟨rfl,he⟩]
       refine rg ?_;exact ⟨_,rfl,by rw [e];exact .one (.refl _)⟩
   . have h2:(L.length:Int)≠M.length:=h2;refine yn2.run [] Go.Proofs.Tryz.func148 rfl rfl ?_;simp only [Go.Proofs.Tryz.f148];refine rgR ?_;refine z08 (fun _=>?_) (fun h=>absurd h2 h);refine rg ?_;exact ⟨_,rfl,by rw [bad (fun e=>h2 (by rw [e.2]))];exact .one (.refl _)⟩
 . have h1':=decide_eq_true (show s≠s' from h1);refine yn2.run [] Go.Proofs.Tryz.func148 rfl rfl ?_;simp only [Go.Proofs.Tryz.f148];refine rgR ?_;refine xjr (fun h=>absurd h1 h) (fun h=>?_);refine rg1 @h1' ?_;exact ⟨_,rfl,by rw [bad (fun e=>h1 e.1)];exact .one (.refl _)⟩
theorem wvu (x y:Int):(sg x=sg y/\dig x.natAbs=dig y.natAbs)↔x=y:=by
 constructor
 . rintro ⟨h1,h2⟩;have ex:=zeb x;have ey:=zeb y;rw [h2,ey] at ex
   rcases wzq x with ⟨h,e⟩ | ⟨h,e⟩ | ⟨h,e⟩<;>rcases wzq y with ⟨h',e'⟩ | ⟨h',e'⟩ | ⟨h',e'⟩<;>omega
 . rintro rfl;exact ⟨rfl,rfl⟩
theorem wfg (x y:Int) (hx:okZ x) (hy:okZ y) :
 yn2 prog 98 [.agg [.raw (.int .i64 (sg x)),.ints .i64 (dig x.natAbs)],.agg [.raw (.int .i64 (sg y)),.ints .i64 (dig y.natAbs)]] (.one (.raw (.int .i64 (ord x y)))):=by
 have sx:=wzq x;have sy:=wzq y;have hx':(dig x.natAbs).length<=268435456:=hx;have hy':(dig y.natAbs).length<=268435456:=hy;have hS:=vp9 (sg x) (dig x.natAbs) (sg y) (dig y.natAbs) (by omega) (by omega);rw [decide_eq_decide.2 (wvu x y)] at hS;have hL:=wuz (dig x.natAbs) (dig y.natAbs) (wo6 _) (wo6 _) (by omega) (by omega);rw [zeb,zeb] at hL;by_cases h:x=y
 . rw [decide_eq_true h] at hS;rw [show ord x y=0 by unfold ord;rw [if_neg (by omega),if_neg (by omega)]];refine yn2.run [] Go.Proofs.Tryz.func98 rfl rfl ?_;simp only [Go.Proofs.Tryz.f98];refine rgR ?_;refine v1h (zh9 x hx) ?_;refine rg ?_;refine v1h (zh9 y hy) ?_;refine rg ?_;refine v1h hS ?_;refine rg ?_;exact ⟨_,rfl,.one (.refl _)⟩
 . rw [decide_eq_false h] at hS;by_cases h1:sg x=sg y
   . have h1':¬sg x≠sg y:=fun e=>e h1
     by_cases h2:(x.natAbs:Int)<y.natAbs
     . rw [decide_eq_true h2] at hL;by_cases h3:0<sg x
       . rw [show ord x y = -1 by unfold ord;rw [if_pos (by omega)]];have h3':=decide_eq_true h3;refine yn2.run [] Go.Proofs.Tryz.func98 rfl rfl ?_;simp only [Go.Proofs.Tryz.f98];refine rgR ?_;refine v1h (zh9 x hx) ?_;refine rg ?_;refine v1h (zh9 y hy) ?_;refine rg ?_;refine v1h hS ?_;refine rg ?_;refine z08 (fun e=>absurd e h1') (fun _=>?_);refine rg ?_;refine v1h hL ?_;refine rg1 @h3' ?_;refine indk (by kernel_rfl) ?_;refine rg ?_;exact ⟨_,rfl,.one (.refl _)⟩
       . rw [show ord x y=1 by unfold ord;rw [if_neg (by omega),if_pos (by omega)]];have h3':=decide_eq_false h3;refine yn2.run [] Go.Proofs.Tryz.func98 rfl rfl ?_;simp only [Go.Proofs.Tryz.f98];refine rgR ?_;refine v1h (zh9 x hx) ?_;refine rg ?_;refine v1h (zh9 y hy) ?_;refine rg ?_;refine v1h hS ?_;refine rg ?_;refine z08 (fun e=>absurd e h1') (fun _=>?_);refine rg ?_;refine v1h hL ?_;refine rg1 @h3' ?_;refine indk (by kernel_rfl) ?_;refine rg ?_;exact ⟨_,rfl,.one (.refl _)⟩
     . rw [decide_eq_false h2] at hL;by_cases h3:0<sg x
       . rw [show ord x y=1 by unfold ord;rw [if_neg (by omega),if_pos (by omega)]];have h3':=decide_eq_true h3;refine yn2.run [] Go.Proofs.Tryz.func98 rfl rfl ?_;simp only [Go.Proofs.Tryz.f98];refine rgR ?_;refine v1h (zh9 x hx) ?_;refine rg ?_;refine v1h (zh9 y hy) ?_;refine rg ?_;refine v1h hS ?_;refine rg ?_;refine z08 (fun e=>absurd e h1') (fun _=>?_);refine rg ?_;refine v1h hL ?_;refine rg1 @h3' ?_;refine indk (by kernel_rfl) ?_;refine rg ?_;exact ⟨_,rfl,.one (.refl _)⟩
       . rw [show ord x y = -1 by unfold ord;rw [if_pos (by omega)]];have h3':=decide_eq_false h3;refine yn2.run [] Go.Proofs.Tryz.func98 rfl rfl ?_;simp only [Go.Proofs.Tryz.f98];refine rgR ?_;refine v1h (zh9 x hx) ?_;refine rg ?_;refine v1h (zh9 y hy) ?_;refine rg ?_;refine v1h hS ?_;refine rg ?_;refine z08 (fun e=>absurd e h1') (fun _=>?_);refine rg ?_;refine v1h hL ?_;refine rg1 @h3' ?_;refine indk (by kernel_rfl) ?_;refine rg ?_;exact ⟨_,rfl,.one (.refl _)⟩
   . refine yn2.run [] Go.Proofs.Tryz.func98 rfl rfl ?_;simp only [Go.Proofs.Tryz.f98];refine rgR ?_;refine v1h (zh9 x hx) ?_;refine rg ?_;refine v1h (zh9 y hy) ?_;refine rg ?_;refine v1h hS ?_;refine rg ?_;refine z08 (fun _=>?_) (fun e=>absurd h1 e);refine rg ?_;refine z08 (fun h2=>?_) (fun h2=>?_)
     . refine rg ?_;rw [show ord x y = -1 by unfold ord;rw [if_pos (by omega)]];exact ⟨_,rfl,.one (.refl _)⟩
     . refine rg ?_;rw [show ord x y=1 by unfold ord;rw [if_neg (by omega),if_pos (by omega)]];exact ⟨_,rfl,.one (.refl _)⟩
theorem zm1 (x y:Int) (hx:okZ x) (hy:okZ y) :
 yn2 prog 156 [.agg [.raw (.int .i64 (sg x)),.ints .i64 (dig x.natAbs)],.agg [.raw (.int .i64 (sg y)),.ints .i64 (dig y.natAbs)]]
  (.tup [.agg [.raw (.int .i64 (sg (x+y))),.ints .i64 (dig (x+y).natAbs)],.one (.raw (.int .i64 0))]):=by
 have sx:=wzq x;have sy:=wzq y;have hx':(dig x.natAbs).length<=268435456:=hx;have hy':(dig y.natAbs).length<=268435456:=hy;have hl:=zzg x y;have hP:=y9i (dig x.natAbs) (dig y.natAbs) (wo6 _) (wo6 _) (by omega) (by omega);rw [zeb,zeb] at hP;have hL:=wuz (dig x.natAbs) (dig y.natAbs) (wo6 _) (wo6 _) (by omega) (by omega);rw [zeb,zeb] at hL;by_cases h:sg x=0\/sg y=0\/sg x=sg y
 . have hA:((x.natAbs:Int)+y.natAbs).toNat=(x+y).natAbs:=by omega
   rw [hA] at hP
   have ho:(ior .i64 (sg x) (sg y)=1/\0<=x+y)\/(ior .i64 (sg x) (sg y) = -1/\x+y<=0)\/x+y=0:=by
    rcases sx with ⟨h1,e⟩ | ⟨h1,e⟩ | ⟨h1,e⟩<;>rcases sy with ⟨h2,e'⟩ | ⟨h2,e'⟩ | ⟨h2,e'⟩<;>rw [e,e']<;>first | exact .inl ⟨by decide,by omega⟩ | exact .inr (.inl ⟨by decide,by omega⟩) | exact .inr (.inr (by omega)) | (exfalso;omega)
   have hM:=z4q (ior .i64 (sg x) (sg y)) (x+y) (by omega) ho;by_cases h1:sg x=0
   . have h1':=decide_eq_true h1;refine yn2.run [] Go.Proofs.Tryz.func156 rfl rfl ?_;simp only [Go.Proofs.Tryz.f156];refine rgR ?_;refine v1h (zh9 x hx) ?_;refine rg ?_;refine v1h (zh9 y hy) ?_;refine rg1 @h1' ?_;refine v1h hP ?_;refine rg ?_;refine v1h hM ?_;refine rg ?_;refine indk (by kernel_rfl) ?_;refine rg ?_;exact ⟨_,rfl,.tup (.cons (.refl _) (.cons (.refl _) .nil))⟩
   . have h1':=decide_eq_false h1;by_cases h2:sg y=0
     . have h2':=decide_eq_true h2;refine yn2.run [] Go.Proofs.Tryz.func156 rfl rfl ?_;simp only [Go.Proofs.Tryz.f156];refine rgR ?_;refine v1h (zh9 x hx) ?_;refine rg ?_;refine v1h (zh9 y hy) ?_;refine rg2 @h1' @h2' ?_;refine v1h hP ?_;refine rg ?_;refine v1h hM ?_;refine rg ?_;refine indk (by kernel_rfl) ?_;refine rg ?_;exact ⟨_,rfl,.tup (.cons (.refl _) (.cons (.refl _) .nil))⟩
     . have h2':=decide_eq_false h2
       have h3:sg x=sg y:=by omega
       refine yn2.run [] Go.Proofs.Tryz.func156 rfl rfl ?_;simp only [Go.Proofs.Tryz.f156];refine rgR ?_;refine v1h (zh9 x hx) ?_;refine rg ?_;refine v1h (zh9 y hy) ?_;refine rg2 @h1' @h2' ?_;refine z08 (fun _=>?_) (fun e=>absurd h3 e);refine rg ?_;refine v1h hP ?_;refine rg ?_;refine v1h hM ?_;refine rg ?_;refine indk (by kernel_rfl) ?_;refine rg ?_;exact ⟨_,rfl,.tup (.cons (.refl _) (.cons (.refl _) .nil))⟩
 . have h1:¬sg x=0:=fun e=>h (.inl e)
   have h2:¬sg y=0:=fun e=>h (.inr (.inl e))
   have h3:¬sg x=sg y:=fun e=>h (.inr (.inr e))
   have h1':=decide_eq_false h1;have h2':=decide_eq_false h2;by_cases h4:(x.natAbs:Int)<y.natAbs
   . rw [decide_eq_true h4] at hL;have hD:=yt6 y.natAbs x.natAbs (by omega) (by omega)
     have hA:y.natAbs-x.natAbs=(x+y).natAbs:=by omega
     rw [hA] at hD;have hM:=z4q (sg y) (x+y) (by omega) (by omega);refine yn2.run [] Go.Proofs.Tryz.func156 rfl rfl ?_;simp only [Go.Proofs.Tryz.f156];refine rgR ?_;refine v1h (zh9 x hx) ?_;refine rg ?_;refine v1h (zh9 y hy) ?_;refine rg2 @h1' @h2' ?_;refine z08 (fun e=>absurd e h3) (fun _=>?_);refine rg ?_;refine v1h hL ?_;refine rg ?_;refine v1h hD ?_;refine rg ?_;refine v1h hM ?_;refine rg ?_;refine indk (by kernel_rfl) ?_;refine rg ?_;exact ⟨_,rfl,.tup (.cons (.refl _) (.cons (.refl _) .nil))⟩
   . rw [decide_eq_false h4] at hL;have hD:=yt6 x.natAbs y.natAbs (by omega) (by omega)
     have hA:x.natAbs-y.natAbs=(x+y).natAbs:=by omega
     rw [hA] at hD;have hM:=z4q (sg x) (x+y) (by omega) (by omega);refine yn2.run [] Go.Proofs.Tryz.func156 rfl rfl ?_;simp only [Go.Proofs.Tryz.f156];refine rgR ?_;refine v1h (zh9 x hx) ?_;refine rg ?_;refine v1h (zh9 y hy) ?_;refine rg2 @h1' @h2' ?_;refine z08 (fun e=>absurd e h3) (fun _=>?_);refine rg ?_;refine v1h hL ?_;refine rg ?_;refine v1h hD ?_;refine rg ?_;refine v1h hM ?_;refine rg ?_;refine indk (by kernel_rfl) ?_;refine rg ?_;exact ⟨_,rfl,.tup (.cons (.refl _) (.cons (.refl _) .nil))⟩
theorem wye (x y:Int) (hx:okZ x) (hy:okZ y) :
 yn2 prog 157 [.agg [.raw (.int .i64 (sg x)),.ints .i64 (dig x.natAbs)],.agg [.raw (.int .i64 (sg y)),.ints .i64 (dig y.natAbs)]]
  (.tup [.agg [.raw (.int .i64 (sg (x-y))),.ints .i64 (dig (x-y).natAbs)],.one (.raw (.int .i64 0))]):=by
 have hA:=zm1 x (-y) hx (by unfold okZ;rw [Int.natAbs_neg];exact hy);rw [<-Int.sub_eq_add_neg] at hA;refine yn2.run [] Go.Proofs.Tryz.func157 rfl rfl ?_;simp only [Go.Proofs.Tryz.f157];refine rgR ?_;refine v1h (zh9 y hy) ?_;refine rg ?_;refine v1h (vm1 y hy) ?_;refine rg ?_;refine v1h hA ?_;refine rg ?_;refine indk (by kernel_rfl) ?_;refine rg ?_;exact ⟨_,rfl,.tup (.cons (.refl _) (.cons (.refl _) .nil))⟩
theorem y11 (x y:Int) (hx:okZ x) (hy:okZ y) :
 yn2 prog 155 [.agg [.raw (.int .i64 (sg x)),.ints .i64 (dig x.natAbs)],.agg [.raw (.int .i64 (sg y)),.ints .i64 (dig y.natAbs)]]
  (.tup [.agg [.raw (.int .i64 (sg (x*y))),.ints .i64 (dig (x*y).natAbs)],.one (.raw (.int .i64 0))]):=by
 have hx':(dig x.natAbs).length<=268435456:=hx;have hy':(dig y.natAbs).length<=268435456:=hy;have hl:=wm8 x y;have hT:=v86 (dig x.natAbs) (dig y.natAbs) (wo6 _) (wo6 _) (by omega) (by omega);rw [zeb,zeb,<-Int.natCast_mul,Int.toNat_natCast,<-Int.natAbs_mul] at hT;have hm:=vda x y;have hr:=wzq (x*y);have hM:=z4q (sg (x*y)) (x*y) (by omega) (wqt _);refine yn2.run [] Go.Proofs.Tryz.func155 rfl rfl ?_;simp only [Go.Proofs.Tryz.f155];refine rgR ?_;refine v1h (zh9 x hx) ?_;refine rg ?_;refine v1h (zh9 y hy) ?_;refine rg1 @hm ?_;refine v1h hT ?_;refine rg1 @hm ?_;refine v1h hM ?_;refine rg ?_;refine indk (by kernel_rfl) ?_;refine rg ?_;exact ⟨_,rfl,.tup (.cons (.refl _) (.cons (.refl _) .nil))⟩
end Go.Slot.T
