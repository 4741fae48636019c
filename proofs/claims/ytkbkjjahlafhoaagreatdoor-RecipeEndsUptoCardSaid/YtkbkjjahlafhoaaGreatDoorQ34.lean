/- The proof, part Q34: Yc, Yd, Yl, Ym, Qa, Qb. -/
import Derived.Test.YtkbkjjahlafhoaaGreatDoorQ17
import Derived.Test.YtkbkjjahlafhoaaGreatDoorQ33
import Derived.Test.YtkbkjjahlafhoaaGreatDoorQ20
import Derived.Test.YtkbkjjahlafhoaaGreatDoorQ27
import Derived.Test.YtkbkjjahlafhoaaGreatDoorQ21
import Derived.Test.YtkbkjjahlafhoaaGreatDoorQ24
namespace Go.Hp.T
open Go Go.RowKit Go.Slot Go.Hp Go.Slot.T
open Go.Proofs.Tryz
attribute [local irreducible] hide RH
set_option maxRecDepth 10000
set_option maxHeartbeats 8000000
variable {Γ:List (Nat×List Cell)}
theorem xyh (a b:List Int) (ha:digits a) (hb:digits b) (la:a.length<=1073741824) (lb:b.length<=1073741824) :
 CallsD Γ prog 196 [.one (.ints .i64 a),.one (.ints .i64 b)] (.one (.ints .i64 (dig (num a*num b).toNat))):=by
 refine hE [(9,[.join])] func196 f196.eq_1 ?_;refine wf5 [0,1,4] (fun x:Nat×List Int=>[(5,.one (.sl 0 1 0 (a.length+b.length))),(6,.one (.dat (cI (x.1))))]) (fun x=>[.arr (.ints .i64 x.2) 0 none])
  (fun x=>x.1<=a.length/\x.2.length=a.length+b.length/\digits x.2/\yoy x.2 (x.1+b.length)/\num x.2=num (a.take x.1)*num b)
  (fun x=>a.length-x.1) (0,List.replicate ((a.length:Int)+b.length).toNat 0)
  ⟨Nat.zero_le _,by simp;omega,digits.rep _,(yoy.rep _).mono (Nat.zero_le _),by simp [num,wtk]⟩ ?_ ?_
 . have e:((a.length:Int)+b.length).toNat=a.length+b.length:=by omega
   refine hg1 @e ?_;exact sS
 rintro ⟨i,o⟩ ⟨hi,ho,hdo,hz,hn⟩;simp only at hi ho hdo hz hn;refine hg1 @ho ?_;refine y8g (fun h _=>?_) (fun h _=>?_)
 . refine hg1 @ho ?_;have hai:=ha.getD i;refine wf5 [0,1,4,5,6] (fun x:Nat×List Int×Int=>[(7,.one (.dat (cI (x.2.2)))),(8,.one (.dat (cI (x.1))))]) (fun x=>[.arr (.ints .i64 x.2.1) 0 none])
    (fun x=>x.1<=b.length+1/\x.2.1.length=a.length+b.length/\digits x.2.1/\yoy x.2.1 (i+max x.1 b.length)/\(0<=x.2.2/\x.2.2<=1048575)/\(b.length<x.1->x.2.2=0)/\
      num x.2.1+1048576 ^ (i+x.1)*x.2.2=num (a.take i)*num b+1048576 ^ i*(a.getD i 0*num (b.take x.1)))
    (fun x=>b.length+1-x.1) (0,o,0)
    ⟨Nat.zero_le _,ho,hdo,hz.mono (by simp),by simp,by simp,by simp [num,hn]⟩ ?_ ?_
   . refine hg1 @ho ?_;exact sS
   rintro ⟨k,o',c⟩ ⟨hk,ho',hdo',hz',hc,hc0,hn'⟩;simp only at hk ho' hdo' hz' hc hc0 hn';refine hg1 @ho' ?_;refine y7q [0,1,4,5,6,7,8] (fun _:Unit=>[]) (fun _=>[.arr (.ints .i64 o') 0 none]) (fun _=>k<b.length\/0<c) ?_ ?_
   . refine hg1 @ho' ?_;refine xaf (fun h1 _=>?_) (fun h1 _=>?_)
     . refine hg2 @h1 @ho' ?_;refine y8g (fun h3 _=>?_) (fun h3 _=>?_)
       . refine hg1 @ho' ?_;exact ⟨(),.inr h3,sS⟩
       . have hc1:c=0:=by omega
         rw [yln (l:=b) (i:=k) (by omega),hc1,Int.mul_zero,Int.add_zero] at hn';refine hg1 @ho' ?_;refine ⟨(i+1,o'),⟨by dsimp only;omega,ho',hdo',?_,?_⟩,by dsimp only;omega,sS⟩
         . dsimp only;exact hz'.mono (by omega)
         . dsimp only;rw [hn',zb2]
           grind
     . have h1':=decide_eq_true h1;refine hg2 @h1' @ho' ?_;exact ⟨(),.inl (by omega),sS⟩
   rintro _ hgo
   have hkb:k<=b.length:=by
    rcases Nat.lt_or_ge b.length k with h | h
    . have:=hc0 h;omega
    . exact h
   have hbk:=hb.getD k;have hok:=hdo'.getD (i+k);have hprod:0<=a.getD i 0*b.getD k 0/\a.getD i 0*b.getD k 0<=1048575*1048575:=⟨Int.mul_nonneg hai.1 hbk.1,Int.mul_le_mul hai.2 hbk.2 hbk.1 (by decide)⟩
   have eik:((i:Int)+k).toNat=i+k:=by omega
   have ho0:b.length<=k->o'.getD (i+k) 0=0/\b.getD k 0=0:=fun h=>⟨hz' _ (by omega),zg7 h⟩
   refine hg2 @eik @ho' ?_
   first | refine wdy (ygf b k (by omega) (by omega)) ?_ | refine y04 (ygf b k (by omega) (by omega)) ?_
   refine hg2 @eik @ho' ?_;refine hik ?_;refine hg2 @eik @ho' ?_
   have hc0':b.length<=k->(o'.getD (i+k) 0+a.getD i 0*b.getD k 0+c) / 1048576=0:=fun h=>by
    obtain ⟨e1,e2⟩:=ho0 h;rw [e1,e2];omega
   generalize hs:o'.getD (i+k) 0+a.getD i 0*b.getD k 0+c=s at *;have hm:s.tmod 1048576=s % 1048576:=Int.tmod_eq_emod_of_nonneg (by omega);have hq:s.tdiv 1048576=s / 1048576:=Int.tdiv_eq_ediv_of_nonneg (by omega);have h2:=z9a (o:=o') (i:=i+k) (by omega) s;refine hg4 @hm @hq @eik @ho' ?_
   refine ⟨(k+1,o'.set (i+k) (s % 1048576),s / 1048576),
    ⟨by dsimp only;omega,by simpa using ho',hdo'.set _ (by omega),?_,by dsimp only;omega,fun h=>hc0' (by dsimp only at h;omega),?_⟩,by dsimp only;omega,?_⟩
   . dsimp only
     rcases Nat.lt_or_ge k b.length with h | h
     . rw [show max (k+1) b.length=max k b.length by omega];exact hz'.zra _ (by omega)
     . rw [show i+max (k+1) b.length=i+max k b.length+1 by omega,show i+k=i+max k b.length by omega];exact hz'.set _
   . dsimp only;rw [zb2,show i+(k+1)=i+k+1 by omega,h2,<-hs,Int.pow_add];rw [Int.pow_add] at hn'
     grind
   . exact sS
 . have hia:i=a.length:=by omega
   subst hia;rw [List.take_length] at hn;refine hg1 @ho ?_
   first | refine wdy (x4l o (by omega)) ?_ | refine y04 (x4l o (by omega)) ?_
   refine hg1 @ho ?_;exact (by rw [xrd hdo hn];exact .one (.refl _))
theorem y9p {x:Int} (h:0<=x/\x<=1048575):y7d [x]=dig x.toNat:=xrd (digits.cons h digits.nil) (by simp [num])
theorem zf0 (x y:Nat) (hy:y≠0) (la:(dig x).length<=536870912) (lb:(dig y).length<=536870912) :
 CallsD Γ prog 167 [.one (.ints .i64 (dig x)),.one (.ints .i64 (dig y))] (.tup [.one (.ints .i64 (dig (x / y))),.one (.ints .i64 (dig (x % y)))]):=by
 have hnx:=wag x;have ha:=v8d x;have hny:=wag y;have hb:=v8d y;generalize dig x=a at *;refine hE [(6,[.own])] func167 f167.eq_1 ?_;refine wf5 [0,1] (fun z:Nat×List Int×Nat=>[(6,.one (.sl 0 1 0 a.length)),(7,.one (.dat (.ints .i64 (dig z.2.2)))),(8,.one (.dat (cI (((z.1:Int)-1)))))]) (fun z=>[.arr (.ints .i64 z.2.1) 0 none])
  (fun z=>z.1<=a.length/\z.2.1.length=a.length/\digits z.2.1/\z.2.2<y/\num (a.drop z.1)=y*num (z.2.1.drop z.1)+z.2.2) (fun z=>z.1) (a.length,List.replicate (a.length:Int).toNat 0,0)
  ⟨Nat.le_refl _,by simp,digits.rep _,Nat.pos_of_ne_zero hy,by simp [num]⟩ ?_ ?_
 . refine hg1 @v6p ?_;exact StH.same (by repeat' first | exact .nil | refine .cons (by first | exact .refl _ | exact .any _ | exact .one (.dat (.zt9 _))) ?_) rfl
 rintro ⟨n,q,R⟩ ⟨hn,hq,hdq,hR,he⟩;simp only at hn hq hdq hR he;have hlR:(dig R).length<=536870912:=Nat.le_trans (z6g (by omega)) lb;refine hg1 @hq ?_;refine y8g (fun h _=>?_) (fun h _=>?_)
 . obtain ⟨i,rfl⟩:∃ i,n=i+1:=⟨n-1,by omega⟩
   have ei:((i+1:Nat):Int)-1=(i:Nat):=by omega
   have hai:=ha.getD i;obtain ⟨S,hS⟩:∃ S:Nat,(S:Int)=a.getD i 0+1048576*R:=⟨(a.getD i 0+1048576*R).toNat,by omega⟩
   have hSl:y7d (a.getD i 0::dig R)=dig S:=by
    have:=xrd (L:=a.getD i 0::dig R) (n:=S) (digits.cons hai (v8d R)) (by simp only [num,wag];omega)
    rwa [Int.toNat_natCast] at this
   have hlS:(dig S).length<=536870913:=by
    rw [<-hSl];refine Nat.le_trans (vbx _) ?_;simp only [List.length_cons];omega
   have hSy:(S:Int)<1048576*y:=by omega
   refine hg2 @ei @hq ?_
   first | refine wdy (x4l (a.getD i 0::dig R) (by simp only [List.length_cons];omega)) ?_ | refine y04 (x4l (a.getD i 0::dig R) (by simp only [List.length_cons];omega)) ?_
   rw [hSl];refine hg2 @ei @hq ?_;refine wf5 [0,1,6,7,8] (fun z:Int×Int=>[(9,.one (.dat (cI (z.1)))),(10,.one (.dat (cI (z.2))))]) (fun _=>[.arr (.ints .i64 q) 0 none])
    (fun z=>0<=z.1/\z.1<z.2/\z.2<=1048576/\z.1*y<=S/\S<z.2*y) (fun z=>(z.2-z.1).toNat) (0,1048576) ⟨by simp,by decide,by simp,by simp,by simp;omega⟩ ?_ ?_
   . refine hg1 @hq ?_;exact StH.cutN [0,1,6,7,8,9,10] 1 rfl (by kernel_rfl) (sS)
   rintro ⟨lo,hi⟩ ⟨h0,h1,h2,h3,h4⟩;simp only at h0 h1 h2 h3 h4;refine hg1 @hq ?_;refine y8g (fun h5 _=>?_) (fun h5 _=>?_)
   . have hm2:(lo+hi).tdiv 2=(lo+hi) / 2:=Int.tdiv_eq_ediv_of_nonneg (by omega);refine hg2 @hm2 @hq ?_;generalize hmid:(lo+hi) / 2=mid at *;obtain ⟨m,hm⟩:∃ m:Nat,(m:Int)=mid:=⟨mid.toNat,by omega⟩
     have hT:(num (dig y)*num [mid]).toNat=y*m:=by rw [hny];simp only [num];rw [<-hm,Int.mul_zero,Int.add_zero,<-Int.natCast_mul];rfl
     have hlT:(dig (y*m)).length<=1073741824:=by
      have:=vjg y m
      have:(dig m).length<=4:=zlm (by omega)
      omega
     first | refine wdy (xyh (dig y) [mid] hb (digits.cons (by omega) digits.nil) (by omega) (by simp)) ?_ | refine y04 (xyh (dig y) [mid] hb (digits.cons (by omega) digits.nil) (by omega) (by simp)) ?_
     rw [hT];refine hg1 @hq ?_
     first | refine wdy (xb7 (dig S) (dig (y*m)) (v8d _) (v8d _) (by omega) (by omega)) ?_ | refine y04 (xb7 (dig S) (dig (y*m)) (v8d _) (v8d _) (by omega) (by omega)) ?_
     rw [wag,wag]
     have hym:((y*m:Nat):Int)=mid*y:=by rw [Int.natCast_mul,hm,Int.mul_comm]
     rw [hym];refine hg1 @hq ?_;refine y8g (fun h6 _=>?_) (fun h6 _=>?_)
     . refine hg1 @hq ?_;exact ⟨(lo,mid),⟨h0,by dsimp only;omega,by dsimp only;omega,h3,h6⟩,by dsimp only;omega,sS⟩
     . refine hg1 @hq ?_;exact ⟨(mid,hi),⟨by dsimp only;omega,by dsimp only;omega,h2,by dsimp only;omega,h4⟩,by dsimp only;omega,sS⟩
   . have hlo:hi=lo+1:=by omega
     subst hlo;obtain ⟨l,hl⟩:∃ l:Nat,(l:Int)=lo:=⟨lo.toNat,by omega⟩
     have hlo1:lo.toNat=l:=by omega
     have hT:(num (dig y)*num (dig l)).toNat=y*l:=by rw [hny,wag,<-Int.natCast_mul];rfl
     have hyl:((y*l:Nat):Int)=lo*y:=by rw [Int.natCast_mul,hl,Int.mul_comm]
     have hll:(dig l).length<=4:=zlm (by omega);rw [Int.add_mul,Int.one_mul] at h4;refine hg2 @ei @hq ?_
     first | refine wdy (x4l [lo] (by simp)) ?_ | refine y04 (x4l [lo] (by simp)) ?_
     rw [y9p (by omega),hlo1];refine hg2 @ei @hq ?_
     first | refine wdy (xyh (dig y) (dig l) hb (v8d _) (by omega) (by omega)) ?_ | refine y04 (xyh (dig y) (dig l) hb (v8d _) (by omega) (by omega)) ?_
     rw [hT];refine hg2 @ei @hq ?_
     first | refine wdy (vxc S (y*l) (by omega) (by omega)) ?_ | refine y04 (vxc S (y*l) (by omega) (by omega)) ?_
     refine hg2 @ei @hq ?_;refine ⟨(i,q.set i lo,S-y*l),⟨by dsimp only;omega,by simpa using hq,hdq.set _ (by omega),by dsimp only;omega,?_⟩,by dsimp only;omega,sS⟩;dsimp only;rw [xkb _ (by omega),z4x,he];simp only [num];rw [Int.natCast_sub (by omega),hyl,hS]
     grind
 . have h0:n=0:=by omega
   subst h0;simp only [List.drop_zero] at he;rw [hnx] at he;have hq0:=num_nonneg hdq;obtain ⟨Q,hQ⟩:∃ Q:Nat,(Q:Int)=num q:=⟨(num q).toNat,by omega⟩;rw [<-hQ] at he
   have hxx:x=y*Q+R:=by rw [<-Int.natCast_mul] at he;omega
   have e1:x / y=Q:=by rw [hxx,Nat.mul_add_div (by omega),Nat.div_eq_of_lt hR];omega
   have e2:x % y=R:=by rw [hxx,Nat.mul_add_mod,Nat.mod_eq_of_lt hR]
   have e3:y7d q=dig Q:=by have:=xrd hdq hQ.symm;rwa [Int.toNat_natCast] at this
   rw [e1,e2];refine hg1 @hq ?_
   first | refine wdy (x4l q (by omega)) ?_ | refine y04 (x4l q (by omega)) ?_
   rw [e3];refine hg1 @hq ?_;exact (.tup (.cons (.refl _) (.cons (.refl _) .nil)))
theorem wek (s:Int) (L:List Int) (hL:L.length<=1099511627776):CallsD Γ prog 138 [.agg [.raw (.int .i64 s),.ints .i64 L]] (.one (.raw (.bool (decide (ww6 s L))))):=by
 obtain ⟨r,hr⟩:∃ r,r=decide (ww6 s L):=⟨_,rfl⟩;rw [<-hr]
 have bad:¬ww6 s L->false=r:=fun h=>by rw [hr,decide_eq_false h]
 refine hE [] func138 f138.eq_1 ?_;refine wf5 [1] (fun i:Nat=>[(3,.one (.dat (cI i)))]) (fun _=>[.box [.dat (cI s),.dat (.ints .i64 L)] (some 49)])
  (fun i=>i<=L.length/\digits (L.take i)) (fun i=>L.length-i) 0 ⟨Nat.zero_le _,by simp [digits]⟩ ?_ ?_
 . refine hg ?_;exact sS
 rintro i ⟨hi,hd⟩;refine hg ?_;refine y8g (fun h _=>?_) (fun h _=>?_)
 . have hi':i<L.length:=by omega
   have hget:L.getD i 0=L[i]:=by simp [hi']
   have hmem:L[i]∈L:=List.getElem_mem hi'
   have hbad:¬(0<=L.getD i 0/\L.getD i 0<=1048575)->false=r:=fun hn=>bad (fun hr=>hn (by rw [hget];exact hr.1 _ hmem))
   refine hg ?_;refine xaf (fun h1 _=>?_) (fun h1 _=>?_)
   . refine hg1 @h1 ?_;refine y8g (fun h2 _=>?_) (fun h2 _=>?_)
     . refine hg ?_;exact (by rw [hbad (by omega)];exact .one (.refl _))
     . refine hg ?_;refine ⟨i+1,⟨by omega,?_⟩,by omega,sS⟩;intro x hx;rw [List.take_add_one,List.mem_append] at hx
       rcases hx with hx | hx
       . exact hd x hx
       . simp [hi'] at hx;subst hx;rw [<-hget];omega
   . have h1':=decide_eq_true h1;refine hg1 @h1' ?_;exact (by rw [hbad (by omega)];exact .one (.refl _))
 . have hi':i=L.length:=by omega
   have hdig:digits L:=by rw [hi',List.take_length] at hd;exact hd
   refine hg ?_;refine xaf (fun h1 _=>?_) (fun h1 _=>?_)
   . refine hg1 @h1 ?_;refine xaf (fun h2 _=>?_) (fun h2 _=>?_)
     . by_cases h3:(L.length:Int)=0
       . have hnil:L=[]:=by have:L.length=0:=(by omega);simpa using this
         have h3':=decide_eq_true h3;by_cases h4:s=0
         . have h4':=decide_eq_true h4
           have e:true=r:=by rw [hr,decide_eq_true (show ww6 s L from ⟨hdig,.inl ⟨hnil,h4⟩⟩)]
           refine hg3 @h2 @h3' @h4' ?_;exact (by rw [e];exact .one (.refl _))
         . have h4':=decide_eq_false h4;refine hg3 @h2 @h3' @h4' ?_;exact (by rw [bad (fun hb=>by rcases hb.2 with h | h;exact h4 h.2;exact h.1 hnil)];exact .one (.refl _))
       . have h3':=decide_eq_false h3
         have hne:L≠[]:=fun e=>h3 (by rw [e];rfl)
         have hpos:0<L.length:=List.length_pos_iff.2 hne;by_cases h4:s=0
         . have h4':=decide_eq_true h4;refine hg3 @h2 @h3' @h4' ?_;exact (by rw [bad (fun hb=>by rcases hb.2 with h | h;exact hne h.1;omega)];exact .one (.refl _))
         . have h4':=decide_eq_false h4
           have hlast:decide (L.getD (L.length-1) 0≠0)=r:=by
            rw [hr];apply decide_eq_decide.2;simp only [ww6];constructor
            . exact fun h4=>⟨hdig,.inr ⟨hne,by omega,h4⟩⟩
            . rintro ⟨_,⟨h4,_⟩ | ⟨_,_,h4⟩⟩
              . exact absurd h4 hne
              . exact h4
           have e:((L.length:Int)-1).toNat=L.length-1:=by omega
           refine hg4 @h2 @h3' @h4' @e ?_;exact (by rw [hlast];exact .one (.refl _))
     . have h2':=decide_eq_true h2;refine hg1 @h2' ?_;exact (by rw [bad (fun hb=>by rcases hb.2 with h | h<;>omega)];exact .one (.refl _))
   . have h1':=decide_eq_true h1;refine hg1 @h1' ?_;exact (by rw [bad (fun hb=>by rcases hb.2 with h | h<;>omega)];exact .one (.refl _))
theorem zum (z:Int) (hz:okZ z):CallsD Γ prog 138 [.agg [.raw (.int .i64 (sg z)),.ints .i64 (dig z.natAbs)]] (.one (.raw (.bool true))):=by
 have h:=wek (Γ:=Γ) (sg z) (dig z.natAbs) (by omega);rw [decide_eq_true (xf0 z)] at h;exact h
theorem x11 (x y:Int) (hx:okZ x) (hy:okZ y) :
 CallsD Γ prog 140 [.agg [.raw (.int .i64 (sg x)),.ints .i64 (dig x.natAbs)],.agg [.raw (.int .i64 (sg y)),.ints .i64 (dig y.natAbs)]]
  (.tup [.agg [.raw (.int .i64 (sg (Int.gcd x y:Int))),.ints .i64 (dig (Int.gcd x y:Int).natAbs)],.one (.raw (.int .i64 0))]):=by
 refine hE [] func140 f140.eq_1 ?_
 first | refine wdy (zum x hx) ?_ | refine y04 (zum x hx) ?_
 refine hg ?_
 first | refine wdy (zum y hy) ?_ | refine y04 (zum y hy) ?_
 refine hg ?_;refine wf5 [2,3,4,5] (fun p:Nat×Nat=>[(6,.one (.dat (.ints .i64 (dig p.1)))),(7,.one (.dat (.ints .i64 (dig p.2))))])
  (fun _=>[.box [.dat (cI (sg x)),.dat (.ints .i64 (dig x.natAbs))] (some 49),.box [.dat (cI (sg y)),.dat (.ints .i64 (dig y.natAbs))] (some 49),.box [.dat (cI 0),.dat .zc] (some 49)])
  (fun p=>Nat.gcd p.1 p.2=Int.gcd x y/\(dig p.1).length<=268435456/\(dig p.2).length<=268435456) (fun p=>p.2) (x.natAbs,y.natAbs) ⟨rfl,hx,hy⟩ ?_ ?_
 . refine hg ?_;exact sS
 rintro ⟨m,n⟩ ⟨hgg,hm,hn⟩;simp only at hgg hm hn;refine hg ?_;refine y8g (fun h _=>?_) (fun h _=>?_)
 . have hn0:n≠0:=fun e=>by rw [e,v6p] at h;simp at h
   refine hg ?_
   first | refine wdy (zf0 m n hn0 (by omega) (by omega)) ?_ | refine y04 (zf0 m n hn0 (by omega) (by omega)) ?_
   refine hg ?_;refine ⟨(n,m % n),⟨?_,hn,Nat.le_trans (z6g (Nat.mod_le _ _)) hm⟩,Nat.mod_lt _ (by omega),sS⟩;dsimp only;rw [<-hgg,Nat.gcd_comm n,<-Nat.gcd_rec,Nat.gcd_comm]
 . have hn0:n=0:=v60.1 (List.eq_nil_of_length_eq_zero (by omega));subst hn0;rw [Nat.gcd_zero_right] at hgg
   have e:(Int.gcd x y:Int).natAbs=m:=by rw [<-hgg];rfl
   have hs:=wiq (Γ:=Γ) 1 (Int.gcd x y:Int) (by rw [e];omega) (.inl ⟨rfl,by omega⟩);rw [e] at hs ⊢;refine hg ?_
   first | refine wdy hs ?_ | refine y04 hs ?_
   refine hg ?_;exact (.tup (.cons (.refl _) (.cons (.refl _) .nil)))
theorem y46 (x y:Int) (hx:okZ x) (hy:okZ y) (hy0:0<y) :
 CallsD Γ prog 141 [.agg [.raw (.int .i64 (sg x)),.ints .i64 (dig x.natAbs)],.agg [.raw (.int .i64 (sg y)),.ints .i64 (dig y.natAbs)]]
  (.tup [.agg [.raw (.int .i64 (sg (x / y))),.ints .i64 (dig (x / y).natAbs)],.agg [.raw (.int .i64 (sg (x % y))),.ints .i64 (dig (x % y).natAbs)],.one (.raw (.int .i64 0))]):=by
 have sx:=yo8 x;have sy:=vge hy0;have hn:=Nat.div_add_mod x.natAbs y.natAbs;have hr:=Nat.mod_lt x.natAbs (show 0<y.natAbs by omega);have hqx:=Nat.div_le_self x.natAbs y.natAbs;have hrx:=Nat.mod_le x.natAbs y.natAbs;have hlq:=z6g hqx;have hlr:=z6g hrx;have hcd:=zf0 (Γ:=Γ) x.natAbs y.natAbs (by omega) (by omega) (by omega);generalize hQ:x.natAbs / y.natAbs=Q at *;generalize hR:x.natAbs % y.natAbs=R at *
 have hyQ:((y.natAbs*Q:Nat):Int)=y*Q:=by rw [Int.natCast_mul];congr 1;omega
 have eR:=wag R;have eQ:=wag Q;have ey:=zyb y;have hlQ1:=wmg Q 1
 have h1l:(dig 1).length=1:=by rw [vv4 (by decide),v6p];rfl
 refine hE [] func141 f141.eq_1 ?_
 first | refine wdy (zum x hx) ?_ | refine y04 (zum x hx) ?_
 refine hg ?_
 first | refine wdy (zum y hy) ?_ | refine y04 (zum y hy) ?_
 refine hg ?_;refine y8g (fun h _=>absurd h (by omega)) (fun _ _=>?_);refine hg ?_
 first | refine wdy hcd ?_ | refine y04 hcd ?_
 have done:∀(s:Int),s=sg x->(0<=x\/R=0)->((s=1/\0<=x / y)\/(s = -1/\x / y<=0)\/x / y=0)/\((sg x=1/\0<=x % y)\/(sg x = -1/\x % y<=0)\/x % y=0)/\(x / y).natAbs=Q/\(x % y).natAbs=R:=fun s hs h=>by
  rcases h with h | h
  . obtain ⟨k1,k2⟩:=vb5 (x:=x) (y:=y) (q:=(Q:Int)) (r:=(R:Int)) (by omega) (by omega) (by omega)
    have hQ0:x=0->Q=0/\R=0:=fun e=>by subst e;simp at hqx hrx;exact ⟨hqx,hrx⟩
    rw [k1,k2,hs]
    refine ⟨?_,?_,by omega,by omega⟩<;>omega
  . rcases Int.lt_or_le x 0 with h0 | h0
    . obtain ⟨k1,k2⟩:=vb5 (x:=x) (y:=y) (q:=-(Q:Int)) (r:=0) (by
       have:y * -(Q:Int) = -(y*Q):=by grind
       omega) (by omega) (by omega)
      rw [k1,k2,hs]
      refine ⟨?_,?_,by omega,by omega⟩<;>omega
    . obtain ⟨k1,k2⟩:=vb5 (x:=x) (y:=y) (q:=(Q:Int)) (r:=(R:Int)) (by omega) (by omega) (by omega)
      have hQ0:x=0->Q=0/\R=0:=fun e=>by subst e;simp at hqx hrx;exact ⟨hqx,hrx⟩
      rw [k1,k2,hs]
      refine ⟨?_,?_,by omega,by omega⟩<;>omega
 have plain:(0<=x\/R=0)->CallsD Γ prog 142 [.one (.raw (.int .i64 (sg x))),.one (.ints .i64 (dig Q))] (.agg [.raw (.int .i64 (sg (x / y))),.ints .i64 (dig (x / y).natAbs)])/\
  CallsD Γ prog 142 [.one (.raw (.int .i64 (sg x))),.one (.ints .i64 (dig R))] (.agg [.raw (.int .i64 (sg (x % y))),.ints .i64 (dig (x % y).natAbs)]):=fun h=>by
  obtain ⟨d1,d2,m1,m2⟩:=done _ rfl h;have hs1:=wiq (Γ:=Γ) (sg x) (x / y) (by rw [m1];omega) d1;have hs2:=wiq (Γ:=Γ) (sg x) (x % y) (by rw [m2];omega) d2;rw [m1] at hs1 ⊢;rw [m2] at hs2 ⊢;exact ⟨hs1,hs2⟩
 refine hg2 @sy @Int.mul_one ?_;refine xaf (fun h1 _=>?_) (fun h1 _=>?_)
 . have hx0:x<0:=by omega
   refine hg3 @h1 @sy @Int.mul_one ?_;refine y8g (fun h2 _=>?_) (fun h2 _=>?_)
   . have hR0:R=0:=v60.1 (List.eq_nil_of_length_eq_zero (by omega));obtain ⟨hs1,hs2⟩:=plain (.inr hR0);refine hg2 @sy @Int.mul_one ?_
     first | refine wdy hs1 ?_ | refine y04 hs1 ?_
     refine hg ?_
     first | refine wdy hs2 ?_ | refine y04 hs2 ?_
     refine hg ?_;refine hik ?_;refine hg ?_;exact (.tup (.cons (.refl _) (.cons (.refl _) (.cons (.refl _) .nil))))
   . have hR0:R≠0:=fun e=>by rw [e,v6p] at h2;simp at h2
     obtain ⟨k1,k2⟩:=vb5 (x:=x) (y:=y) (q:=-((Q:Int)+1)) (r:=y-R) (by
      have:y * -((Q:Int)+1) = -(y*Q)-y:=by grind
      omega) (by omega) (by omega)
     have m1:(x / y).natAbs=Q+1:=by rw [k1];omega
     have m2:(x % y).natAbs=y.natAbs-R:=by rw [k2];omega
     have m3:(num (dig Q)+num [1]).toNat=Q+1:=by rw [eQ];simp [num]
     have hA:=x8i (Γ:=Γ) (dig Q) [1] (v8d _) (digits.cons (by decide) digits.nil) (by omega) (by simp);rw [m3,<-m1] at hA;have hS:=vxc (Γ:=Γ) y.natAbs R (by omega) (by omega);rw [<-m2] at hS;have hs1:=wiq (Γ:=Γ) (-1) (x / y) (by rw [m1];omega) (by rw [k1];omega);have hs2:=wiq (Γ:=Γ) 1 (x % y) (by rw [m2];have:=z6g (show y.natAbs-R<=y.natAbs by omega);omega) (by rw [k2];omega);refine hg2 @sy @Int.mul_one ?_
     first | refine wdy hA ?_ | refine y04 hA ?_
     refine hg ?_
     first | refine wdy hs1 ?_ | refine y04 hs1 ?_
     refine hg1 @sy ?_
     first | refine wdy hS ?_ | refine y04 hS ?_
     refine hg ?_
     first | refine wdy hs2 ?_ | refine y04 hs2 ?_
     refine hg ?_;refine hik ?_;refine hg ?_;exact (.tup (.cons (.refl _) (.cons (.refl _) (.cons (.refl _) .nil))))
 . have h1':=decide_eq_true h1;obtain ⟨hs1,hs2⟩:=plain (.inl (by omega));refine hg3 @h1' @sy @Int.mul_one ?_
   first | refine wdy hs1 ?_ | refine y04 hs1 ?_
   refine hg ?_
   first | refine wdy hs2 ?_ | refine y04 hs2 ?_
   refine hg ?_;refine hik ?_;refine hg ?_;exact (.tup (.cons (.refl _) (.cons (.refl _) (.cons (.refl _) .nil))))
theorem rOf (n:Int) (hn:inI n):CallsD Γ prog 83 [.one (.raw (.int .i64 n))] (.agg [.raw (.int .i64 (sg n)),.ints .i64 (dig n.natAbs)]):=by
 unfold inI at hn;refine hE [(6,[.join]),(11,[.join])] func83 f83.eq_1 ?_;refine y8g (fun h0 _=>?_) (fun h0 _=>?_)
 . subst h0;refine hg ?_;exact (by rw [show (0:Int).natAbs=0 from rfl,v6p];exact .one (.agg (.cons (.refl _) (.cons (.v3s _) .nil))))
 refine hg ?_;refine y7q [0,2] (fun s:Int=>[(3,.one (.dat (cI s)))]) (fun _=>[.box [.dat (cI 0),.dat .zc] (some 49)]) (fun s=>(s=1/\0<=n)\/(s = -1/\n<0)) ?_ ?_
 . refine hg ?_;refine y8g (fun h _=>?_) (fun h _=>?_)
   . refine hg ?_;exact ⟨-1,.inr ⟨rfl,h⟩,sS⟩
   . refine hg ?_;exact ⟨1,.inl ⟨rfl,by omega⟩,sS⟩
 rintro s hs
 have hsN:n=s*(n.natAbs:Int):=by rcases hs with ⟨rfl,h⟩ | ⟨rfl,h⟩<;>omega
 have hN:(n.natAbs:Int)<=9223372036854775808:=by omega
 have hss:s=1\/s = -1:=by rcases hs with h | h;exact .inl h.1;exact .inr h.1
 have hmod:∀ u:Int,0<=u->(s*u).tmod 1048576=s*(u % 1048576)/\(s*u).tdiv 1048576=s*(u / 1048576):=fun u hu=>by
  rcases hss with rfl | rfl
  . rw [Int.one_mul,Int.one_mul,Int.one_mul];exact ⟨Int.tmod_eq_emod_of_nonneg hu,Int.tdiv_eq_ediv_of_nonneg hu⟩
  . rw [Int.neg_mul,Int.neg_mul,Int.neg_mul,Int.one_mul,Int.one_mul,Int.one_mul,Int.neg_tmod,Int.neg_tdiv];exact ⟨by rw [Int.tmod_eq_emod_of_nonneg hu],by rw [Int.tdiv_eq_ediv_of_nonneg hu]⟩
 refine hg ?_;refine wf5 [2,3] (fun x:Nat×List Int×Int=>[(0,.one (.dat (cI (s*x.2.2)))),(4,.one (.sl 1 1 0 x.2.1.length))])
  (fun x=>[.box [.dat (cI 0),.dat .zc] (some 49),.arr (.ints .i64 x.2.1) 0 (some 3)])
  (fun x=>x.2.1.length=x.1/\x.1<=4/\digits x.2.1/\0<=x.2.2/\num x.2.1+1048576 ^ x.1*x.2.2=n.natAbs) (fun x=>x.2.2.toNat) (0,[],n.natAbs)
  ⟨rfl,Nat.zero_le _,digits.nil,by simp,by simp [num]⟩ ?_ ?_
 . refine hg ?_;rw [<-hsN];refine StH.trans (StH.empty (d:=4) (es:=1) (c:=.ints .i64 []) (T:=some 3) rfl rfl trivial rfl) ?_;refine hg ?_;exact sS
 rintro ⟨k,l,u⟩ ⟨hl,hk,hd,hu,he⟩;simp only at hl hk hd hu he;have hl0:=num_nonneg hd;have hp:=yxq k
 have huN:u<=n.natAbs:=by
  have:=Int.mul_le_mul_of_nonneg_right (show (1:Int)<=1048576 ^ k by omega) hu
  omega
 refine hg ?_;refine y8g (fun h _=>?_) (fun h _=>?_)
 . have hu0:u≠0:=fun e=>h (by rw [e,Int.mul_zero])
   have hk3:k<=3:=by
    rcases Nat.lt_or_ge k 4 with h4 | h4
    . omega
    . have h1:=yyb h4;have h2:=Int.mul_le_mul_of_nonneg_left (show (1:Int)<=u by omega) (Int.le_of_lt hp)
      have h3:(1048576:Int) ^ 4=1208925819614629174706176:=by decide
      omega
   obtain ⟨e1,e2⟩:=hmod u hu
   have hm:0<=u % 1048576/\u % 1048576<=1048575:=by omega
   have hq:0<=u / 1048576/\u / 1048576<=9223372036854775807:=by omega
   have hsm:-9223372036854775808<=s*(u / 1048576)/\s*(u / 1048576)<=9223372036854775807:=by rcases hss with rfl | rfl<;>omega
   have hsr:-1048575<=s*(u % 1048576)/\s*(u % 1048576)<=1048575:=by rcases hss with rfl | rfl<;>omega
   refine hg1 @e1 ?_;refine y7q [0,2,3,4] (fun _:Unit=>[(5,.one (.dat (cI (u % 1048576))))]) (fun _=>[.box [.dat (cI 0),.dat .zc] (some 49),.arr (.ints .i64 l) 0 (some 3)]) (fun _=>True) ?_ ?_
   . refine hg ?_;refine y8g (fun h2 _=>?_) (fun h2 _=>?_)
     . refine hg ?_;rw [show 0-s*(u % 1048576)=u % 1048576 by rcases hss with rfl | rfl<;>omega];exact ⟨(),sS⟩
     . refine hg ?_;rw [show s*(u % 1048576)=u % 1048576 by rcases hss with rfl | rfl<;>omega];exact ⟨(),sS⟩
   rintro _ _;refine hg1 @e2 ?_;refine ⟨(k+1,l++[u % 1048576],u / 1048576),⟨by simp [hl],by dsimp only;omega,hd.append (digits.cons (by omega) digits.nil),by dsimp only;omega,?_⟩,by dsimp only;omega,StH.back [0,2,3,4] 1 2 2 rfl rfl rfl rfl rfl (by kernel_rfl) (sS)⟩;dsimp only;rw [vho,hl,Int.pow_succ];have h:=Int.emod_add_mul_ediv u 1048576;generalize (1048576:Int) ^ k=P at *;generalize u % 1048576=r at *;generalize u / 1048576=q at *
   grind
 . have hu0:u=0:=by rcases hss with rfl | rfl<;>omega
   rw [hu0,Int.mul_zero,Int.add_zero] at he;have e:=xrd hd he;rw [Int.toNat_natCast] at e;have hsg:=xvm (Γ:=Γ) s l (by omega)
   try unfold bigC at hsg
   rw [e,<-wvg,xgc (by omega)] at hsg;unfold Go.Slot.zC at hsg;refine hg ?_
   first | refine wdy hsg ?_ | refine y04 hsg ?_
   refine hg ?_;exact (.one (.refl _))
theorem xk3 (z:Int) (d:Nat) (hz:okZ z) (hd:d≠0) (hl:(dig d).length<=268435456) :
 CallsD Γ prog 82 [.agg [.raw (.int .i64 (sg z)),.ints .i64 (dig z.natAbs)],.agg [.raw (.int .i64 1),.ints .i64 (dig d)]]
  (.tup [.agg (Fc.of (mkRat z d)).C,.one (.raw (.int .i64 0))]):=by
 obtain ⟨p1,p2,p3⟩:=ya0 z hd;have hden:=xvw (mkRat z d);rw [p2] at hden
 have hden2:(mkRat z d).den=((d:Int) / (Int.gcd z d:Int)).natAbs:=by omega
 have hgl:okZ (Int.gcd z d:Int):=by
  have:(Int.gcd z d:Int).natAbs<=d:=by
   have:Int.gcd z d ∣ d:=by have:=Int.gcd_dvd_natAbs_right z d;simpa using this
   exact Nat.le_of_dvd (Nat.pos_of_ne_zero hd) this
  exact Nat.le_trans (z6g this) hl
 have hr:=zum (Γ:=Γ) (d:Int) hl;have hgg:=x11 (Γ:=Γ) z d hz hl;have hd1:=y46 (Γ:=Γ) z (Int.gcd z d:Int) hz hgl p3;have hd2:=y46 (Γ:=Γ) d (Int.gcd z d:Int) hl hgl p3;rw [z8z hd] at hr hgg hd2;rw [hden] at hd2;rw [show ((d:Nat):Int).natAbs=d from rfl] at hr hgg hd2
 have hfin:(Fc.of (mkRat z d)).C=[.raw (.int .i64 (sg (z / (Int.gcd z d:Int)))),.ints .i64 (dig (z / (Int.gcd z d:Int)).natAbs),.raw (.int .i64 1),.ints .i64 (dig ((d:Int) / (Int.gcd z d:Int)).natAbs)]:=by
  rw [<-p1,<-hden2];rfl
 rw [hfin];generalize (Int.gcd z d:Int)=g at *;refine hE [] func82 f82.eq_1 ?_
 first | refine wdy (zum z hz) ?_ | refine y04 (zum z hz) ?_
 refine hg ?_
 first | refine wdy hr ?_ | refine y04 hr ?_
 refine hg ?_
 first | refine wdy hgg ?_ | refine y04 hgg ?_
 refine hg ?_
 first | refine wdy hd1 ?_ | refine y04 hd1 ?_
 refine hg ?_
 first | refine wdy hd2 ?_ | refine y04 hd2 ?_
 refine hg ?_;exact (.tup (.cons (.refl _) (.cons (.refl _) .nil)))
theorem mkRat_one (n:Int):mkRat n 1=(n:Rat):=by
 refine Rat.ext ?_ ?_
 . rw [Rat.num_mkRat,if_neg (by decide)];simp
 . rw [Rat.den_mkRat,if_neg (by decide)];simp
theorem v6j {n:Int} (h:inI n):okZ n:=by
 have:(dig n.natAbs).length<=4:=zlm (by unfold inI at h;omega)
 unfold okZ;omega
theorem zzp (n:Int) (hn:inI n):CallsD Γ prog 14 [.one (.raw (.int .i64 n))] (.agg (Fc.of (n:Rat)).C):=by
 have h1:=rOf (Γ:=Γ) 1 (by decide);rw [show sg 1=1 from rfl] at h1;have hN:=xk3 (Γ:=Γ) n 1 (v6j hn) (by decide) (by have:=zlm (n:=1) (by decide);omega);rw [mkRat_one] at hN
 have hof:CallsD Γ prog 40 [.one (.raw (.int .i64 n)),.one (.raw (.int .i64 1))] (.tup [.agg (Fc.of (n:Rat)).C,.one (.raw (.int .i64 0))]):=by
  refine hE [] func40 f40.eq_1 ?_
  first | refine wdy (rOf n hn) ?_ | refine y04 (rOf n hn) ?_
  refine hg ?_
  first | refine wdy h1 ?_ | refine y04 h1 ?_
  refine hg ?_
  first | refine wdy hN ?_ | refine y04 hN ?_
  refine hg ?_;exact (.tup (.cons (.refl _) (.cons (.refl _) .nil)))
 refine hE [] func14 f14.eq_1 ?_
 first | refine wdy hof ?_ | refine y04 hof ?_
 refine hg ?_;exact (.one (.refl _))
theorem ymy {α:Type} {l:List α} {i:Nat} (d:α) (h:i<l.length):l.take (i+1)=l.take i++[l.getD i d]:=by
 rw [List.take_add_one];simp [h]
theorem y3v (f:Fc) (n:Int) (_h1:f.L.length<=1099511627776) (_h2:f.M.length<=1099511627776) :
 CallsD Γ prog 20 [.agg f.C,.one (.raw (.int .i64 n))] (.one (.raw (.bool (decide ((f.sz:Int)<=n))))):=by
 have e:((f.sz:Nat):Int)=max (f.L.length:Int) f.M.length:=by unfold Fc.sz;omega
 refine hE [] func20 f20.eq_1 ?_;refine vpz (fun h _=>?_) (fun h _=>?_)
 . have h':=decide_eq_true h;refine hg1 @h' ?_;exact (by rw [show decide ((f.sz:Int)<=n)=decide ((f.M.length:Int)<=n) from decide_eq_decide.2 (by omega)];exact .one (.refl _))
 . have h':=decide_eq_false h;refine hg1 @h' ?_;exact (by rw [decide_eq_false (by omega)];exact .one (.refl _))
theorem vdp (f:Fc) (h1:f.L.length<=1099511627776) (h2:f.M.length<=1099511627776) :
 CallsD Γ prog 20 [.agg f.C,.one (.raw (.int .i64 4))] (.one (.raw (.bool (decide (f.sz<=4))))):=by
 have:=y3v (Γ:=Γ) f 4 h1 h2
 rwa [decide_eq_decide.2 (show (f.sz:Int)<=4↔f.sz<=4 by omega)] at this
theorem xg5 (s:Int) (L:List Int) (s':Int) (M:List Int) (lL:L.length<=1073741824) (_lM:M.length<=1073741824) :
 CallsD Γ prog 39 [.agg [.raw (.int .i64 s),.ints .i64 L],.agg [.raw (.int .i64 s'),.ints .i64 M]] (.one (.raw (.bool (decide (s=s'/\L=M))))):=by
 obtain ⟨r,hr⟩:∃ r,r=decide (s=s'/\L=M):=⟨_,rfl⟩;rw [<-hr]
 have bad:¬(s=s'/\L=M)->false=r:=fun h=>by rw [hr,decide_eq_false h]
 by_cases h1:s=s'
 . subst h1;by_cases h2:(L.length:Int)=M.length
   . have hl:L.length=M.length:=by omega
     have h2':¬((L.length:Int)≠M.length):=fun h=>h h2
     refine hE [] func39 f39.eq_1 ?_;refine y8g (fun h _=>absurd h h2') (fun _ _=>?_);refine hg ?_;refine wf5 [2,3] (fun i:Nat=>[(5,.one (.dat (cI (i))))]) (fun _=>[.box [.dat (cI s),.dat (.ints .i64 L)] (some 49),.box [.dat (cI s),.dat (.ints .i64 M)] (some 49)]) (fun i=>i<=L.length/\L.take i=M.take i) (fun i=>L.length-i) 0 ⟨Nat.zero_le _,rfl⟩ ?_ ?_
     . refine hg ?_;exact sS
     rintro i ⟨hi,he⟩;refine hg ?_;refine y8g (fun h1 _=>?_) (fun h1 _=>?_)
     . have hgg:∀(l:List Int),i<l.length->l.take (i+1)=l.take i++[l.getD i 0]:=fun l h=>ymy 0 h
       refine hg ?_;refine hik ?_;refine hg ?_;refine y8g (fun h2 _=>?_) (fun h2 _=>?_)
       . refine hg ?_;exact (by rw [bad (fun e=>h2 (by rw [e.2]))];exact .one (.refl _))
       . have h2:L.getD i 0=M.getD i 0:=by omega
         refine hg ?_;refine ⟨i+1,⟨by omega,?_⟩,by omega,sS⟩;rw [hgg L (by omega),hgg M (by omega),he,h2]
     . have hi:i=L.length:=by omega
       subst hi;rw [List.take_length,hl,List.take_length] at he
       have e:true=r:=by rw [hr,decide_eq_true ⟨rfl,he⟩]
       refine hg ?_;exact (by rw [e];exact .one (.refl _))
   . have h2:(L.length:Int)≠M.length:=h2;refine hE [] func39 f39.eq_1 ?_;refine y8g (fun _ _=>?_) (fun h _=>absurd h2 h);refine hg ?_;exact (by rw [bad (fun e=>h2 (by rw [e.2]))];exact .one (.refl _))
 . have h1':=decide_eq_true (show s≠s' from h1);refine hE [] func39 f39.eq_1 ?_;refine xaf (fun h _=>absurd h1 h) (fun h _=>?_);refine hg1 @h1' ?_;exact (by rw [bad (fun e=>h1 e.1)];exact .one (.refl _))
theorem vpl (a b:Fc) (ha:a.sz<=67108864) (hb:b.sz<=67108864):CallsD Γ prog 12 [.agg a.C,.agg b.C] (.one (.raw (.bool (decide (a=b))))):=by
 have la:=szL ha;have lb:=szL hb;obtain ⟨r,hr⟩:∃ r,r=decide (a=b):=⟨_,rfl⟩;rw [<-hr];by_cases h:a.s=b.s/\a.L=b.L
 . have h1:=xg5 (Γ:=Γ) a.s a.L b.s b.L (by omega) (by omega);rw [decide_eq_true h] at h1;have h2:=xg5 (Γ:=Γ) a.t a.M b.t b.M (by omega) (by omega)
   have e:decide (a.t=b.t/\a.M=b.M)=r:=by
    rw [hr];apply decide_eq_decide.2;constructor
    . intro h';cases a;cases b;simp at h h';simp [h,h']
    . intro h';rw [h'];exact ⟨rfl,rfl⟩
   rw [e] at h2;refine hE [] func12 f12.eq_1 ?_
   first | refine wdy h1 ?_ | refine y04 h1 ?_
   refine hg ?_
   first | refine wdy h2 ?_ | refine y04 h2 ?_
   refine hg ?_;exact (.one (.refl _))
 . have h1:=xg5 (Γ:=Γ) a.s a.L b.s b.L (by omega) (by omega);rw [decide_eq_false h] at h1
   have e:r=false:=by rw [hr,decide_eq_false (fun e=>h (by rw [e];exact ⟨rfl,rfl⟩))]
   subst e;refine hE [] func12 f12.eq_1 ?_
   first | refine wdy h1 ?_ | refine y04 h1 ?_
   refine hg ?_;exact (.one (.refl _))
theorem wr6 (s:Sc) (h:s.sz<=67108864):CallsD Γ prog 62 [.agg s.C,.one (.raw (.int .i64 4))] (.one (.raw (.bool (decide (s.sz<=4))))):=by
 have ⟨h1,h2⟩:=Sc.yjv h;have l1:=szL h1;have l2:=szL h2;have c1:=vdp (Γ:=Γ) s.low (by omega) (by omega);have c2:=vdp (Γ:=Γ) s.high (by omega) (by omega);have e:s.sz=max s.low.sz s.high.sz:=rfl;by_cases h:s.low.sz<=4
 . rw [decide_eq_true h] at c1;rw [show decide (s.sz<=4)=decide (s.high.sz<=4) from decide_eq_decide.2 (by omega)];refine hE [] func62 f62.eq_1 ?_
   first | refine wdy c1 ?_ | refine y04 c1 ?_
   refine hg ?_
   first | refine wdy c2 ?_ | refine y04 c2 ?_
   refine hg ?_;exact (.one (.refl _))
 . rw [decide_eq_false h] at c1;rw [decide_eq_false (show ¬s.sz<=4 by omega)];refine hE [] func62 f62.eq_1 ?_
   first | refine wdy c1 ?_ | refine y04 c1 ?_
   refine hg ?_;exact (.one (.refl _))
end Go.Hp.T
namespace Go.Hp.T
open Go Go.RowKit Go.Slot Go.Hp Go.Slot.T
open Go.Proofs.Tryz (prog)
set_option maxRecDepth 10000
set_option maxHeartbeats 4000000
variable {Γ:List (Nat×List Cell)}
end Go.Hp.T
namespace Go.Hp.T
open Go Go.RowKit Go.Slot Go.Hp Go.Slot.T
open Go.Proofs.Tryz
attribute [local irreducible] hide RH
set_option maxRecDepth 10000
set_option maxHeartbeats 4000000
variable {Γ:List (Nat×List Cell)}
theorem n12:((12:Nat):Int)=12:=rfl
attribute [go_sem] n12
mutual
def Ex.rsz:Ex->Int->Int->Int
 | .mk _ _ _ _ l,n,lv=>bif decide (n<1)||decide (lv<1) then -1 else Ex.rszL l n lv 1
def Ex.rszL:List Ex->Int->Int->Int->Int
 | [],_,_,k=>k
 | y::l,n,lv,k=>bif decide (Ex.rsz y (n-k) (lv-1)<0) then -1 else Ex.rszL l n lv (k+Ex.rsz y (n-k) (lv-1))
end
theorem Ex.xp6 (x:Ex) (n lv:Int):x.rsz n lv=bif decide (n<1)||decide (lv<1) then -1 else Ex.rszL x.args n lv 1:=by cases x;rw [Ex.rsz];rfl
theorem Ex.zh6:∀(l:List Ex),(∀ y∈l,∀ n lv:Int,-1<=y.rsz n lv/\(0<=y.rsz n lv->y.rsz n lv<=n))->∀ n lv k:Int,1<=k->k<=n->-1<=Ex.rszL l n lv k/\(0<=Ex.rszL l n lv k->Ex.rszL l n lv k<=n)
 | [],_,n,lv,k,h1,h2=>by rw [Ex.rszL];omega
 | y::l,h,n,lv,k,h1,h2=>by
  rw [Ex.rszL];have hy:=h y (by simp) (n-k) (lv-1);generalize y.rsz (n-k) (lv-1)=m at hy;by_cases hm:m<0
  . rw [decide_eq_true hm];simp only [cond_true];omega
  . rw [decide_eq_false hm];exact Ex.zh6 l (fun z hz=>h z (by simp [hz])) n lv (k+m) (by omega) (by omega)
theorem Ex.xch:∀(x:Ex) (n lv:Int),-1<=x.rsz n lv/\(0<=x.rsz n lv->x.rsz n lv<=n):=by
 refine Ex.ind (fun x ih n lv=>?_);rw [Ex.xp6];by_cases h1:n<1
 . rw [decide_eq_true h1];simp only [Bool.true_or,cond_true];omega
 . by_cases h2:lv<1
   . rw [decide_eq_true h2];simp only [Bool.or_true,cond_true];omega
   . rw [decide_eq_false h1,decide_eq_false h2];exact Ex.zh6 x.args ih n lv 1 (by omega) (by omega)
theorem x2f:∀ x:Ex,x.Sm->∀ n lv:Int,n<=1000->lv<=1000->0<=n->0<=lv->CallsD Γ prog 116 [.agg (exC x),.one (cI n),.one (cI lv)] (.one (cI (x.rsz n lv))):=by
 refine Ex.ind (fun x ih hx n lv hn hlv hn0 hlv0=>?_);have hl:=hx.len;refine hE [] func116 f116.eq_1 ?_
 repeat' ((refine hfk ?_ ?_<;>intros)<;>refine hgS ?_)
 . rename_i h1 _ h2 _;exact RLe.ofEq (by rw [Ex.xp6,decide_eq_true h2,Bool.or_true];rfl)
 . rename_i h1 _ h2 _
   have e0:x.rsz n lv=Ex.rszL x.args n lv 1:=by rw [Ex.xp6,decide_eq_false h1,decide_eq_false h2];rfl
   refine wf5 [1,2,3] (fun p:Nat×Int=>[(7,.one (.dat (cI p.2))),(8,.one (.dat (cI p.1)))]) (fun _=>[.box ((exC x).map .dat) (some 127)]) (fun p=>p.1<=x.args.length/\1<=p.2/\p.2<=n/\Ex.rszL (x.args.drop p.1) n lv p.2=Ex.rszL x.args n lv 1) (fun p=>x.args.length-p.1) (0,1) ⟨Nat.zero_le _,by simp only;omega,by simp only;omega,rfl⟩ ?_ ?_
   . refine hg ?_;exact sS
   rintro ⟨i,k⟩ ⟨hi,hk1,hk2,hc⟩;simp only at hi hk1 hk2 hc;refine hg ?_;refine y8g (fun hlt hd=>?_) (fun hlt _=>?_)
   . have hlt':i<x.args.length:=by omega
     have hy:=z1y hlt';have hcc:=ih _ hy (hx.arg _ hy) (n-k) (lv-1) (by omega) (by omega) (by omega) (by omega);have hb:=Ex.xch (x.args.getD i default) (n-k) (lv-1);rw [xc3 hlt',Ex.rszL] at hc;generalize (x.args.getD i default).rsz (n-k) (lv-1)=m at hcc hb hc;rw [e0,<-hc];clear e0 hc;refine hg1 @hd ?_
     repeat' ((first|refine hfk ?_ ?_<;>intros|with_reducible refine wdy hcc ?_)<;>refine hgS ?_)
     . exact RLe.ofEq rfl
     . exact ⟨(i+1,k+m),⟨by simp only;omega,by simp only;omega,by simp only;omega,rfl⟩,by simp only;omega,sS⟩
   . refine hg ?_;rw [e0,<-hc,List.drop_eq_nil_of_le (by omega),Ex.rszL];exact RLe.ofEq rfl
 . rename_i h1 _;exact RLe.ofEq (by rw [Ex.xp6,decide_eq_true h1];rfl)
theorem rFew (x:Ex) (hx:x.Sm) (n lv:Int) (hn:n<=1000) (hlv:lv<=1000) (hn0:0<=n) (hlv0:0<=lv):CallsD Γ prog 61 [.agg (exC x),.one (cI n),.one (cI lv)] (.one (cB (decide (0<=x.rsz n lv)))):=by
 have h:=x2f (Γ:=Γ) x hx n lv hn hlv hn0 hlv0;refine hE [] func61 f61.eq_1 ?_
 (with_reducible refine wdy h ?_)<;>refine hgS ?_
 all_goals exact RLe.ofEq rfl
end Go.Hp.T
