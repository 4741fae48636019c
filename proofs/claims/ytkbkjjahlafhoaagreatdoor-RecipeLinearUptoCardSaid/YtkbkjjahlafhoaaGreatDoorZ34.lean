/- The proof, part Z34: Yc, Yd, Yl, Ym, Qa, Qb, 7a. -/
import Derived.Test.YtkbkjjahlafhoaaGreatDoorZ15
import Derived.Test.YtkbkjjahlafhoaaGreatDoorZ33
import Derived.Test.YtkbkjjahlafhoaaGreatDoorZ19
import Derived.Test.YtkbkjjahlafhoaaGreatDoorZ26
import Derived.Test.YtkbkjjahlafhoaaGreatDoorZ20
import Derived.Test.YtkbkjjahlafhoaaGreatDoorZ16
import Derived.Test.YtkbkjjahlafhoaaGreatDoorZ24
import Derived.Test.YtkbkjjahlafhoaaGreatDoorZ30
namespace Go.Hp.T
open Go Go.RowKit Go.Slot Go.Hp Go.Slot.T
open Go.Proofs.Tryz
attribute [local irreducible] hide RH
set_option maxRecDepth 10000
set_option maxHeartbeats 8000000
variable {Γ:List (Nat×List Cell)}
theorem wna (a b:List Int) (ha:digits a) (hb:digits b) (la:a.length<=1073741824) (lb:b.length<=1073741824) :
 CallsD Γ prog 196 [.one (.ints .i64 a),.one (.ints .i64 b)] (.one (.ints .i64 (dig (num a*num b).toNat))):=by
 refine hE [(9,[.join])] func196 f196.eq_1 ?_;refine vi3 [0,1,4] (fun x:Nat×List Int=>[(5,.one (.sl 0 1 0 (a.length+b.length))),(6,.one (.dat (cI (x.1))))]) (fun x=>[.arr (.ints .i64 x.2) 0 none])
  (fun x=>x.1<=a.length/\x.2.length=a.length+b.length/\digits x.2/\ynm x.2 (x.1+b.length)/\num x.2=num (a.take x.1)*num b)
  (fun x=>a.length-x.1) (0,List.replicate ((a.length:Int)+b.length).toNat 0)
  ⟨Nat.zero_le _,by simp;omega,digits.rep _,(ynm.rep _).mono (Nat.zero_le _),by simp [num,xqy]⟩ ?_ ?_
 . have e:((a.length:Int)+b.length).toNat=a.length+b.length:=by omega
   refine hg1 @e ?_;exact sS
 rintro ⟨i,o⟩ ⟨hi,ho,hdo,hz,hn⟩;simp only at hi ho hdo hz hn;refine hg1 @ho ?_;refine vdi (fun h _=>?_) (fun h _=>?_)
 . refine hg1 @ho ?_;have hai:=ha.getD i;refine vi3 [0,1,4,5,6] (fun x:Nat×List Int×Int=>[(7,.one (.dat (cI (x.2.2)))),(8,.one (.dat (cI (x.1))))]) (fun x=>[.arr (.ints .i64 x.2.1) 0 none])
    (fun x=>x.1<=b.length+1/\x.2.1.length=a.length+b.length/\digits x.2.1/\ynm x.2.1 (i+max x.1 b.length)/\(0<=x.2.2/\x.2.2<=1048575)/\(b.length<x.1->x.2.2=0)/\
      num x.2.1+1048576 ^ (i+x.1)*x.2.2=num (a.take i)*num b+1048576 ^ i*(a.getD i 0*num (b.take x.1)))
    (fun x=>b.length+1-x.1) (0,o,0)
    ⟨Nat.zero_le _,ho,hdo,hz.mono (by simp),by simp,by simp,by simp [num,hn]⟩ ?_ ?_
   . refine hg1 @ho ?_;exact sS
   rintro ⟨k,o',c⟩ ⟨hk,ho',hdo',hz',hc,hc0,hn'⟩;simp only at hk ho' hdo' hz' hc hc0 hn';refine hg1 @ho' ?_;refine v81 [0,1,4,5,6,7,8] (fun _:Unit=>[]) (fun _=>[.arr (.ints .i64 o') 0 none]) (fun _=>k<b.length\/0<c) ?_ ?_
   . refine hg1 @ho' ?_;refine zln (fun h1 _=>?_) (fun h1 _=>?_)
     . refine hg2 @h1 @ho' ?_;refine vdi (fun h3 _=>?_) (fun h3 _=>?_)
       . refine hg1 @ho' ?_;exact ⟨(),.inr h3,sS⟩
       . have hc1:c=0:=by omega
         rw [wk9 (l:=b) (i:=k) (by omega),hc1,Int.mul_zero,Int.add_zero] at hn';refine hg1 @ho' ?_;refine ⟨(i+1,o'),⟨by dsimp only;omega,ho',hdo',?_,?_⟩,by dsimp only;omega,sS⟩
         . dsimp only;exact hz'.mono (by omega)
         . dsimp only;rw [hn',vb6]
           grind
     . have h1':=decide_eq_true h1;refine hg2 @h1' @ho' ?_;exact ⟨(),.inl (by omega),sS⟩
   rintro _ hgo
   have hkb:k<=b.length:=by
    rcases Nat.lt_or_ge b.length k with h | h
    . have:=hc0 h;omega
    . exact h
   have hbk:=hb.getD k;have hok:=hdo'.getD (i+k);have hprod:0<=a.getD i 0*b.getD k 0/\a.getD i 0*b.getD k 0<=1048575*1048575:=⟨Int.mul_nonneg hai.1 hbk.1,Int.mul_le_mul hai.2 hbk.2 hbk.1 (by decide)⟩
   have eik:((i:Int)+k).toNat=i+k:=by omega
   have ho0:b.length<=k->o'.getD (i+k) 0=0/\b.getD k 0=0:=fun h=>⟨hz' _ (by omega),xe7 h⟩
   refine hg2 @eik @ho' ?_
   first | refine w5a (vv2 b k (by omega) (by omega)) ?_ | refine xqd (vv2 b k (by omega) (by omega)) ?_
   refine hg2 @eik @ho' ?_;refine hik ?_;refine hg2 @eik @ho' ?_
   have hc0':b.length<=k->(o'.getD (i+k) 0+a.getD i 0*b.getD k 0+c) / 1048576=0:=fun h=>by
    obtain ⟨e1,e2⟩:=ho0 h;rw [e1,e2];omega
   generalize hs:o'.getD (i+k) 0+a.getD i 0*b.getD k 0+c=s at *;have hm:s.tmod 1048576=s % 1048576:=Int.tmod_eq_emod_of_nonneg (by omega);have hq:s.tdiv 1048576=s / 1048576:=Int.tdiv_eq_ediv_of_nonneg (by omega);have h2:=yt8 (o:=o') (i:=i+k) (by omega) s;refine hg4 @hm @hq @eik @ho' ?_
   refine ⟨(k+1,o'.set (i+k) (s % 1048576),s / 1048576),
    ⟨by dsimp only;omega,by simpa using ho',hdo'.set _ (by omega),?_,by dsimp only;omega,fun h=>hc0' (by dsimp only at h;omega),?_⟩,by dsimp only;omega,?_⟩
   . dsimp only
     rcases Nat.lt_or_ge k b.length with h | h
     . rw [show max (k+1) b.length=max k b.length by omega];exact hz'.ylp _ (by omega)
     . rw [show i+max (k+1) b.length=i+max k b.length+1 by omega,show i+k=i+max k b.length by omega];exact hz'.set _
   . dsimp only;rw [vb6,show i+(k+1)=i+k+1 by omega,h2,<-hs,Int.pow_add];rw [Int.pow_add] at hn'
     grind
   . exact sS
 . have hia:i=a.length:=by omega
   subst hia;rw [List.take_length] at hn;refine hg1 @ho ?_
   first | refine w5a (wwu o (by omega)) ?_ | refine xqd (wwu o (by omega)) ?_
   refine hg1 @ho ?_;exact (by rw [xah hdo hn];exact .one (.refl _))
theorem x7c {x:Int} (h:0<=x/\x<=1048575):w04 [x]=dig x.toNat:=xah (digits.cons h digits.nil) (by simp [num])
theorem vrn (x y:Nat) (hy:y≠0) (la:(dig x).length<=536870912) (lb:(dig y).length<=536870912) :
 CallsD Γ prog 167 [.one (.ints .i64 (dig x)),.one (.ints .i64 (dig y))] (.tup [.one (.ints .i64 (dig (x / y))),.one (.ints .i64 (dig (x % y)))]):=by
 have hnx:=x2o x;have ha:=zkp x;have hny:=x2o y;have hb:=zkp y;generalize dig x=a at *;refine hE [(6,[.own])] func167 f167.eq_1 ?_;refine vi3 [0,1] (fun z:Nat×List Int×Nat=>[(6,.one (.sl 0 1 0 a.length)),(7,.one (.dat (.ints .i64 (dig z.2.2)))),(8,.one (.dat (cI (((z.1:Int)-1)))))]) (fun z=>[.arr (.ints .i64 z.2.1) 0 none])
  (fun z=>z.1<=a.length/\z.2.1.length=a.length/\digits z.2.1/\z.2.2<y/\num (a.drop z.1)=y*num (z.2.1.drop z.1)+z.2.2) (fun z=>z.1) (a.length,List.replicate (a.length:Int).toNat 0,0)
  ⟨Nat.le_refl _,by simp,digits.rep _,Nat.pos_of_ne_zero hy,by simp [num]⟩ ?_ ?_
 . refine hg1 @vhp ?_;exact StH.same (by repeat' first | exact .nil | refine .cons (by first | exact .refl _ | exact .any _ | exact .one (.dat (.zfg _))) ?_) rfl
 rintro ⟨n,q,R⟩ ⟨hn,hq,hdq,hR,he⟩;simp only at hn hq hdq hR he;have hlR:(dig R).length<=536870912:=Nat.le_trans (y2d (by omega)) lb;refine hg1 @hq ?_;refine vdi (fun h _=>?_) (fun h _=>?_)
 . obtain ⟨i,rfl⟩:∃ i,n=i+1:=⟨n-1,by omega⟩
   have ei:((i+1:Nat):Int)-1=(i:Nat):=by omega
   have hai:=ha.getD i;obtain ⟨S,hS⟩:∃ S:Nat,(S:Int)=a.getD i 0+1048576*R:=⟨(a.getD i 0+1048576*R).toNat,by omega⟩
   have hSl:w04 (a.getD i 0::dig R)=dig S:=by
    have:=xah (L:=a.getD i 0::dig R) (n:=S) (digits.cons hai (zkp R)) (by simp only [num,x2o];omega)
    rwa [Int.toNat_natCast] at this
   have hlS:(dig S).length<=536870913:=by
    rw [<-hSl];refine Nat.le_trans (wju _) ?_;simp only [List.length_cons];omega
   have hSy:(S:Int)<1048576*y:=by omega
   refine hg2 @ei @hq ?_
   first | refine w5a (wwu (a.getD i 0::dig R) (by simp only [List.length_cons];omega)) ?_ | refine xqd (wwu (a.getD i 0::dig R) (by simp only [List.length_cons];omega)) ?_
   rw [hSl];refine hg2 @ei @hq ?_;refine vi3 [0,1,6,7,8] (fun z:Int×Int=>[(9,.one (.dat (cI (z.1)))),(10,.one (.dat (cI (z.2))))]) (fun _=>[.arr (.ints .i64 q) 0 none])
    (fun z=>0<=z.1/\z.1<z.2/\z.2<=1048576/\z.1*y<=S/\S<z.2*y) (fun z=>(z.2-z.1).toNat) (0,1048576) ⟨by simp,by decide,by simp,by simp,by simp;omega⟩ ?_ ?_
   . refine hg1 @hq ?_;exact StH.cutN [0,1,6,7,8,9,10] 1 rfl (by kernel_rfl) (sS)
   rintro ⟨lo,hi⟩ ⟨h0,h1,h2,h3,h4⟩;simp only at h0 h1 h2 h3 h4;refine hg1 @hq ?_;refine vdi (fun h5 _=>?_) (fun h5 _=>?_)
   . have hm2:(lo+hi).tdiv 2=(lo+hi) / 2:=Int.tdiv_eq_ediv_of_nonneg (by omega);refine hg2 @hm2 @hq ?_;generalize hmid:(lo+hi) / 2=mid at *;obtain ⟨m,hm⟩:∃ m:Nat,(m:Int)=mid:=⟨mid.toNat,by omega⟩
     have hT:(num (dig y)*num [mid]).toNat=y*m:=by rw [hny];simp only [num];rw [<-hm,Int.mul_zero,Int.add_zero,<-Int.natCast_mul];rfl
     have hlT:(dig (y*m)).length<=1073741824:=by
      have:=wwv y m
      have:(dig m).length<=4:=vii (by omega)
      omega
     first | refine w5a (wna (dig y) [mid] hb (digits.cons (by omega) digits.nil) (by omega) (by simp)) ?_ | refine xqd (wna (dig y) [mid] hb (digits.cons (by omega) digits.nil) (by omega) (by simp)) ?_
     rw [hT];refine hg1 @hq ?_
     first | refine w5a (zhn (dig S) (dig (y*m)) (zkp _) (zkp _) (by omega) (by omega)) ?_ | refine xqd (zhn (dig S) (dig (y*m)) (zkp _) (zkp _) (by omega) (by omega)) ?_
     rw [x2o,x2o]
     have hym:((y*m:Nat):Int)=mid*y:=by rw [Int.natCast_mul,hm,Int.mul_comm]
     rw [hym];refine hg1 @hq ?_;refine vdi (fun h6 _=>?_) (fun h6 _=>?_)
     . refine hg1 @hq ?_;exact ⟨(lo,mid),⟨h0,by dsimp only;omega,by dsimp only;omega,h3,h6⟩,by dsimp only;omega,sS⟩
     . refine hg1 @hq ?_;exact ⟨(mid,hi),⟨by dsimp only;omega,by dsimp only;omega,h2,by dsimp only;omega,h4⟩,by dsimp only;omega,sS⟩
   . have hlo:hi=lo+1:=by omega
     subst hlo;obtain ⟨l,hl⟩:∃ l:Nat,(l:Int)=lo:=⟨lo.toNat,by omega⟩
     have hlo1:lo.toNat=l:=by omega
     have hT:(num (dig y)*num (dig l)).toNat=y*l:=by rw [hny,x2o,<-Int.natCast_mul];rfl
     have hyl:((y*l:Nat):Int)=lo*y:=by rw [Int.natCast_mul,hl,Int.mul_comm]
     have hll:(dig l).length<=4:=vii (by omega);rw [Int.add_mul,Int.one_mul] at h4;refine hg2 @ei @hq ?_
     first | refine w5a (wwu [lo] (by simp)) ?_ | refine xqd (wwu [lo] (by simp)) ?_
     rw [x7c (by omega),hlo1];refine hg2 @ei @hq ?_
     first | refine w5a (wna (dig y) (dig l) hb (zkp _) (by omega) (by omega)) ?_ | refine xqd (wna (dig y) (dig l) hb (zkp _) (by omega) (by omega)) ?_
     rw [hT];refine hg2 @ei @hq ?_
     first | refine w5a (zzz S (y*l) (by omega) (by omega)) ?_ | refine xqd (zzz S (y*l) (by omega) (by omega)) ?_
     refine hg2 @ei @hq ?_;refine ⟨(i,q.set i lo,S-y*l),⟨by dsimp only;omega,by simpa using hq,hdq.set _ (by omega),by dsimp only;omega,?_⟩,by dsimp only;omega,sS⟩;dsimp only;rw [wsg _ (by omega),zcd,he];simp only [num];rw [Int.natCast_sub (by omega),hyl,hS]
     grind
 . have h0:n=0:=by omega
   subst h0;simp only [List.drop_zero] at he;rw [hnx] at he;have hq0:=num_nonneg hdq;obtain ⟨Q,hQ⟩:∃ Q:Nat,(Q:Int)=num q:=⟨(num q).toNat,by omega⟩;rw [<-hQ] at he
   have hxx:x=y*Q+R:=by rw [<-Int.natCast_mul] at he;omega
   have e1:x / y=Q:=by rw [hxx,Nat.mul_add_div (by omega),Nat.div_eq_of_lt hR];omega
   have e2:x % y=R:=by rw [hxx,Nat.mul_add_mod,Nat.mod_eq_of_lt hR]
   have e3:w04 q=dig Q:=by have:=xah hdq hQ.symm;rwa [Int.toNat_natCast] at this
   rw [e1,e2];refine hg1 @hq ?_
   first | refine w5a (wwu q (by omega)) ?_ | refine xqd (wwu q (by omega)) ?_
   rw [e3];refine hg1 @hq ?_;exact (.tup (.cons (.refl _) (.cons (.refl _) .nil)))
theorem zfu (s:Int) (L:List Int) (hL:L.length<=1099511627776):CallsD Γ prog 138 [.agg [.raw (.int .i64 s),.ints .i64 L]] (.one (.raw (.bool (decide (vbo s L))))):=by
 obtain ⟨r,hr⟩:∃ r,r=decide (vbo s L):=⟨_,rfl⟩;rw [<-hr]
 have bad:¬vbo s L->false=r:=fun h=>by rw [hr,decide_eq_false h]
 refine hE [] func138 f138.eq_1 ?_;refine vi3 [1] (fun i:Nat=>[(3,.one (.dat (cI i)))]) (fun _=>[.box [.dat (cI s),.dat (.ints .i64 L)] (some 49)])
  (fun i=>i<=L.length/\digits (L.take i)) (fun i=>L.length-i) 0 ⟨Nat.zero_le _,by simp [digits]⟩ ?_ ?_
 . refine hg ?_;exact sS
 rintro i ⟨hi,hd⟩;refine hg ?_;refine vdi (fun h _=>?_) (fun h _=>?_)
 . have hi':i<L.length:=by omega
   have hget:L.getD i 0=L[i]:=by simp [hi']
   have hmem:L[i]∈L:=List.getElem_mem hi'
   have hbad:¬(0<=L.getD i 0/\L.getD i 0<=1048575)->false=r:=fun hn=>bad (fun hr=>hn (by rw [hget];exact hr.1 _ hmem))
   refine hg ?_;refine zln (fun h1 _=>?_) (fun h1 _=>?_)
   . refine hg1 @h1 ?_;refine vdi (fun h2 _=>?_) (fun h2 _=>?_)
     . refine hg ?_;exact (by rw [hbad (by omega)];exact .one (.refl _))
     . refine hg ?_;refine ⟨i+1,⟨by omega,?_⟩,by omega,sS⟩;intro x hx;rw [List.take_add_one,List.mem_append] at hx
       rcases hx with hx | hx
       . exact hd x hx
       . simp [hi'] at hx;subst hx;rw [<-hget];omega
   . have h1':=decide_eq_true h1;refine hg1 @h1' ?_;exact (by rw [hbad (by omega)];exact .one (.refl _))
 . have hi':i=L.length:=by omega
   have hdig:digits L:=by rw [hi',List.take_length] at hd;exact hd
   refine hg ?_;refine zln (fun h1 _=>?_) (fun h1 _=>?_)
   . refine hg1 @h1 ?_;refine zln (fun h2 _=>?_) (fun h2 _=>?_)
     . by_cases h3:(L.length:Int)=0
       . have hnil:L=[]:=by have:L.length=0:=(by omega);simpa using this
         have h3':=decide_eq_true h3;by_cases h4:s=0
         . have h4':=decide_eq_true h4
           have e:true=r:=by rw [hr,decide_eq_true (show vbo s L from ⟨hdig,.inl ⟨hnil,h4⟩⟩)]
           refine hg3 @h2 @h3' @h4' ?_;exact (by rw [e];exact .one (.refl _))
         . have h4':=decide_eq_false h4;refine hg3 @h2 @h3' @h4' ?_;exact (by rw [bad (fun hb=>by rcases hb.2 with h | h;exact h4 h.2;exact h.1 hnil)];exact .one (.refl _))
       . have h3':=decide_eq_false h3
         have hne:L≠[]:=fun e=>h3 (by rw [e];rfl)
         have hpos:0<L.length:=List.length_pos_iff.2 hne;by_cases h4:s=0
         . have h4':=decide_eq_true h4;refine hg3 @h2 @h3' @h4' ?_;exact (by rw [bad (fun hb=>by rcases hb.2 with h | h;exact hne h.1;omega)];exact .one (.refl _))
         . have h4':=decide_eq_false h4
           have hlast:decide (L.getD (L.length-1) 0≠0)=r:=by
            rw [hr];apply decide_eq_decide.2;simp only [vbo];constructor
            . exact fun h4=>⟨hdig,.inr ⟨hne,by omega,h4⟩⟩
            . rintro ⟨_,⟨h4,_⟩ | ⟨_,_,h4⟩⟩
              . exact absurd h4 hne
              . exact h4
           have e:((L.length:Int)-1).toNat=L.length-1:=by omega
           refine hg4 @h2 @h3' @h4' @e ?_;exact (by rw [hlast];exact .one (.refl _))
     . have h2':=decide_eq_true h2;refine hg1 @h2' ?_;exact (by rw [bad (fun hb=>by rcases hb.2 with h | h<;>omega)];exact .one (.refl _))
   . have h1':=decide_eq_true h1;refine hg1 @h1' ?_;exact (by rw [bad (fun hb=>by rcases hb.2 with h | h<;>omega)];exact .one (.refl _))
theorem xb9 (z:Int) (hz:okZ z):CallsD Γ prog 138 [.agg [.raw (.int .i64 (sg z)),.ints .i64 (dig z.natAbs)]] (.one (.raw (.bool true))):=by
 have h:=zfu (Γ:=Γ) (sg z) (dig z.natAbs) (by omega);rw [decide_eq_true (ygw z)] at h;exact h
theorem zvz (x y:Int) (hx:okZ x) (hy:okZ y) :
 CallsD Γ prog 140 [.agg [.raw (.int .i64 (sg x)),.ints .i64 (dig x.natAbs)],.agg [.raw (.int .i64 (sg y)),.ints .i64 (dig y.natAbs)]]
  (.tup [.agg [.raw (.int .i64 (sg (Int.gcd x y:Int))),.ints .i64 (dig (Int.gcd x y:Int).natAbs)],.one (.raw (.int .i64 0))]):=by
 refine hE [] func140 f140.eq_1 ?_
 first | refine w5a (xb9 x hx) ?_ | refine xqd (xb9 x hx) ?_
 refine hg ?_
 first | refine w5a (xb9 y hy) ?_ | refine xqd (xb9 y hy) ?_
 refine hg ?_;refine vi3 [2,3,4,5] (fun p:Nat×Nat=>[(6,.one (.dat (.ints .i64 (dig p.1)))),(7,.one (.dat (.ints .i64 (dig p.2))))])
  (fun _=>[.box [.dat (cI (sg x)),.dat (.ints .i64 (dig x.natAbs))] (some 49),.box [.dat (cI (sg y)),.dat (.ints .i64 (dig y.natAbs))] (some 49),.box [.dat (cI 0),.dat .zc] (some 49)])
  (fun p=>Nat.gcd p.1 p.2=Int.gcd x y/\(dig p.1).length<=268435456/\(dig p.2).length<=268435456) (fun p=>p.2) (x.natAbs,y.natAbs) ⟨rfl,hx,hy⟩ ?_ ?_
 . refine hg ?_;exact sS
 rintro ⟨m,n⟩ ⟨hgg,hm,hn⟩;simp only at hgg hm hn;refine hg ?_;refine vdi (fun h _=>?_) (fun h _=>?_)
 . have hn0:n≠0:=fun e=>by rw [e,vhp] at h;simp at h
   refine hg ?_
   first | refine w5a (vrn m n hn0 (by omega) (by omega)) ?_ | refine xqd (vrn m n hn0 (by omega) (by omega)) ?_
   refine hg ?_;refine ⟨(n,m % n),⟨?_,hn,Nat.le_trans (y2d (Nat.mod_le _ _)) hm⟩,Nat.mod_lt _ (by omega),sS⟩;dsimp only;rw [<-hgg,Nat.gcd_comm n,<-Nat.gcd_rec,Nat.gcd_comm]
 . have hn0:n=0:=yqy.1 (List.eq_nil_of_length_eq_zero (by omega));subst hn0;rw [Nat.gcd_zero_right] at hgg
   have e:(Int.gcd x y:Int).natAbs=m:=by rw [<-hgg];rfl
   have hs:=wia (Γ:=Γ) 1 (Int.gcd x y:Int) (by rw [e];omega) (.inl ⟨rfl,by omega⟩);rw [e] at hs ⊢;refine hg ?_
   first | refine w5a hs ?_ | refine xqd hs ?_
   refine hg ?_;exact (.tup (.cons (.refl _) (.cons (.refl _) .nil)))
theorem yth (x y:Int) (hx:okZ x) (hy:okZ y) (hy0:0<y) :
 CallsD Γ prog 141 [.agg [.raw (.int .i64 (sg x)),.ints .i64 (dig x.natAbs)],.agg [.raw (.int .i64 (sg y)),.ints .i64 (dig y.natAbs)]]
  (.tup [.agg [.raw (.int .i64 (sg (x / y))),.ints .i64 (dig (x / y).natAbs)],.agg [.raw (.int .i64 (sg (x % y))),.ints .i64 (dig (x % y).natAbs)],.one (.raw (.int .i64 0))]):=by
 have sx:=vrj x;have sy:=zla hy0;have hn:=Nat.div_add_mod x.natAbs y.natAbs;have hr:=Nat.mod_lt x.natAbs (show 0<y.natAbs by omega);have hqx:=Nat.div_le_self x.natAbs y.natAbs;have hrx:=Nat.mod_le x.natAbs y.natAbs;have hlq:=y2d hqx;have hlr:=y2d hrx;have hcd:=vrn (Γ:=Γ) x.natAbs y.natAbs (by omega) (by omega) (by omega);generalize hQ:x.natAbs / y.natAbs=Q at *;generalize hR:x.natAbs % y.natAbs=R at *
 have hyQ:((y.natAbs*Q:Nat):Int)=y*Q:=by rw [Int.natCast_mul];congr 1;omega
 have eR:=x2o R;have eQ:=x2o Q;have ey:=vu4 y;have hlQ1:=zrr Q 1
 have h1l:(dig 1).length=1:=by rw [yma (by decide),vhp];rfl
 refine hE [] func141 f141.eq_1 ?_
 first | refine w5a (xb9 x hx) ?_ | refine xqd (xb9 x hx) ?_
 refine hg ?_
 first | refine w5a (xb9 y hy) ?_ | refine xqd (xb9 y hy) ?_
 refine hg ?_;refine vdi (fun h _=>absurd h (by omega)) (fun _ _=>?_);refine hg ?_
 first | refine w5a hcd ?_ | refine xqd hcd ?_
 have done:∀(s:Int),s=sg x->(0<=x\/R=0)->((s=1/\0<=x / y)\/(s = -1/\x / y<=0)\/x / y=0)/\((sg x=1/\0<=x % y)\/(sg x = -1/\x % y<=0)\/x % y=0)/\(x / y).natAbs=Q/\(x % y).natAbs=R:=fun s hs h=>by
  rcases h with h | h
  . obtain ⟨k1,k2⟩:=xqv (x:=x) (y:=y) (q:=(Q:Int)) (r:=(R:Int)) (by omega) (by omega) (by omega)
    have hQ0:x=0->Q=0/\R=0:=fun e=>by subst e;simp at hqx hrx;exact ⟨hqx,hrx⟩
    rw [k1,k2,hs]
    refine ⟨?_,?_,by omega,by omega⟩<;>omega
  . rcases Int.lt_or_le x 0 with h0 | h0
    . obtain ⟨k1,k2⟩:=xqv (x:=x) (y:=y) (q:=-(Q:Int)) (r:=0) (by
       have:y * -(Q:Int) = -(y*Q):=by grind
       omega) (by omega) (by omega)
      rw [k1,k2,hs]
      refine ⟨?_,?_,by omega,by omega⟩<;>omega
    . obtain ⟨k1,k2⟩:=xqv (x:=x) (y:=y) (q:=(Q:Int)) (r:=(R:Int)) (by omega) (by omega) (by omega)
      have hQ0:x=0->Q=0/\R=0:=fun e=>by subst e;simp at hqx hrx;exact ⟨hqx,hrx⟩
      rw [k1,k2,hs]
      refine ⟨?_,?_,by omega,by omega⟩<;>omega
 have plain:(0<=x\/R=0)->CallsD Γ prog 142 [.one (.raw (.int .i64 (sg x))),.one (.ints .i64 (dig Q))] (.agg [.raw (.int .i64 (sg (x / y))),.ints .i64 (dig (x / y).natAbs)])/\
  CallsD Γ prog 142 [.one (.raw (.int .i64 (sg x))),.one (.ints .i64 (dig R))] (.agg [.raw (.int .i64 (sg (x % y))),.ints .i64 (dig (x % y).natAbs)]):=fun h=>by
  obtain ⟨d1,d2,m1,m2⟩:=done _ rfl h;have hs1:=wia (Γ:=Γ) (sg x) (x / y) (by rw [m1];omega) d1;have hs2:=wia (Γ:=Γ) (sg x) (x % y) (by rw [m2];omega) d2;rw [m1] at hs1 ⊢;rw [m2] at hs2 ⊢;exact ⟨hs1,hs2⟩
 refine hg2 @sy @Int.mul_one ?_;refine zln (fun h1 _=>?_) (fun h1 _=>?_)
 . have hx0:x<0:=by omega
   refine hg3 @h1 @sy @Int.mul_one ?_;refine vdi (fun h2 _=>?_) (fun h2 _=>?_)
   . have hR0:R=0:=yqy.1 (List.eq_nil_of_length_eq_zero (by omega));obtain ⟨hs1,hs2⟩:=plain (.inr hR0);refine hg2 @sy @Int.mul_one ?_
     first | refine w5a hs1 ?_ | refine xqd hs1 ?_
     refine hg ?_
     first | refine w5a hs2 ?_ | refine xqd hs2 ?_
     refine hg ?_;refine hik ?_;refine hg ?_;exact (.tup (.cons (.refl _) (.cons (.refl _) (.cons (.refl _) .nil))))
   . have hR0:R≠0:=fun e=>by rw [e,vhp] at h2;simp at h2
     obtain ⟨k1,k2⟩:=xqv (x:=x) (y:=y) (q:=-((Q:Int)+1)) (r:=y-R) (by
      have:y * -((Q:Int)+1) = -(y*Q)-y:=by grind
      omega) (by omega) (by omega)
     have m1:(x / y).natAbs=Q+1:=by rw [k1];omega
     have m2:(x % y).natAbs=y.natAbs-R:=by rw [k2];omega
     have m3:(num (dig Q)+num [1]).toNat=Q+1:=by rw [eQ];simp [num]
     have hA:=vnu (Γ:=Γ) (dig Q) [1] (zkp _) (digits.cons (by decide) digits.nil) (by omega) (by simp);rw [m3,<-m1] at hA;have hS:=zzz (Γ:=Γ) y.natAbs R (by omega) (by omega);rw [<-m2] at hS;have hs1:=wia (Γ:=Γ) (-1) (x / y) (by rw [m1];omega) (by rw [k1];omega);have hs2:=wia (Γ:=Γ) 1 (x % y) (by rw [m2];have:=y2d (show y.natAbs-R<=y.natAbs by omega);omega) (by rw [k2];omega);refine hg2 @sy @Int.mul_one ?_
     first | refine w5a hA ?_ | refine xqd hA ?_
     refine hg ?_
     first | refine w5a hs1 ?_ | refine xqd hs1 ?_
     refine hg1 @sy ?_
     first | refine w5a hS ?_ | refine xqd hS ?_
     refine hg ?_
     first | refine w5a hs2 ?_ | refine xqd hs2 ?_
     refine hg ?_;refine hik ?_;refine hg ?_;exact (.tup (.cons (.refl _) (.cons (.refl _) (.cons (.refl _) .nil))))
 . have h1':=decide_eq_true h1;obtain ⟨hs1,hs2⟩:=plain (.inl (by omega));refine hg3 @h1' @sy @Int.mul_one ?_
   first | refine w5a hs1 ?_ | refine xqd hs1 ?_
   refine hg ?_
   first | refine w5a hs2 ?_ | refine xqd hs2 ?_
   refine hg ?_;refine hik ?_;refine hg ?_;exact (.tup (.cons (.refl _) (.cons (.refl _) (.cons (.refl _) .nil))))
theorem rOf (n:Int) (hn:inI n):CallsD Γ prog 83 [.one (.raw (.int .i64 n))] (.agg [.raw (.int .i64 (sg n)),.ints .i64 (dig n.natAbs)]):=by
 unfold inI at hn;refine hE [(6,[.join]),(11,[.join])] func83 f83.eq_1 ?_;refine vdi (fun h0 _=>?_) (fun h0 _=>?_)
 . subst h0;refine hg ?_;exact (by rw [show (0:Int).natAbs=0 from rfl,vhp];exact .one (.agg (.cons (.refl _) (.cons (.ypo _) .nil))))
 refine hg ?_;refine v81 [0,2] (fun s:Int=>[(3,.one (.dat (cI s)))]) (fun _=>[.box [.dat (cI 0),.dat .zc] (some 49)]) (fun s=>(s=1/\0<=n)\/(s = -1/\n<0)) ?_ ?_
 . refine hg ?_;refine vdi (fun h _=>?_) (fun h _=>?_)
   . refine hg ?_;exact ⟨-1,.inr ⟨rfl,h⟩,sS⟩
   . refine hg ?_;exact ⟨1,.inl ⟨rfl,by omega⟩,sS⟩
 rintro s hs
 have hsN:n=s*(n.natAbs:Int):=by rcases hs with ⟨rfl,h⟩ | ⟨rfl,h⟩<;>omega
 have hN:(n.natAbs:Int)<=9223372036854775808:=by omega
 have hss:s=1\/s = -1:=by rcases hs with h | h;exact .inl h.1;exact .inr h.1
 have hmod:∀ u:Int,0<=u->(s*u).tmod 1048576=s*(u % 1048576)/\(s*u).tdiv 1048576=s*(u / 1048576):=fun u hu=>by
  rcases hss with rfl | rfl
  . rw [Int.one_mul,Int.one_mul,Int.one_mul];exact ⟨Int.tmod_eq_emod_of_nonneg hu,Int.tdiv_eq_ediv_of_nonneg hu⟩
  . rw [Int.neg_mul,Int.neg_mul,Int.neg_mul,Int.one_mul,Int.one_mul,Int.one_mul,Int.neg_tmod,Int.neg_tdiv];exact ⟨by rw [Int.tmod_eq_emod_of_nonneg hu],by rw [Int.tdiv_eq_ediv_of_nonneg hu]⟩
 refine hg ?_;refine vi3 [2,3] (fun x:Nat×List Int×Int=>[(0,.one (.dat (cI (s*x.2.2)))),(4,.one (.sl 1 1 0 x.2.1.length))])
  (fun x=>[.box [.dat (cI 0),.dat .zc] (some 49),.arr (.ints .i64 x.2.1) 0 (some 3)])
  (fun x=>x.2.1.length=x.1/\x.1<=4/\digits x.2.1/\0<=x.2.2/\num x.2.1+1048576 ^ x.1*x.2.2=n.natAbs) (fun x=>x.2.2.toNat) (0,[],n.natAbs)
  ⟨rfl,Nat.zero_le _,digits.nil,by simp,by simp [num]⟩ ?_ ?_
 . refine hg ?_;rw [<-hsN];refine StH.trans (StH.empty (d:=4) (es:=1) (c:=.ints .i64 []) (T:=some 3) rfl rfl trivial rfl) ?_;refine hg ?_;exact sS
 rintro ⟨k,l,u⟩ ⟨hl,hk,hd,hu,he⟩;simp only at hl hk hd hu he;have hl0:=num_nonneg hd;have hp:=xo9 k
 have huN:u<=n.natAbs:=by
  have:=Int.mul_le_mul_of_nonneg_right (show (1:Int)<=1048576 ^ k by omega) hu
  omega
 refine hg ?_;refine vdi (fun h _=>?_) (fun h _=>?_)
 . have hu0:u≠0:=fun e=>h (by rw [e,Int.mul_zero])
   have hk3:k<=3:=by
    rcases Nat.lt_or_ge k 4 with h4 | h4
    . omega
    . have h1:=zr4 h4;have h2:=Int.mul_le_mul_of_nonneg_left (show (1:Int)<=u by omega) (Int.le_of_lt hp)
      have h3:(1048576:Int) ^ 4=1208925819614629174706176:=by decide
      omega
   obtain ⟨e1,e2⟩:=hmod u hu
   have hm:0<=u % 1048576/\u % 1048576<=1048575:=by omega
   have hq:0<=u / 1048576/\u / 1048576<=9223372036854775807:=by omega
   have hsm:-9223372036854775808<=s*(u / 1048576)/\s*(u / 1048576)<=9223372036854775807:=by rcases hss with rfl | rfl<;>omega
   have hsr:-1048575<=s*(u % 1048576)/\s*(u % 1048576)<=1048575:=by rcases hss with rfl | rfl<;>omega
   refine hg1 @e1 ?_;refine v81 [0,2,3,4] (fun _:Unit=>[(5,.one (.dat (cI (u % 1048576))))]) (fun _=>[.box [.dat (cI 0),.dat .zc] (some 49),.arr (.ints .i64 l) 0 (some 3)]) (fun _=>True) ?_ ?_
   . refine hg ?_;refine vdi (fun h2 _=>?_) (fun h2 _=>?_)
     . refine hg ?_;rw [show 0-s*(u % 1048576)=u % 1048576 by rcases hss with rfl | rfl<;>omega];exact ⟨(),sS⟩
     . refine hg ?_;rw [show s*(u % 1048576)=u % 1048576 by rcases hss with rfl | rfl<;>omega];exact ⟨(),sS⟩
   rintro _ _;refine hg1 @e2 ?_;refine ⟨(k+1,l++[u % 1048576],u / 1048576),⟨by simp [hl],by dsimp only;omega,hd.append (digits.cons (by omega) digits.nil),by dsimp only;omega,?_⟩,by dsimp only;omega,StH.back [0,2,3,4] 1 2 2 rfl rfl rfl rfl rfl (by kernel_rfl) (sS)⟩;dsimp only;rw [xoa,hl,Int.pow_succ];have h:=Int.emod_add_mul_ediv u 1048576;generalize (1048576:Int) ^ k=P at *;generalize u % 1048576=r at *;generalize u / 1048576=q at *
   grind
 . have hu0:u=0:=by rcases hss with rfl | rfl<;>omega
   rw [hu0,Int.mul_zero,Int.add_zero] at he;have e:=xah hd he;rw [Int.toNat_natCast] at e;have hsg:=yuf (Γ:=Γ) s l (by omega)
   try unfold bigC at hsg
   rw [e,<-v88,ybc (by omega)] at hsg;unfold Go.Slot.zC at hsg;refine hg ?_
   first | refine w5a hsg ?_ | refine xqd hsg ?_
   refine hg ?_;exact (.one (.refl _))
theorem w4c (z:Int) (d:Nat) (hz:okZ z) (hd:d≠0) (hl:(dig d).length<=268435456) :
 CallsD Γ prog 82 [.agg [.raw (.int .i64 (sg z)),.ints .i64 (dig z.natAbs)],.agg [.raw (.int .i64 1),.ints .i64 (dig d)]]
  (.tup [.agg (Fc.of (mkRat z d)).C,.one (.raw (.int .i64 0))]):=by
 obtain ⟨p1,p2,p3⟩:=zm4 z hd;have hden:=v9e (mkRat z d);rw [p2] at hden
 have hden2:(mkRat z d).den=((d:Int) / (Int.gcd z d:Int)).natAbs:=by omega
 have hgl:okZ (Int.gcd z d:Int):=by
  have:(Int.gcd z d:Int).natAbs<=d:=by
   have:Int.gcd z d ∣ d:=by have:=Int.gcd_dvd_natAbs_right z d;simpa using this
   exact Nat.le_of_dvd (Nat.pos_of_ne_zero hd) this
  exact Nat.le_trans (y2d this) hl
 have hr:=xb9 (Γ:=Γ) (d:Int) hl;have hgg:=zvz (Γ:=Γ) z d hz hl;have hd1:=yth (Γ:=Γ) z (Int.gcd z d:Int) hz hgl p3;have hd2:=yth (Γ:=Γ) d (Int.gcd z d:Int) hl hgl p3;rw [vsn hd] at hr hgg hd2;rw [hden] at hd2;rw [show ((d:Nat):Int).natAbs=d from rfl] at hr hgg hd2
 have hfin:(Fc.of (mkRat z d)).C=[.raw (.int .i64 (sg (z / (Int.gcd z d:Int)))),.ints .i64 (dig (z / (Int.gcd z d:Int)).natAbs),.raw (.int .i64 1),.ints .i64 (dig ((d:Int) / (Int.gcd z d:Int)).natAbs)]:=by
  rw [<-p1,<-hden2];rfl
 rw [hfin];generalize (Int.gcd z d:Int)=g at *;refine hE [] func82 f82.eq_1 ?_
 first | refine w5a (xb9 z hz) ?_ | refine xqd (xb9 z hz) ?_
 refine hg ?_
 first | refine w5a hr ?_ | refine xqd hr ?_
 refine hg ?_
 first | refine w5a hgg ?_ | refine xqd hgg ?_
 refine hg ?_
 first | refine w5a hd1 ?_ | refine xqd hd1 ?_
 refine hg ?_
 first | refine w5a hd2 ?_ | refine xqd hd2 ?_
 refine hg ?_;exact (.tup (.cons (.refl _) (.cons (.refl _) .nil)))
theorem mkRat_one (n:Int):mkRat n 1=(n:Rat):=by
 refine Rat.ext ?_ ?_
 . rw [Rat.num_mkRat,if_neg (by decide)];simp
 . rw [Rat.den_mkRat,if_neg (by decide)];simp
theorem zq0 {n:Int} (h:inI n):okZ n:=by
 have:(dig n.natAbs).length<=4:=vii (by unfold inI at h;omega)
 unfold okZ;omega
theorem vq4 (n:Int) (hn:inI n):CallsD Γ prog 14 [.one (.raw (.int .i64 n))] (.agg (Fc.of (n:Rat)).C):=by
 have h1:=rOf (Γ:=Γ) 1 (by decide);rw [show sg 1=1 from rfl] at h1;have hN:=w4c (Γ:=Γ) n 1 (zq0 hn) (by decide) (by have:=vii (n:=1) (by decide);omega);rw [mkRat_one] at hN
 have hof:CallsD Γ prog 40 [.one (.raw (.int .i64 n)),.one (.raw (.int .i64 1))] (.tup [.agg (Fc.of (n:Rat)).C,.one (.raw (.int .i64 0))]):=by
  refine hE [] func40 f40.eq_1 ?_
  first | refine w5a (rOf n hn) ?_ | refine xqd (rOf n hn) ?_
  refine hg ?_
  first | refine w5a h1 ?_ | refine xqd h1 ?_
  refine hg ?_
  first | refine w5a hN ?_ | refine xqd hN ?_
  refine hg ?_;exact (.tup (.cons (.refl _) (.cons (.refl _) .nil)))
 refine hE [] func14 f14.eq_1 ?_
 first | refine w5a hof ?_ | refine xqd hof ?_
 refine hg ?_;exact (.one (.refl _))
theorem w0v {α:Type} {l:List α} {i:Nat} (d:α) (h:i<l.length):l.take (i+1)=l.take i++[l.getD i d]:=by
 rw [List.take_add_one];simp [h]
theorem wwh (f:Fc) (n:Int) (_h1:f.L.length<=1099511627776) (_h2:f.M.length<=1099511627776) :
 CallsD Γ prog 20 [.agg f.C,.one (.raw (.int .i64 n))] (.one (.raw (.bool (decide ((f.sz:Int)<=n))))):=by
 have e:((f.sz:Nat):Int)=max (f.L.length:Int) f.M.length:=by unfold Fc.sz;omega
 refine hE [] func20 f20.eq_1 ?_;refine yw1 (fun h _=>?_) (fun h _=>?_)
 . have h':=decide_eq_true h;refine hg1 @h' ?_;exact (by rw [show decide ((f.sz:Int)<=n)=decide ((f.M.length:Int)<=n) from decide_eq_decide.2 (by omega)];exact .one (.refl _))
 . have h':=decide_eq_false h;refine hg1 @h' ?_;exact (by rw [decide_eq_false (by omega)];exact .one (.refl _))
theorem wvk (f:Fc) (h1:f.L.length<=1099511627776) (h2:f.M.length<=1099511627776) :
 CallsD Γ prog 20 [.agg f.C,.one (.raw (.int .i64 4))] (.one (.raw (.bool (decide (f.sz<=4))))):=by
 have:=wwh (Γ:=Γ) f 4 h1 h2
 rwa [decide_eq_decide.2 (show (f.sz:Int)<=4↔f.sz<=4 by omega)] at this
theorem ydj (s:Int) (L:List Int) (s':Int) (M:List Int) (lL:L.length<=1073741824) (_lM:M.length<=1073741824) :
 CallsD Γ prog 39 [.agg [.raw (.int .i64 s),.ints .i64 L],.agg [.raw (.int .i64 s'),.ints .i64 M]] (.one (.raw (.bool (decide (s=s'/\L=M))))):=by
 obtain ⟨r,hr⟩:∃ r,r=decide (s=s'/\L=M):=⟨_,rfl⟩;rw [<-hr]
 have bad:¬(s=s'/\L=M)->false=r:=fun h=>by rw [hr,decide_eq_false h]
 by_cases h1:s=s'
 . subst h1;by_cases h2:(L.length:Int)=M.length
   . have hl:L.length=M.length:=by omega
     have h2':¬((L.length:Int)≠M.length):=fun h=>h h2
     refine hE [] func39 f39.eq_1 ?_;refine vdi (fun h _=>absurd h h2') (fun _ _=>?_);refine hg ?_;refine vi3 [2,3] (fun i:Nat=>[(5,.one (.dat (cI (i))))]) (fun _=>[.box [.dat (cI s),.dat (.ints .i64 L)] (some 49),.box [.dat (cI s),.dat (.ints .i64 M)] (some 49)]) (fun i=>i<=L.length/\L.take i=M.take i) (fun i=>L.length-i) 0 ⟨Nat.zero_le _,rfl⟩ ?_ ?_
     . refine hg ?_;exact sS
     rintro i ⟨hi,he⟩;refine hg ?_;refine vdi (fun h1 _=>?_) (fun h1 _=>?_)
     . have hgg:∀(l:List Int),i<l.length->l.take (i+1)=l.take i++[l.getD i 0]:=fun l h=>w0v 0 h
       refine hg ?_;refine hik ?_;refine hg ?_;refine vdi (fun h2 _=>?_) (fun h2 _=>?_)
       . refine hg ?_;exact (by rw [bad (fun e=>h2 (by rw [e.2]))];exact .one (.refl _))
       . have h2:L.getD i 0=M.getD i 0:=by omega
         refine hg ?_;refine ⟨i+1,⟨by omega,?_⟩,by omega,sS⟩;rw [hgg L (by omega),hgg M (by omega),he,h2]
     . have hi:i=L.length:=by omega
       subst hi;rw [List.take_length,hl,List.take_length] at he
       have e:true=r:=by rw [hr,decide_eq_true ⟨rfl,he⟩]
       refine hg ?_;exact (by rw [e];exact .one (.refl _))
   . have h2:(L.length:Int)≠M.length:=h2;refine hE [] func39 f39.eq_1 ?_;refine vdi (fun _ _=>?_) (fun h _=>absurd h2 h);refine hg ?_;exact (by rw [bad (fun e=>h2 (by rw [e.2]))];exact .one (.refl _))
 . have h1':=decide_eq_true (show s≠s' from h1);refine hE [] func39 f39.eq_1 ?_;refine zln (fun h _=>absurd h1 h) (fun h _=>?_);refine hg1 @h1' ?_;exact (by rw [bad (fun e=>h1 e.1)];exact .one (.refl _))
theorem ytn (a b:Fc) (ha:a.sz<=67108864) (hb:b.sz<=67108864):CallsD Γ prog 12 [.agg a.C,.agg b.C] (.one (.raw (.bool (decide (a=b))))):=by
 have la:=szL ha;have lb:=szL hb;obtain ⟨r,hr⟩:∃ r,r=decide (a=b):=⟨_,rfl⟩;rw [<-hr];by_cases h:a.s=b.s/\a.L=b.L
 . have h1:=ydj (Γ:=Γ) a.s a.L b.s b.L (by omega) (by omega);rw [decide_eq_true h] at h1;have h2:=ydj (Γ:=Γ) a.t a.M b.t b.M (by omega) (by omega)
   have e:decide (a.t=b.t/\a.M=b.M)=r:=by
    rw [hr];apply decide_eq_decide.2;constructor
    . intro h';cases a;cases b;simp at h h';simp [h,h']
    . intro h';rw [h'];exact ⟨rfl,rfl⟩
   rw [e] at h2;refine hE [] func12 f12.eq_1 ?_
   first | refine w5a h1 ?_ | refine xqd h1 ?_
   refine hg ?_
   first | refine w5a h2 ?_ | refine xqd h2 ?_
   refine hg ?_;exact (.one (.refl _))
 . have h1:=ydj (Γ:=Γ) a.s a.L b.s b.L (by omega) (by omega);rw [decide_eq_false h] at h1
   have e:r=false:=by rw [hr,decide_eq_false (fun e=>h (by rw [e];exact ⟨rfl,rfl⟩))]
   subst e;refine hE [] func12 f12.eq_1 ?_
   first | refine w5a h1 ?_ | refine xqd h1 ?_
   refine hg ?_;exact (.one (.refl _))
end Go.Hp.T
namespace Go.Hp.T
open Go Go.RowKit Go.Slot Go.Hp Go.Slot.T
open Go.Proofs.Tryz (prog)
set_option maxRecDepth 10000
set_option maxHeartbeats 4000000
variable {Γ:List (Nat×List Cell)}
end Go.Hp.T
namespace Go.Hp.T
open Go Go.RowKit Go.Slot Go.Hp Go.Slot.T
open Go.Proofs.Tryz
attribute [local irreducible] hide RH
set_option maxRecDepth 10000
set_option maxHeartbeats 4000000
variable {Γ:List (Nat×List Cell)}
theorem n12:((12:Nat):Int)=12:=rfl
attribute [go_sem] n12
end Go.Hp.T
namespace Go.Hp.T
open Go Go.RowKit Go.Slot Go.Hp Go.Slot.T
open Go.Proofs.Tryz
attribute [local irreducible] hide RH
set_option maxRecDepth 10000
set_option maxHeartbeats 8000000
variable {Γ:List (Nat×List Cell)}
theorem vju {α:Type} [Inhabited α] {p:α->Bool} {l:List α} {i:Nat} (h:i<l.length) (hp:p (l.getD i default)=false):l.all p=false:=by
 rw [List.all_eq_false];exact ⟨_,vdv h,by rw [hp];simp⟩
theorem v6j {α:Type} [Inhabited α] {p:α->Bool} {l:List α} (h:∀ j,j<l.length->p (l.getD j default)=true):l.all p=true:=by
 rw [List.all_eq_true];intro x hx;obtain ⟨j,hj,rfl⟩:=List.getElem_of_mem hx
 have:=h j hj
 rw [List.getD_eq_getElem?_getD,List.getElem?_eq_getElem hj] at this;simpa using this
end Go.Hp.T
