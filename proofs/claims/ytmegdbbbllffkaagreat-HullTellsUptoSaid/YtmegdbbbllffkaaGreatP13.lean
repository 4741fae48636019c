/- The proof, part P13: Rd, Rl, Rf, Rg, Ub, Xa, T1, T2, Sf. -/
import Derived.Test.YtmegdbbbllffkaaGreatP12
import Derived.Test.YtmegdbbbllffkaaGreatP10
import Derived.Test.YtmegdbbbllffkaaGreatP11
namespace Go.Slot.T
open Go Go.RowKit Go.Slot
open Go.Proofs.Tryz (prog)
set_option maxRecDepth 10000
set_option maxHeartbeats 4000000
theorem ykf (s:Int) (L:List Int) (hL:L.length<=1099511627776):yn2 prog 200 [.agg [.raw (.int .i64 s),.ints .i64 L]] (.one (.raw (.bool (decide (xhn s L))))):=by
 obtain ⟨r,hr⟩:∃ r,r=decide (xhn s L):=⟨_,rfl⟩;rw [<-hr]
 have bad:¬xhn s L->false=r:=fun h=>by rw [hr,decide_eq_false h]
 refine yn2.run [] Go.Proofs.Tryz.func200 rfl rfl ?_;simp only [Go.Proofs.Tryz.f200];refine rgR ?_;refine vxs [] (fun i:Nat=>[(3,.one (.raw (.int .i64 i)))])
  (fun i=>i<=L.length/\digits (L.take i)) (fun i=>L.length-i) 0 ⟨Nat.zero_le _,by simp [digits]⟩ ?_ ?_
 . refine rg ?_;exact StLe.weaken (by repeat' first | exact .nil | refine .cons (by first | exact .refl _ | exact .any _) ?_) rfl
 rintro i ⟨hi,hd⟩;refine rg ?_;refine z08 (fun h=>?_) (fun h=>?_)
 . have hi':i<L.length:=by omega
   have hget:L.getD i 0=L[i]:=by simp [hi']
   have hmem:L[i]∈L:=List.getElem_mem hi'
   have hbad:¬(0<=L.getD i 0/\L.getD i 0<=1048575)->false=r:=fun hn=>bad (fun hr=>hn (by rw [hget];exact hr.1 _ hmem))
   refine rg ?_;refine xjr (fun h1=>?_) (fun h1=>?_)
   . refine rg1 @h1 ?_;refine z08 (fun h2=>?_) (fun h2=>?_)
     . refine rg ?_;exact ⟨_,rfl,by rw [hbad (by omega)];exact .one (.refl _)⟩
     . refine rg ?_;refine ⟨i+1,⟨by omega,?_⟩,by omega,StLe.weaken (by repeat' first | exact .nil | refine .cons (by first | exact .refl _ | exact .any _) ?_) rfl⟩;intro x hx;rw [List.take_add_one,List.mem_append] at hx
       rcases hx with hx | hx
       . exact hd x hx
       . simp [hi'] at hx;subst hx;rw [<-hget];omega
   . have h1':=decide_eq_true h1;refine rg1 @h1' ?_;exact ⟨_,rfl,by rw [hbad (by omega)];exact .one (.refl _)⟩
 . have hi':i=L.length:=by omega
   have hdig:digits L:=by rw [hi',List.take_length] at hd;exact hd
   refine rg ?_;refine xjr (fun h1=>?_) (fun h1=>?_)
   . refine rg1 @h1 ?_;refine xjr (fun h2=>?_) (fun h2=>?_)
     . by_cases h3:(L.length:Int)=0
       . have hnil:L=[]:=by have:L.length=0:=(by omega);simpa using this
         have h3':=decide_eq_true h3;by_cases h4:s=0
         . have h4':=decide_eq_true h4
           have e:true=r:=by rw [hr,decide_eq_true (show xhn s L from ⟨hdig,.inl ⟨hnil,h4⟩⟩)]
           refine rg3 @h2 @h3' @h4' ?_;exact ⟨_,rfl,by rw [e];exact .one (.refl _)⟩
         . have h4':=decide_eq_false h4;refine rg3 @h2 @h3' @h4' ?_;exact ⟨_,rfl,by rw [bad (fun hb=>by rcases hb.2 with h | h;exact h4 h.2;exact h.1 hnil)];exact .one (.refl _)⟩
       . have h3':=decide_eq_false h3
         have hne:L≠[]:=fun e=>h3 (by rw [e];rfl)
         have hpos:0<L.length:=List.length_pos_iff.2 hne;by_cases h4:s=0
         . have h4':=decide_eq_true h4;refine rg3 @h2 @h3' @h4' ?_;exact ⟨_,rfl,by rw [bad (fun hb=>by rcases hb.2 with h | h;exact hne h.1;omega)];exact .one (.refl _)⟩
         . have h4':=decide_eq_false h4
           have hlast:decide (L.getD (L.length-1) 0≠0)=r:=by
            rw [hr];apply decide_eq_decide.2;simp only [xhn];constructor
            . exact fun h4=>⟨hdig,.inr ⟨hne,by omega,h4⟩⟩
            . rintro ⟨_,⟨h4,_⟩ | ⟨_,_,h4⟩⟩
              . exact absurd h4 hne
              . exact h4
           have e:((L.length:Int)-1).toNat=L.length-1:=by omega
           conv=>simp (maxSteps:=2000000) (disch:=omega) only [go_sem,Nat.reduceAdd,Nat.reduceSub,Nat.reduceMul,Int.reduceToNat,Nat.reduceEqDiff,Nat.reduceBEq,Nat.reduceBneDiff,h2,h3',h4',e]
           exact ⟨_,rfl,by rw [hlast];exact .one (.refl _)⟩
     . have h2':=decide_eq_true h2;refine rg1 @h2' ?_;exact ⟨_,rfl,by rw [bad (fun hb=>by rcases hb.2 with h | h<;>omega)];exact .one (.refl _)⟩
   . have h1':=decide_eq_true h1;refine rg1 @h1' ?_;exact ⟨_,rfl,by rw [bad (fun hb=>by rcases hb.2 with h | h<;>omega)];exact .one (.refl _)⟩
theorem zh9 (z:Int) (hz:okZ z):yn2 prog 200 [.agg [.raw (.int .i64 (sg z)),.ints .i64 (dig z.natAbs)]] (.one (.raw (.bool true))):=by
 have h:=ykf (sg z) (dig z.natAbs) (by omega);rw [decide_eq_true (xpw z)] at h;exact h
theorem vm1 (x:Int) (hx:okZ x) :
 yn2 prog 245 [.agg [.raw (.int .i64 (sg x)),.ints .i64 (dig x.natAbs)]] (.agg [.raw (.int .i64 (sg (-x))),.ints .i64 (dig (-x).natAbs)]):=by
 have sx:=wzq x
 have e:(-x).natAbs=x.natAbs:=by omega
 have hs:=z4q (0-sg x) (-x) (by rw [e];omega) (by omega);rw [e] at hs ⊢;refine yn2.run [] Go.Proofs.Tryz.func245 rfl rfl ?_;simp only [Go.Proofs.Tryz.f245];refine rgR ?_;refine v1h (zh9 x hx) ?_;refine rg ?_;refine v1h hs ?_;refine rg ?_;exact ⟨_,rfl,.one (.refl _)⟩
theorem yig (x y:Int) (hx:okZ x) (hy:okZ y) :
 yn2 prog 201 [.agg [.raw (.int .i64 (sg x)),.ints .i64 (dig x.natAbs)],.agg [.raw (.int .i64 (sg y)),.ints .i64 (dig y.natAbs)]]
  (.tup [.agg [.raw (.int .i64 (sg (Int.gcd x y:Int))),.ints .i64 (dig (Int.gcd x y:Int).natAbs)],.one (.raw (.int .i64 0))]):=by
 refine yn2.run [] Go.Proofs.Tryz.func201 rfl rfl ?_;simp only [Go.Proofs.Tryz.f201];refine rgR ?_;refine v1h (zh9 x hx) ?_;refine rg ?_;refine v1h (zh9 y hy) ?_;refine rg ?_;refine vxs [5] (fun p:Nat×Nat=>[(6,.one (.ints .i64 (dig p.1))),(7,.one (.ints .i64 (dig p.2)))])
  (fun p=>Nat.gcd p.1 p.2=Int.gcd x y/\(dig p.1).length<=268435456/\(dig p.2).length<=268435456) (fun p=>p.2) (x.natAbs,y.natAbs) ⟨rfl,hx,hy⟩ ?_ ?_
 . refine rg ?_;exact StLe.weaken (by repeat' first | exact .nil | refine .cons (by first | exact .refl _ | exact .any _) ?_) rfl
 rintro ⟨m,n⟩ ⟨hg,hm,hn⟩;simp only at hg hm hn;refine rg ?_;refine z08 (fun h=>?_) (fun h=>?_)
 . have hn0:n≠0:=fun e=>by rw [e,ylp] at h;simp at h
   refine rg ?_;refine v1h (zu0 m n hn0 (by omega) (by omega)) ?_;refine rg ?_;refine ⟨(n,m % n),⟨?_,hn,Nat.le_trans (wxv (Nat.mod_le _ _)) hm⟩,Nat.mod_lt _ (by omega),StLe.weaken (by repeat' first | exact .nil | refine .cons (by first | exact .refl _ | exact .any _) ?_) rfl⟩;dsimp only;rw [<-hg,Nat.gcd_comm n,<-Nat.gcd_rec,Nat.gcd_comm]
 . have hn0:n=0:=zrh.1 (List.eq_nil_of_length_eq_zero (by omega));subst hn0;rw [Nat.gcd_zero_right] at hg
   have e:(Int.gcd x y:Int).natAbs=m:=by rw [<-hg];rfl
   have hs:=z4q 1 (Int.gcd x y:Int) (by rw [e];omega) (.inl ⟨rfl,by omega⟩);rw [e] at hs ⊢;refine rg ?_;refine v1h hs ?_;refine rg ?_;exact ⟨_,rfl,.tup (.cons (.refl _) (.cons (.refl _) .nil))⟩
theorem wbx (x y:Int) (hx:okZ x) (hy:okZ y) (hy0:0<y) :
 yn2 prog 246 [.agg [.raw (.int .i64 (sg x)),.ints .i64 (dig x.natAbs)],.agg [.raw (.int .i64 (sg y)),.ints .i64 (dig y.natAbs)]]
  (.tup [.agg [.raw (.int .i64 (sg (x / y))),.ints .i64 (dig (x / y).natAbs)],.agg [.raw (.int .i64 (sg (x % y))),.ints .i64 (dig (x % y).natAbs)],.one (.raw (.int .i64 0))]):=by
 have sx:=wzq x;have sy:=zgv hy0;have hn:=Nat.div_add_mod x.natAbs y.natAbs;have hr:=Nat.mod_lt x.natAbs (show 0<y.natAbs by omega);have hqx:=Nat.div_le_self x.natAbs y.natAbs;have hrx:=Nat.mod_le x.natAbs y.natAbs;have hlq:=wxv hqx;have hlr:=wxv hrx;have hcd:=zu0 x.natAbs y.natAbs (by omega) (by omega) (by omega);generalize hQ:x.natAbs / y.natAbs=Q at *;generalize hR:x.natAbs % y.natAbs=R at *
 have hyQ:((y.natAbs*Q:Nat):Int)=y*Q:=by rw [Int.natCast_mul];congr 1;omega
 have eR:=yn8 R;have eQ:=yn8 Q;have ey:=zeb y;have hlQ1:=z4z Q 1
 have h1l:(dig 1).length=1:=by rw [yzy (by decide),ylp];rfl
 refine yn2.run [] Go.Proofs.Tryz.func246 rfl rfl ?_;simp only [Go.Proofs.Tryz.f246];refine rgR ?_;refine v1h (zh9 x hx) ?_;refine rg ?_;refine v1h (zh9 y hy) ?_;refine rg ?_;refine z08 (fun h=>absurd h (by omega)) (fun _=>?_);refine rg ?_;refine v1h hcd ?_
 have done:∀(s:Int),s=sg x->(0<=x\/R=0)->((s=1/\0<=x / y)\/(s = -1/\x / y<=0)\/x / y=0)/\((sg x=1/\0<=x % y)\/(sg x = -1/\x % y<=0)\/x % y=0)/\(x / y).natAbs=Q/\(x % y).natAbs=R:=fun s hs h=>by
  rcases h with h | h
  . obtain ⟨k1,k2⟩:=v03 (x:=x) (y:=y) (q:=(Q:Int)) (r:=(R:Int)) (by omega) (by omega) (by omega)
    have hQ0:x=0->Q=0/\R=0:=fun e=>by subst e;simp at hqx hrx;exact ⟨hqx,hrx⟩
    rw [k1,k2,hs]
    refine ⟨?_,?_,by omega,by omega⟩<;>omega
  . rcases Int.lt_or_le x 0 with h0 | h0
    . obtain ⟨k1,k2⟩:=v03 (x:=x) (y:=y) (q:=-(Q:Int)) (r:=0) (by
       have:y * -(Q:Int) = -(y*Q):=by grind
       omega) (by omega) (by omega)
      rw [k1,k2,hs]
      refine ⟨?_,?_,by omega,by omega⟩<;>omega
    . obtain ⟨k1,k2⟩:=v03 (x:=x) (y:=y) (q:=(Q:Int)) (r:=(R:Int)) (by omega) (by omega) (by omega)
      have hQ0:x=0->Q=0/\R=0:=fun e=>by subst e;simp at hqx hrx;exact ⟨hqx,hrx⟩
      rw [k1,k2,hs]
      refine ⟨?_,?_,by omega,by omega⟩<;>omega
 have plain:(0<=x\/R=0)->yn2 prog 237 [.one (.raw (.int .i64 (sg x))),.one (.ints .i64 (dig Q))] (.agg [.raw (.int .i64 (sg (x / y))),.ints .i64 (dig (x / y).natAbs)])/\
  yn2 prog 237 [.one (.raw (.int .i64 (sg x))),.one (.ints .i64 (dig R))] (.agg [.raw (.int .i64 (sg (x % y))),.ints .i64 (dig (x % y).natAbs)]):=fun h=>by
  obtain ⟨d1,d2,m1,m2⟩:=done _ rfl h;have hs1:=z4q (sg x) (x / y) (by rw [m1];omega) d1;have hs2:=z4q (sg x) (x % y) (by rw [m2];omega) d2;rw [m1] at hs1 ⊢;rw [m2] at hs2 ⊢;exact ⟨hs1,hs2⟩
 conv=>simp (maxSteps:=2000000) (disch:=omega) only [go_sem,Nat.reduceAdd,Nat.reduceSub,Nat.reduceMul,Int.reduceToNat,Nat.reduceEqDiff,Nat.reduceBEq,Nat.reduceBneDiff,sy,Int.mul_one]
 refine xjr (fun h1=>?_) (fun h1=>?_)
 . have hx0:x<0:=by omega
   conv=>simp (maxSteps:=2000000) (disch:=omega) only [go_sem,Nat.reduceAdd,Nat.reduceSub,Nat.reduceMul,Int.reduceToNat,Nat.reduceEqDiff,Nat.reduceBEq,Nat.reduceBneDiff,h1,sy,Int.mul_one]
   refine z08 (fun h2=>?_) (fun h2=>?_)
   . have hR0:R=0:=zrh.1 (List.eq_nil_of_length_eq_zero (by omega));obtain ⟨hs1,hs2⟩:=plain (.inr hR0)
     conv=>simp (maxSteps:=2000000) (disch:=omega) only [go_sem,Nat.reduceAdd,Nat.reduceSub,Nat.reduceMul,Int.reduceToNat,Nat.reduceEqDiff,Nat.reduceBEq,Nat.reduceBneDiff,sy,Int.mul_one]
     refine v1h hs1 ?_;refine rg ?_;refine v1h hs2 ?_;refine rg ?_;refine indk (by kernel_rfl) ?_;refine rg ?_;exact ⟨_,rfl,.tup (.cons (.refl _) (.cons (.refl _) (.cons (.refl _) .nil)))⟩
   . have hR0:R≠0:=fun e=>by rw [e,ylp] at h2;simp at h2
     obtain ⟨k1,k2⟩:=v03 (x:=x) (y:=y) (q:=-((Q:Int)+1)) (r:=y-R) (by
      have:y * -((Q:Int)+1) = -(y*Q)-y:=by grind
      omega) (by omega) (by omega)
     have m1:(x / y).natAbs=Q+1:=by rw [k1];omega
     have m2:(x % y).natAbs=y.natAbs-R:=by rw [k2];omega
     have m3:(num (dig Q)+num [1]).toNat=Q+1:=by rw [eQ];simp [num]
     have hA:=y9i (dig Q) [1] (wo6 _) (digits.cons (by decide) digits.nil) (by omega) (by simp);rw [m3,<-m1] at hA;have hS:=yt6 y.natAbs R (by omega) (by omega);rw [<-m2] at hS;have hs1:=z4q (-1) (x / y) (by rw [m1];omega) (by rw [k1];omega);have hs2:=z4q 1 (x % y) (by rw [m2];have:=wxv (show y.natAbs-R<=y.natAbs by omega);omega) (by rw [k2];omega)
     conv=>simp (maxSteps:=2000000) (disch:=omega) only [go_sem,Nat.reduceAdd,Nat.reduceSub,Nat.reduceMul,Int.reduceToNat,Nat.reduceEqDiff,Nat.reduceBEq,Nat.reduceBneDiff,sy,Int.mul_one]
     refine v1h hA ?_;refine rg ?_;refine v1h hs1 ?_;refine rg1 @sy ?_;refine v1h hS ?_;refine rg ?_;refine v1h hs2 ?_;refine rg ?_;refine indk (by kernel_rfl) ?_;refine rg ?_;exact ⟨_,rfl,.tup (.cons (.refl _) (.cons (.refl _) (.cons (.refl _) .nil)))⟩
 . have h1':=decide_eq_true h1;obtain ⟨hs1,hs2⟩:=plain (.inl (by omega))
   conv=>simp (maxSteps:=2000000) (disch:=omega) only [go_sem,Nat.reduceAdd,Nat.reduceSub,Nat.reduceMul,Int.reduceToNat,Nat.reduceEqDiff,Nat.reduceBEq,Nat.reduceBneDiff,h1',sy,Int.mul_one]
   refine v1h hs1 ?_;refine rg ?_;refine v1h hs2 ?_;refine rg ?_;refine indk (by kernel_rfl) ?_;refine rg ?_;exact ⟨_,rfl,.tup (.cons (.refl _) (.cons (.refl _) (.cons (.refl _) .nil)))⟩
theorem rOf (n:Int) (hn:inI n):yn2 prog 203 [.one (.raw (.int .i64 n))] (.agg [.raw (.int .i64 (sg n)),.ints .i64 (dig n.natAbs)]):=by
 unfold inI at hn;refine yn2.run [(6,[.join]),(11,[.join])] Go.Proofs.Tryz.func203 rfl rfl ?_;simp only [Go.Proofs.Tryz.f203];refine rgR ?_;refine z08 (fun h0=>?_) (fun h0=>?_)
 . subst h0;refine rg ?_;exact ⟨_,rfl,by rw [show (0:Int).natAbs=0 from rfl,ylp];exact .one (.agg (.cons (.refl _) (.cons (.ysc _) .nil)))⟩
 refine rg ?_;refine zu4 [0] (fun s:Int=>[(3,.one (.raw (.int .i64 s)))]) (fun s=>(s=1/\0<=n)\/(s = -1/\n<0)) ?_ ?_
 . refine rg ?_;refine z08 (fun h=>?_) (fun h=>?_)
   . refine rg ?_;exact ⟨-1,.inr ⟨rfl,h⟩,StLe.weaken (by repeat' first | exact .nil | refine .cons (by first | exact .refl _ | exact .any _) ?_) rfl⟩
   . refine rg ?_;exact ⟨1,.inl ⟨rfl,by omega⟩,StLe.weaken (by repeat' first | exact .nil | refine .cons (by first | exact .refl _ | exact .any _) ?_) rfl⟩
 rintro s hs
 have hsN:n=s*(n.natAbs:Int):=by rcases hs with ⟨rfl,h⟩ | ⟨rfl,h⟩<;>omega
 have hN:(n.natAbs:Int)<=9223372036854775808:=by omega
 have hss:s=1\/s = -1:=by rcases hs with h | h;exact .inl h.1;exact .inr h.1
 have hmod:∀ u:Int,0<=u->(s*u).tmod 1048576=s*(u % 1048576)/\(s*u).tdiv 1048576=s*(u / 1048576):=fun u hu=>by
  rcases hss with rfl | rfl
  . rw [Int.one_mul,Int.one_mul,Int.one_mul];exact ⟨Int.tmod_eq_emod_of_nonneg hu,Int.tdiv_eq_ediv_of_nonneg hu⟩
  . rw [Int.neg_mul,Int.neg_mul,Int.neg_mul,Int.one_mul,Int.one_mul,Int.one_mul,Int.neg_tmod,Int.neg_tdiv];exact ⟨by rw [Int.tmod_eq_emod_of_nonneg hu],by rw [Int.tdiv_eq_ediv_of_nonneg hu]⟩
 refine rg ?_;refine vxs [3] (fun x:Nat×List Int×Int=>[(0,.one (.raw (.int .i64 (s*x.2.2)))),(4,.one (.tok 22 (.ints .i64 x.2.1)))])
  (fun x=>x.2.1.length=x.1/\x.1<=4/\digits x.2.1/\0<=x.2.2/\num x.2.1+1048576 ^ x.1*x.2.2=n.natAbs) (fun x=>x.2.2.toNat) (0,[],n.natAbs)
  ⟨rfl,Nat.zero_le _,digits.nil,by simp,by simp [num]⟩ ?_ ?_
 . refine StLe.trans (StLe.tokI 4 22 (.ints .i64 []) rfl rfl rfl) ?_;refine rg ?_;rw [<-hsN];exact StLe.weaken (by repeat' first | exact .nil | refine .cons (by first | exact .refl _ | exact .any _) ?_) rfl
 rintro ⟨k,l,u⟩ ⟨hl,hk,hd,hu,he⟩;simp only at hl hk hd hu he;have hl0:=num_nonneg hd;have hp:=zou k
 have huN:u<=n.natAbs:=by
  have:=Int.mul_le_mul_of_nonneg_right (show (1:Int)<=1048576 ^ k by omega) hu
  omega
 refine rg ?_;refine z08 (fun h=>?_) (fun h=>?_)
 . have hu0:u≠0:=fun e=>h (by rw [e,Int.mul_zero])
   have hk3:k<=3:=by
    rcases Nat.lt_or_ge k 4 with h4 | h4
    . omega
    . have h1:=wqr h4;have h2:=Int.mul_le_mul_of_nonneg_left (show (1:Int)<=u by omega) (Int.le_of_lt hp)
      have h3:(1048576:Int) ^ 4=1208925819614629174706176:=by decide
      omega
   obtain ⟨e1,e2⟩:=hmod u hu
   have hm:0<=u % 1048576/\u % 1048576<=1048575:=by omega
   have hq:0<=u / 1048576/\u / 1048576<=9223372036854775807:=by omega
   have hsm:-9223372036854775808<=s*(u / 1048576)/\s*(u / 1048576)<=9223372036854775807:=by rcases hss with rfl | rfl<;>omega
   have hsr:-1048575<=s*(u % 1048576)/\s*(u % 1048576)<=1048575:=by rcases hss with rfl | rfl<;>omega
   refine rg1 @e1 ?_;refine zu4 [0,3,4] (fun _:Unit=>[(5,.one (.raw (.int .i64 (u % 1048576))))]) (fun _=>True) ?_ ?_
   . refine rg ?_;refine z08 (fun h2=>?_) (fun h2=>?_)
     . refine rg ?_;rw [show 0-s*(u % 1048576)=u % 1048576 by rcases hss with rfl | rfl<;>omega];exact ⟨(),StLe.weaken (by repeat' first | exact .nil | refine .cons (by first | exact .refl _ | exact .any _) ?_) rfl⟩
     . refine rg ?_;rw [show s*(u % 1048576)=u % 1048576 by rcases hss with rfl | rfl<;>omega];exact ⟨(),StLe.weaken (by repeat' first | exact .nil | refine .cons (by first | exact .refl _ | exact .any _) ?_) rfl⟩
   rintro _ _;refine rg1 @e2 ?_;refine ⟨(k+1,l++[u % 1048576],u / 1048576),⟨by simp [hl],by dsimp only;omega,hd.append (digits.cons (by omega) digits.nil),by dsimp only;omega,?_⟩,by dsimp only;omega,StLe.weaken (by repeat' first | exact .nil | refine .cons (by first | exact .refl _ | exact .any _) ?_) rfl⟩;dsimp only;rw [yn9,hl,Int.pow_succ];have h:=Int.emod_add_mul_ediv u 1048576;generalize (1048576:Int) ^ k=P at *;generalize u % 1048576=r at *;generalize u / 1048576=q at *
   grind
 . have hu0:u=0:=by rcases hss with rfl | rfl<;>omega
   rw [hu0,Int.mul_zero,Int.add_zero] at he;have e:=wai hd he;rw [Int.toNat_natCast] at e;have hsg:=vla s l (by omega);unfold bigC at hsg;rw [e,<-wb6,vam (by omega)] at hsg;unfold zC at hsg;refine rg ?_;refine v1h hsg ?_;refine rg ?_;exact ⟨_,rfl,.one (.refl _)⟩
theorem xct (z:Int) (d:Nat) (hz:okZ z) (hd:d≠0) (hl:(dig d).length<=268435456) :
 yn2 prog 212 [.agg [.raw (.int .i64 (sg z)),.ints .i64 (dig z.natAbs)],.agg [.raw (.int .i64 1),.ints .i64 (dig d)]]
  (.tup [.agg (Fc.of (mkRat z d)).C,.one (.raw (.int .i64 0))]):=by
 obtain ⟨p1,p2,p3⟩:=zr2 z hd;have hden:=w2p (mkRat z d);rw [p2] at hden
 have hden2:(mkRat z d).den=((d:Int) / (Int.gcd z d:Int)).natAbs:=by omega
 have hgl:okZ (Int.gcd z d:Int):=by
  have:(Int.gcd z d:Int).natAbs<=d:=by
   have:Int.gcd z d ∣ d:=by have:=Int.gcd_dvd_natAbs_right z d;simpa using this
   exact Nat.le_of_dvd (Nat.pos_of_ne_zero hd) this
  exact Nat.le_trans (wxv this) hl
 have hr:=zh9 (d:Int) hl;have hg:=yig z d hz hl;have hd1:=wbx z (Int.gcd z d:Int) hz hgl p3;have hd2:=wbx d (Int.gcd z d:Int) hl hgl p3;rw [wwm hd] at hr hg hd2;rw [hden] at hd2;rw [show ((d:Nat):Int).natAbs=d from rfl] at hr hg hd2
 have hfin:(Fc.of (mkRat z d)).C=[.raw (.int .i64 (sg (z / (Int.gcd z d:Int)))),.ints .i64 (dig (z / (Int.gcd z d:Int)).natAbs),.raw (.int .i64 1),.ints .i64 (dig ((d:Int) / (Int.gcd z d:Int)).natAbs)]:=by
  rw [<-p1,<-hden2];rfl
 rw [hfin];generalize (Int.gcd z d:Int)=g at *;refine yn2.run [] Go.Proofs.Tryz.func212 rfl rfl ?_;simp only [Go.Proofs.Tryz.f212];refine rgR ?_;refine v1h (zh9 z hz) ?_;refine rg ?_;refine v1h hr ?_;refine rg ?_;refine z08 (fun h=>absurd h (by decide)) (fun _=>?_);refine rg ?_;refine z08 (fun h=>absurd h (by decide)) (fun _=>?_);refine rg ?_;refine v1h hg ?_;refine rg ?_;refine v1h hd1 ?_;refine rg ?_;refine v1h hd2 ?_;refine rg ?_;exact ⟨_,rfl,.tup (.cons (.refl _) (.cons (.refl _) .nil))⟩
theorem mkRat_one (n:Int):mkRat n 1=(n:Rat):=by
 refine Rat.ext ?_ ?_
 . rw [Rat.num_mkRat,if_neg (by decide)];simp
 . rw [Rat.den_mkRat,if_neg (by decide)];simp
theorem w4a {n:Int} (h:inI n):okZ n:=by
 have:(dig n.natAbs).length<=4:=vun (by unfold inI at h;omega)
 unfold okZ;omega
theorem yfw (n:Int) (hn:inI n):yn2 prog 165 [.one (.raw (.int .i64 n))] (.agg (Fc.of (n:Rat)).C):=by
 have h1:=rOf 1 (by decide);rw [show sg 1=1 from rfl] at h1;have hN:=xct n 1 (w4a hn) (by decide) (by have:=vun (n:=1) (by decide);omega);rw [mkRat_one] at hN
 have hof:yn2 prog 213 [.one (.raw (.int .i64 n)),.one (.raw (.int .i64 1))] (.tup [.agg (Fc.of (n:Rat)).C,.one (.raw (.int .i64 0))]):=by
  refine yn2.run [] Go.Proofs.Tryz.func213 rfl rfl ?_;simp only [Go.Proofs.Tryz.f213];refine rgR ?_;refine v1h (rOf n hn) ?_;refine rg ?_;refine v1h h1 ?_;refine rg ?_;refine v1h hN ?_;refine rg ?_;exact ⟨_,rfl,.tup (.cons (.refl _) (.cons (.refl _) .nil))⟩
 refine yn2.run [] Go.Proofs.Tryz.func165 rfl rfl ?_;simp only [Go.Proofs.Tryz.f165];refine rgR ?_;refine v1h hof ?_;refine rg ?_;exact ⟨_,rfl,.one (.refl _)⟩
theorem y6y {α:Type} {l:List α} {i:Nat} (d:α) (h:i<l.length):l.take (i+1)=l.take i++[l.getD i d]:=by
 rw [List.take_add_one];simp [h]
theorem vp9 (s:Int) (L:List Int) (s':Int) (M:List Int) (lL:L.length<=1073741824) (_lM:M.length<=1073741824) :
 yn2 prog 238 [.agg [.raw (.int .i64 s),.ints .i64 L],.agg [.raw (.int .i64 s'),.ints .i64 M]] (.one (.raw (.bool (decide (s=s'/\L=M))))):=by
 obtain ⟨r,hr⟩:∃ r,r=decide (s=s'/\L=M):=⟨_,rfl⟩;rw [<-hr]
 have bad:¬(s=s'/\L=M)->false=r:=fun h=>by rw [hr,decide_eq_false h]
 by_cases h1:s=s'
 . subst h1;by_cases h2:(L.length:Int)=M.length
   . have hl:L.length=M.length:=by omega
     have h2':¬((L.length:Int)≠M.length):=fun h=>h h2
     refine yn2.run [] Go.Proofs.Tryz.func238 rfl rfl ?_;simp only [Go.Proofs.Tryz.f238];refine rgR ?_;refine z08 (fun h=>absurd h h2') (fun _=>?_);refine rg ?_;refine vxs [] (fun i:Nat=>[(5,.one (.raw (.int .i64 i)))]) (fun i=>i<=L.length/\L.take i=M.take i) (fun i=>L.length-i) 0 ⟨Nat.zero_le _,rfl⟩ ?_ ?_
     . refine rg ?_;exact StLe.weaken (by repeat' first | exact .nil | refine .cons (by first | exact .refl _ | exact .any _) ?_) rfl
     rintro i ⟨hi,he⟩;refine rg ?_;refine z08 (fun h1=>?_) (fun h1=>?_)
     . have hg:∀(l:List Int),i<l.length->l.take (i+1)=l.take i++[l.getD i 0]:=fun l h=>y6y 0 h
       refine rg ?_;refine indk (by kernel_rfl) ?_;refine rg ?_;refine z08 (fun h2=>?_) (fun h2=>?_)
       . refine rg ?_;exact ⟨_,rfl,by rw [bad (fun e=>h2 (by rw [e.2]))];exact .one (.refl _)⟩
       . have h2:L.getD i 0=M.getD i 0:=by omega
         refine rg ?_;refine ⟨i+1,⟨by omega,?_⟩,by omega,StLe.weaken (by repeat' first | exact .nil | refine .cons (by first | exact .refl _ | exact .any _) ?_) rfl⟩;rw [hg L (by omega),hg M (by omega),he,h2]
     . have hi:i=L.length:=by omega
       subst hi;rw [List.take_length,hl,List.take_length] at he
       have e:true=r:=by rw [hr,decide_eq_true ⟨rfl,he⟩]
       refine rg ?_;exact ⟨_,rfl,by rw [e];exact .one (.refl _)⟩
   . have h2:(L.length:Int)≠M.length:=h2;refine yn2.run [] Go.Proofs.Tryz.func238 rfl rfl ?_;simp only [Go.Proofs.Tryz.f238];refine rgR ?_;refine z08 (fun _=>?_) (fun h=>absurd h2 h);refine rg ?_;exact ⟨_,rfl,by rw [bad (fun e=>h2 (by rw [e.2]))];exact .one (.refl _)⟩
 . have h1':=decide_eq_true (show s≠s' from h1);refine yn2.run [] Go.Proofs.Tryz.func238 rfl rfl ?_;simp only [Go.Proofs.Tryz.f238];refine rgR ?_;refine xjr (fun h=>absurd h1 h) (fun h=>?_);refine rg1 @h1' ?_;exact ⟨_,rfl,by rw [bad (fun e=>h1 e.1)];exact .one (.refl _)⟩
theorem wvu (x y:Int):(sg x=sg y/\dig x.natAbs=dig y.natAbs)↔x=y:=by
 constructor
 . rintro ⟨h1,h2⟩;have ex:=zeb x;have ey:=zeb y;rw [h2,ey] at ex
   rcases wzq x with ⟨h,e⟩ | ⟨h,e⟩ | ⟨h,e⟩<;>rcases wzq y with ⟨h',e'⟩ | ⟨h',e'⟩ | ⟨h',e'⟩<;>omega
 . rintro rfl;exact ⟨rfl,rfl⟩
theorem wfg (x y:Int) (hx:okZ x) (hy:okZ y) :
 yn2 prog 202 [.agg [.raw (.int .i64 (sg x)),.ints .i64 (dig x.natAbs)],.agg [.raw (.int .i64 (sg y)),.ints .i64 (dig y.natAbs)]] (.one (.raw (.int .i64 (ord x y)))):=by
 have sx:=wzq x;have sy:=wzq y;have hx':(dig x.natAbs).length<=268435456:=hx;have hy':(dig y.natAbs).length<=268435456:=hy;have hS:=vp9 (sg x) (dig x.natAbs) (sg y) (dig y.natAbs) (by omega) (by omega);rw [decide_eq_decide.2 (wvu x y)] at hS;have hL:=wuz (dig x.natAbs) (dig y.natAbs) (wo6 _) (wo6 _) (by omega) (by omega);rw [zeb,zeb] at hL;by_cases h:x=y
 . rw [decide_eq_true h] at hS;rw [show ord x y=0 by unfold ord;rw [if_neg (by omega),if_neg (by omega)]];refine yn2.run [] Go.Proofs.Tryz.func202 rfl rfl ?_;simp only [Go.Proofs.Tryz.f202];refine rgR ?_;refine v1h (zh9 x hx) ?_;refine rg ?_;refine v1h (zh9 y hy) ?_;refine rg ?_;refine v1h hS ?_;refine rg ?_;exact ⟨_,rfl,.one (.refl _)⟩
 . rw [decide_eq_false h] at hS;by_cases h1:sg x=sg y
   . have h1':¬sg x≠sg y:=fun e=>e h1
     by_cases h2:(x.natAbs:Int)<y.natAbs
     . rw [decide_eq_true h2] at hL;by_cases h3:0<sg x
       . rw [show ord x y = -1 by unfold ord;rw [if_pos (by omega)]];have h3':=decide_eq_true h3;refine yn2.run [] Go.Proofs.Tryz.func202 rfl rfl ?_;simp only [Go.Proofs.Tryz.f202];refine rgR ?_;refine v1h (zh9 x hx) ?_;refine rg ?_;refine v1h (zh9 y hy) ?_;refine rg ?_;refine v1h hS ?_;refine rg ?_;refine z08 (fun e=>absurd e h1') (fun _=>?_);refine rg ?_;refine v1h hL ?_;refine rg1 @h3' ?_;refine indk (by kernel_rfl) ?_;refine rg ?_;exact ⟨_,rfl,.one (.refl _)⟩
       . rw [show ord x y=1 by unfold ord;rw [if_neg (by omega),if_pos (by omega)]];have h3':=decide_eq_false h3;refine yn2.run [] Go.Proofs.Tryz.func202 rfl rfl ?_;simp only [Go.Proofs.Tryz.f202];refine rgR ?_;refine v1h (zh9 x hx) ?_;refine rg ?_;refine v1h (zh9 y hy) ?_;refine rg ?_;refine v1h hS ?_;refine rg ?_;refine z08 (fun e=>absurd e h1') (fun _=>?_);refine rg ?_;refine v1h hL ?_;refine rg1 @h3' ?_;refine indk (by kernel_rfl) ?_;refine rg ?_;exact ⟨_,rfl,.one (.refl _)⟩
     . rw [decide_eq_false h2] at hL;by_cases h3:0<sg x
       . rw [show ord x y=1 by unfold ord;rw [if_neg (by omega),if_pos (by omega)]];have h3':=decide_eq_true h3;refine yn2.run [] Go.Proofs.Tryz.func202 rfl rfl ?_;simp only [Go.Proofs.Tryz.f202];refine rgR ?_;refine v1h (zh9 x hx) ?_;refine rg ?_;refine v1h (zh9 y hy) ?_;refine rg ?_;refine v1h hS ?_;refine rg ?_;refine z08 (fun e=>absurd e h1') (fun _=>?_);refine rg ?_;refine v1h hL ?_;refine rg1 @h3' ?_;refine indk (by kernel_rfl) ?_;refine rg ?_;exact ⟨_,rfl,.one (.refl _)⟩
       . rw [show ord x y = -1 by unfold ord;rw [if_pos (by omega)]];have h3':=decide_eq_false h3;refine yn2.run [] Go.Proofs.Tryz.func202 rfl rfl ?_;simp only [Go.Proofs.Tryz.f202];refine rgR ?_;refine v1h (zh9 x hx) ?_;refine rg ?_;refine v1h (zh9 y hy) ?_;refine rg ?_;refine v1h hS ?_;refine rg ?_;refine z08 (fun e=>absurd e h1') (fun _=>?_);refine rg ?_;refine v1h hL ?_;refine rg1 @h3' ?_;refine indk (by kernel_rfl) ?_;refine rg ?_;exact ⟨_,rfl,.one (.refl _)⟩
   . refine yn2.run [] Go.Proofs.Tryz.func202 rfl rfl ?_;simp only [Go.Proofs.Tryz.f202];refine rgR ?_;refine v1h (zh9 x hx) ?_;refine rg ?_;refine v1h (zh9 y hy) ?_;refine rg ?_;refine v1h hS ?_;refine rg ?_;refine z08 (fun _=>?_) (fun e=>absurd h1 e);refine rg ?_;refine z08 (fun h2=>?_) (fun h2=>?_)
     . refine rg ?_;rw [show ord x y = -1 by unfold ord;rw [if_pos (by omega)]];exact ⟨_,rfl,.one (.refl _)⟩
     . refine rg ?_;rw [show ord x y=1 by unfold ord;rw [if_neg (by omega),if_pos (by omega)]];exact ⟨_,rfl,.one (.refl _)⟩
theorem zm1 (x y:Int) (hx:okZ x) (hy:okZ y) :
 yn2 prog 259 [.agg [.raw (.int .i64 (sg x)),.ints .i64 (dig x.natAbs)],.agg [.raw (.int .i64 (sg y)),.ints .i64 (dig y.natAbs)]]
  (.tup [.agg [.raw (.int .i64 (sg (x+y))),.ints .i64 (dig (x+y).natAbs)],.one (.raw (.int .i64 0))]):=by
 have sx:=wzq x;have sy:=wzq y;have hx':(dig x.natAbs).length<=268435456:=hx;have hy':(dig y.natAbs).length<=268435456:=hy;have hl:=zzg x y;have hP:=y9i (dig x.natAbs) (dig y.natAbs) (wo6 _) (wo6 _) (by omega) (by omega);rw [zeb,zeb] at hP;have hL:=wuz (dig x.natAbs) (dig y.natAbs) (wo6 _) (wo6 _) (by omega) (by omega);rw [zeb,zeb] at hL;by_cases h:sg x=0\/sg y=0\/sg x=sg y
 . have hA:((x.natAbs:Int)+y.natAbs).toNat=(x+y).natAbs:=by omega
   rw [hA] at hP
   have ho:(ior .i64 (sg x) (sg y)=1/\0<=x+y)\/(ior .i64 (sg x) (sg y) = -1/\x+y<=0)\/x+y=0:=by
    rcases sx with ⟨h1,e⟩ | ⟨h1,e⟩ | ⟨h1,e⟩<;>rcases sy with ⟨h2,e'⟩ | ⟨h2,e'⟩ | ⟨h2,e'⟩<;>rw [e,e']<;>first | exact .inl ⟨by decide,by omega⟩ | exact .inr (.inl ⟨by decide,by omega⟩) | exact .inr (.inr (by omega)) | (exfalso;omega)
   have hM:=z4q (ior .i64 (sg x) (sg y)) (x+y) (by omega) ho;by_cases h1:sg x=0
   . have h1':=decide_eq_true h1;refine yn2.run [] Go.Proofs.Tryz.func259 rfl rfl ?_;simp only [Go.Proofs.Tryz.f259];refine rgR ?_;refine v1h (zh9 x hx) ?_;refine rg ?_;refine v1h (zh9 y hy) ?_;refine rg1 @h1' ?_;refine v1h hP ?_;refine rg ?_;refine v1h hM ?_;refine rg ?_;refine indk (by kernel_rfl) ?_;refine rg ?_;exact ⟨_,rfl,.tup (.cons (.refl _) (.cons (.refl _) .nil))⟩
   . have h1':=decide_eq_false h1;by_cases h2:sg y=0
     . have h2':=decide_eq_true h2;refine yn2.run [] Go.Proofs.Tryz.func259 rfl rfl ?_;simp only [Go.Proofs.Tryz.f259];refine rgR ?_;refine v1h (zh9 x hx) ?_;refine rg ?_;refine v1h (zh9 y hy) ?_;refine rg2 @h1' @h2' ?_;refine v1h hP ?_;refine rg ?_;refine v1h hM ?_;refine rg ?_;refine indk (by kernel_rfl) ?_;refine rg ?_;exact ⟨_,rfl,.tup (.cons (.refl _) (.cons (.refl _) .nil))⟩
     . have h2':=decide_eq_false h2
       have h3:sg x=sg y:=by omega
       refine yn2.run [] Go.Proofs.Tryz.func259 rfl rfl ?_;simp only [Go.Proofs.Tryz.f259];refine rgR ?_;refine v1h (zh9 x hx) ?_;refine rg ?_;refine v1h (zh9 y hy) ?_;refine rg2 @h1' @h2' ?_;refine z08 (fun _=>?_) (fun e=>absurd h3 e);refine rg ?_;refine v1h hP ?_;refine rg ?_;refine v1h hM ?_;refine rg ?_;refine indk (by kernel_rfl) ?_;refine rg ?_;exact ⟨_,rfl,.tup (.cons (.refl _) (.cons (.refl _) .nil))⟩
 . have h1:¬sg x=0:=fun e=>h (.inl e)
   have h2:¬sg y=0:=fun e=>h (.inr (.inl e))
   have h3:¬sg x=sg y:=fun e=>h (.inr (.inr e))
   have h1':=decide_eq_false h1;have h2':=decide_eq_false h2;by_cases h4:(x.natAbs:Int)<y.natAbs
   . rw [decide_eq_true h4] at hL;have hD:=yt6 y.natAbs x.natAbs (by omega) (by omega)
     have hA:y.natAbs-x.natAbs=(x+y).natAbs:=by omega
     rw [hA] at hD;have hM:=z4q (sg y) (x+y) (by omega) (by omega);refine yn2.run [] Go.Proofs.Tryz.func259 rfl rfl ?_;simp only [Go.Proofs.Tryz.f259];refine rgR ?_;refine v1h (zh9 x hx) ?_;refine rg ?_;refine v1h (zh9 y hy) ?_;refine rg2 @h1' @h2' ?_;refine z08 (fun e=>absurd e h3) (fun _=>?_);refine rg ?_;refine v1h hL ?_;refine rg ?_;refine v1h hD ?_;refine rg ?_;refine v1h hM ?_;refine rg ?_;refine indk (by kernel_rfl) ?_;refine rg ?_;exact ⟨_,rfl,.tup (.cons (.refl _) (.cons (.refl _) .nil))⟩
   . rw [decide_eq_false h4] at hL;have hD:=yt6 x.natAbs y.natAbs (by omega) (by omega)
     have hA:x.natAbs-y.natAbs=(x+y).natAbs:=by omega
     rw [hA] at hD;have hM:=z4q (sg x) (x+y) (by omega) (by omega);refine yn2.run [] Go.Proofs.Tryz.func259 rfl rfl ?_;simp only [Go.Proofs.Tryz.f259];refine rgR ?_;refine v1h (zh9 x hx) ?_;refine rg ?_;refine v1h (zh9 y hy) ?_;refine rg2 @h1' @h2' ?_;refine z08 (fun e=>absurd e h3) (fun _=>?_);refine rg ?_;refine v1h hL ?_;refine rg ?_;refine v1h hD ?_;refine rg ?_;refine v1h hM ?_;refine rg ?_;refine indk (by kernel_rfl) ?_;refine rg ?_;exact ⟨_,rfl,.tup (.cons (.refl _) (.cons (.refl _) .nil))⟩
theorem wye (x y:Int) (hx:okZ x) (hy:okZ y) :
 yn2 prog 260 [.agg [.raw (.int .i64 (sg x)),.ints .i64 (dig x.natAbs)],.agg [.raw (.int .i64 (sg y)),.ints .i64 (dig y.natAbs)]]
  (.tup [.agg [.raw (.int .i64 (sg (x-y))),.ints .i64 (dig (x-y).natAbs)],.one (.raw (.int .i64 0))]):=by
 have hA:=zm1 x (-y) hx (by unfold okZ;rw [Int.natAbs_neg];exact hy);rw [<-Int.sub_eq_add_neg] at hA;refine yn2.run [] Go.Proofs.Tryz.func260 rfl rfl ?_;simp only [Go.Proofs.Tryz.f260];refine rgR ?_;refine v1h (zh9 y hy) ?_;refine rg ?_;refine v1h (vm1 y hy) ?_;refine rg ?_;refine v1h hA ?_;refine rg ?_;refine indk (by kernel_rfl) ?_;refine rg ?_;exact ⟨_,rfl,.tup (.cons (.refl _) (.cons (.refl _) .nil))⟩
theorem y11 (x y:Int) (hx:okZ x) (hy:okZ y) :
 yn2 prog 204 [.agg [.raw (.int .i64 (sg x)),.ints .i64 (dig x.natAbs)],.agg [.raw (.int .i64 (sg y)),.ints .i64 (dig y.natAbs)]]
  (.tup [.agg [.raw (.int .i64 (sg (x*y))),.ints .i64 (dig (x*y).natAbs)],.one (.raw (.int .i64 0))]):=by
 have hx':(dig x.natAbs).length<=268435456:=hx;have hy':(dig y.natAbs).length<=268435456:=hy;have hl:=wm8 x y;have hT:=v86 (dig x.natAbs) (dig y.natAbs) (wo6 _) (wo6 _) (by omega) (by omega);rw [zeb,zeb,<-Int.natCast_mul,Int.toNat_natCast,<-Int.natAbs_mul] at hT;have hm:=vda x y;have hr:=wzq (x*y);have hM:=z4q (sg (x*y)) (x*y) (by omega) (wqt _);refine yn2.run [] Go.Proofs.Tryz.func204 rfl rfl ?_;simp only [Go.Proofs.Tryz.f204];refine rgR ?_;refine v1h (zh9 x hx) ?_;refine rg ?_;refine v1h (zh9 y hy) ?_;refine rg1 @hm ?_;refine v1h hT ?_;refine rg1 @hm ?_;refine v1h hM ?_;refine rg ?_;refine indk (by kernel_rfl) ?_;refine rg ?_;exact ⟨_,rfl,.tup (.cons (.refl _) (.cons (.refl _) .nil))⟩
theorem wo8 (x y:Int):ord x y=0↔x=y:=by unfold ord;repeat' split<;>omega
theorem vwq (f:Fc) (hf:f.sz<=268435456):yn2 prog 158 [.agg f.C] (.one (.raw (.bool (decide f.ok)))):=by
 obtain ⟨s,L,t,M⟩:=f;obtain ⟨hL,hM⟩:=szL hf;dsimp only at hL hM;obtain ⟨r,hr⟩:∃ r,r=decide (Fc.mk s L t M).ok:=⟨_,rfl⟩;rw [<-hr]
 have bad:¬xm9 s L t M->r=false:=fun h=>by rw [hr];exact decide_eq_false h
 have hRL:=ykf s L (by omega);have hRM:=ykf t M (by omega);by_cases h1:xhn s L
 . rw [decide_eq_true h1] at hRL;by_cases h2:xhn t M
   . rw [decide_eq_true h2] at hRM;obtain ⟨x,rfl,rfl⟩:=(wa6 _ _).1 h1;obtain ⟨y,rfl,rfl⟩:=(wa6 _ _).1 h2;refine yn2.run [] Go.Proofs.Tryz.func158 rfl rfl ?_;simp only [Go.Proofs.Tryz.f158];refine rgR ?_;refine v1h hRL ?_;refine rg ?_;refine v1h hRM ?_;refine rg ?_;refine z08 (fun h3=>?_) (fun h3=>?_)
     . have e:=bad (fun h=>by have:=h.2.2.1;omega);subst e;refine rg ?_;exact ⟨_,rfl,.one (.refl _)⟩
     . have h3:sg y=1:=by have:=wzq y;omega
       have hgl:okZ (Int.gcd x y:Int):=by
        have:(Int.gcd x y:Int).natAbs<=y.natAbs:=by
         have hy:0<y.natAbs:=by rcases wzq y with ⟨h,e⟩ | ⟨h,e⟩ | ⟨h,e⟩<;>omega
         exact Nat.le_of_dvd hy (Nat.gcd_dvd_right _ _)
        exact Nat.le_trans (wxv this) hM
       have e:r=decide (ord (Int.gcd x y:Int) 1=0):=by
        rw [hr];apply decide_eq_decide.2;rw [wo8];show xm9 _ _ _ _↔_;unfold xm9;rw [yqs,yqs];constructor
        . exact fun h=>by have:=h.2.2.2;omega
        . exact fun h=>⟨h1,h2,h3,by omega⟩
       subst e;have ho:=rOf 1 (by decide);have hc:=wfg (Int.gcd x y:Int) 1 hgl (w4a (by decide));refine rg ?_;refine v1h (yig x y hL hM) ?_;refine rg ?_;refine v1h ho ?_;refine rg ?_;refine v1h hc ?_;refine rg ?_;refine indk (by kernel_rfl) ?_;refine rg ?_;exact ⟨_,rfl,.one (.refl _)⟩
   . have e:=bad (fun h=>h2 h.2.1);subst e;rw [decide_eq_false h2] at hRM;refine yn2.run [] Go.Proofs.Tryz.func158 rfl rfl ?_;simp only [Go.Proofs.Tryz.f158];refine rgR ?_;refine v1h hRL ?_;refine rg ?_;refine v1h hRM ?_;refine rg ?_;exact ⟨_,rfl,.one (.refl _)⟩
 . have e:=bad (fun h=>h1 h.1);subst e;rw [decide_eq_false h1] at hRL;refine yn2.run [] Go.Proofs.Tryz.func158 rfl rfl ?_;simp only [Go.Proofs.Tryz.f158];refine rgR ?_;refine v1h hRL ?_;refine rg ?_;exact ⟨_,rfl,.one (.refl _)⟩
theorem vlk (r:Rat) (h:(Fc.of r).sz<=268435456):yn2 prog 158 [.agg (Fc.of r).C] (.one (.raw (.bool true))):=by
 have:=vwq (Fc.of r) h
 rwa [decide_eq_true (Fc.zav r)] at this
theorem zj5 (x:Int) (d:Nat) (hx:okZ x) (hd:d≠0) (hl:(dig d).length<=268435456) :
 yn2 prog 204 [.agg [.raw (.int .i64 (sg x)),.ints .i64 (dig x.natAbs)],.agg [.raw (.int .i64 1),.ints .i64 (dig d)]]
  (.tup [.agg [.raw (.int .i64 (sg (x*d))),.ints .i64 (dig (x*d).natAbs)],.one (.raw (.int .i64 0))]):=by
 have:=y11 x (d:Int) hx hl
 rw [wwm hd] at this;exact this
theorem zja (c d:Nat) (hc0:c≠0) (hd:d≠0) (hc:(dig c).length<=268435456) (hl:(dig d).length<=268435456) :
 yn2 prog 204 [.agg [.raw (.int .i64 1),.ints .i64 (dig c)],.agg [.raw (.int .i64 1),.ints .i64 (dig d)]]
  (.tup [.agg [.raw (.int .i64 1),.ints .i64 (dig (c*d))],.one (.raw (.int .i64 0))]):=by
 have:=zj5 (c:Int) d hc hd hl
 rw [wwm hc0,show (c:Int)*d=((c*d:Nat):Int) from (Int.natCast_mul c d).symm,wwm (Nat.mul_ne_zero hc0 hd)] at this;exact this
theorem zd0 (x y:Rat) (ha:(Fc.of x).sz<=67108864) (hb:(Fc.of y).sz<=67108864) :
 yn2 prog 247 [.agg (Fc.of x).C,.agg (Fc.of y).C] (.tup [.agg (Fc.of (x+y)).C,.one (.raw (.int .i64 0))]):=by
 have lx:=szO ha;have ly:=szO hb;have l1:=wm8 x.num y.den;have l2:=wm8 y.num x.den;have l3:=zzg (x.num*y.den) (y.num*x.den);have l4:=ysr x.den y.den;rw [Int.natAbs_natCast] at l1 l2;rw [Rat.add_def'];refine yn2.run [] Go.Proofs.Tryz.func247 rfl rfl ?_;simp only [Go.Proofs.Tryz.f247];refine rgR ?_;refine v1h (vlk x (by omega)) ?_;refine rg ?_;refine v1h (vlk y (by omega)) ?_;refine rg ?_;refine v1h (zj5 x.num y.den (by unfold okZ;omega) y.den_nz (by omega)) ?_;refine rg ?_;refine v1h (zj5 y.num x.den (by unfold okZ;omega) x.den_nz (by omega)) ?_;refine rg ?_;refine v1h (zja x.den y.den x.den_nz y.den_nz (by omega) (by omega)) ?_;refine rg ?_;refine v1h (zm1 (x.num*y.den) (y.num*x.den) (by unfold okZ;omega) (by unfold okZ;omega)) ?_;refine rg ?_;refine v1h (xct (x.num*y.den+y.num*x.den) (x.den*y.den) (by unfold okZ;omega) (Nat.mul_ne_zero x.den_nz y.den_nz) (by omega)) ?_;refine rg ?_;exact ⟨_,rfl,.tup (.cons (.refl _) (.cons (.refl _) .nil))⟩
theorem x83 (x y:Rat) (ha:(Fc.of x).sz<=67108864) (hb:(Fc.of y).sz<=67108864) :
 yn2 prog 248 [.agg (Fc.of x).C,.agg (Fc.of y).C] (.tup [.agg (Fc.of (x-y)).C,.one (.raw (.int .i64 0))]):=by
 have lx:=szO ha;have ly:=szO hb;have l1:=wm8 x.num y.den;have l2:=wm8 y.num x.den;have l3:=zzg (x.num*y.den) (-(y.num*x.den));have l4:=ysr x.den y.den;rw [Int.natAbs_natCast] at l1 l2;rw [Int.natAbs_neg,<-Int.sub_eq_add_neg] at l3;rw [Rat.sub_def'];refine yn2.run [] Go.Proofs.Tryz.func248 rfl rfl ?_;simp only [Go.Proofs.Tryz.f248];refine rgR ?_;refine v1h (vlk x (by omega)) ?_;refine rg ?_;refine v1h (vlk y (by omega)) ?_;refine rg ?_;refine v1h (zj5 x.num y.den (by unfold okZ;omega) y.den_nz (by omega)) ?_;refine rg ?_;refine v1h (zj5 y.num x.den (by unfold okZ;omega) x.den_nz (by omega)) ?_;refine rg ?_;refine v1h (zja x.den y.den x.den_nz y.den_nz (by omega) (by omega)) ?_;refine rg ?_;refine v1h (wye (x.num*y.den) (y.num*x.den) (by unfold okZ;omega) (by unfold okZ;omega)) ?_;refine rg ?_;refine v1h (xct (x.num*y.den-y.num*x.den) (x.den*y.den) (by unfold okZ;omega) (Nat.mul_ne_zero x.den_nz y.den_nz) (by omega)) ?_;refine rg ?_;exact ⟨_,rfl,.tup (.cons (.refl _) (.cons (.refl _) .nil))⟩
theorem yej (x y:Rat) (ha:(Fc.of x).sz<=67108864) (hb:(Fc.of y).sz<=67108864) :
 yn2 prog 164 [.agg (Fc.of x).C,.agg (Fc.of y).C] (.tup [.agg (Fc.of (x*y)).C,.one (.raw (.int .i64 0))]):=by
 have lx:=szO ha;have ly:=szO hb;have l1:=wm8 x.num y.num;have l4:=ysr x.den y.den;rw [Rat.mul_def'];refine yn2.run [] Go.Proofs.Tryz.func164 rfl rfl ?_;simp only [Go.Proofs.Tryz.f164];refine rgR ?_;refine v1h (vlk x (by omega)) ?_;refine rg ?_;refine v1h (vlk y (by omega)) ?_;refine rg ?_;refine v1h (y11 x.num y.num (by unfold okZ;omega) (by unfold okZ;omega)) ?_;refine rg ?_;refine v1h (zja x.den y.den x.den_nz y.den_nz (by omega) (by omega)) ?_;refine rg ?_;refine v1h (xct (x.num*y.num) (x.den*y.den) (by unfold okZ;omega) (Nat.mul_ne_zero x.den_nz y.den_nz) (by omega)) ?_;refine rg ?_;exact ⟨_,rfl,.tup (.cons (.refl _) (.cons (.refl _) .nil))⟩
theorem xbv (x y:Rat) (ha:(Fc.of x).sz<=67108864) (hb:(Fc.of y).sz<=67108864) :
 yn2 prog 159 [.agg (Fc.of x).C,.agg (Fc.of y).C] (.one (.raw (.int .i64 (Fc.ordQ x y)))):=by
 have lx:=szO ha;have ly:=szO hb;have l1:=wm8 x.num y.den;have l2:=wm8 y.num x.den;rw [Int.natAbs_natCast] at l1 l2;rw [<-Fc.vi3];refine yn2.run [] Go.Proofs.Tryz.func159 rfl rfl ?_;simp only [Go.Proofs.Tryz.f159];refine rgR ?_;refine v1h (vlk x (by omega)) ?_;refine rg ?_;refine v1h (vlk y (by omega)) ?_;refine rg ?_;refine v1h (zj5 x.num y.den (by unfold okZ;omega) y.den_nz (by omega)) ?_;refine rg ?_;refine v1h (zj5 y.num x.den (by unfold okZ;omega) x.den_nz (by omega)) ?_;refine rg ?_;refine v1h (wfg (x.num*y.den) (y.num*x.den) (by unfold okZ;omega) (by unfold okZ;omega)) ?_;refine rg ?_;exact ⟨_,rfl,.one (.refl _)⟩
end Go.Slot.T
namespace Go.Hp.T
open Go Go.RowKit Go.Slot Go.Hp Go.Slot.T
open Go.Proofs.Tryz (prog)
set_option maxRecDepth 10000
set_option maxHeartbeats 4000000
variable {Γ:List (Nat×List Cell)}
theorem x6u (z:Int) (d:Nat) (hz:okZ z) (hd:d≠0) (hl:(dig d).length<=268435456):CallsD Γ prog 212 [.agg (zC z),.agg (zC d)] (.tup [.agg (Fc.of (Rat.divInt z d)).C,.one (cI 0)]):=by
 have:=toD (Γ:=Γ) (xct z d hz hd hl)
 rw [Rat.divInt_ofNat];unfold zC;rw [wwm hd];exact this
theorem v2g (x:Rat) (h:qs x<=268435456):CallsD Γ prog 158 [.agg (fQ x)] (.one (cB true)):=toD (vlk x h)
theorem x3u (x y:Rat) (hx:qs x<=67108864) (hy:qs y<=67108864):CallsD Γ prog 164 [.agg (fQ x),.agg (fQ y)] (.tup [.agg (fQ (x*y)),.one (cI 0)]):=toD (yej x y hx hy)
theorem wof (n:Int) (hn:inI n):CallsD Γ prog 165 [.one (cI n)] (.agg (fQ (n:Rat))):=toD (yfw n hn)
theorem s5Of (p:Int) (q:Nat) (hp:inI p) (hq:inI q) (hq0:q≠0):CallsD Γ prog 213 [.one (cI p),.one (cI q)] (.tup [.agg (fQ (Rat.divInt p q)),.one (cI 0)]):=by
 have okI:∀ n:Int,inI n->okZ n:=fun n hn=>by
  unfold okZ
  have:=vun (n:=n.natAbs) (by unfold inI at hn;omega)
  omega
 have hl:(dig q).length<=268435456:=by have:=okI q hq;unfold okZ at this;simpa using this
 refine CallsD.run [] Go.Proofs.Tryz.func213 rfl rfl rfl ?_;simp only [Go.Proofs.Tryz.f213];refine hgR ?_
 repeat' ((first | refine hfk ?_ ?_<;>intros | refine hik ?_ | with_reducible first | refine v6l (toD (rOf p hp)) ?_ | refine vgi (toD (rOf p hp)) ?_ | refine v6l (toD (rOf q hq)) ?_ | refine vgi (toD (rOf q hq)) ?_ | refine v6l (x6u p q (okI p hp) hq0 hl) ?_ | refine vgi (x6u p q (okI p hp) hq0 hl) ?_)<;>refine hgS ?_)
 exact RLe.ofEq rfl
theorem vwp (x y:Rat) (hy:0<y.num) (hx:qs x<=67108864) (hyl:qs y<=67108864):CallsD Γ prog 244 [.agg (fQ x),.agg (fQ y)] (.tup [.agg (fQ (x / y)),.one (cI 0)]):=by
 have lx:=szO hx;have ly:=szO hyl;have l1:=wm8 x.num y.den;have l4:=wm8 (x.den:Int) y.num
 have hsy:sg y.num≠0:=by have:=wzq y.num;omega
 have hD:okZ (x.den:Int):=by unfold okZ;have:=lx.2;simp only [Int.natAbs_natCast];omega
 have hDy:okZ (y.den:Int):=by unfold okZ;have:=ly.2;simp only [Int.natAbs_natCast];omega
 have t1:=y11 x.num y.den (by unfold okZ;omega) hDy;have t2:=y11 (x.den:Int) y.num hD (by unfold okZ;omega);rw [wwm y.den_nz] at t1;rw [wwm x.den_nz] at t2;simp only [Int.natAbs_natCast] at t1 t2
 obtain ⟨m,hm⟩:∃ m:Nat,(x.den:Int)*y.num=m:=⟨((x.den:Int)*y.num).toNat,by
  have:0<=(x.den:Int)*y.num:=Int.mul_nonneg (by omega) (by omega)
  omega⟩
 have hm0:m≠0:=by
  intro h0
  have:(x.den:Int)*y.num≠0:=Int.mul_ne_zero (by have:=x.den_nz;omega) (by omega)
  omega
 have hn:=x6u (Γ:=Γ) (x.num*y.den) m (by unfold okZ;simp only [Int.natAbs_natCast] at l1;omega) hm0 (by
  simp only [Int.natAbs_natCast] at l4;rw [hm] at l4;simp only [Int.natAbs_natCast] at l4
  omega)
 rw [zgz,hm];rw [hm] at t2;refine CallsD.run [] Go.Proofs.Tryz.func244 rfl rfl rfl ?_;simp only [Go.Proofs.Tryz.f244];refine hgR ?_
 repeat' ((first | refine hfk ?_ ?_<;>intros | refine hik ?_ | with_reducible first | refine hcA ?_ | refine hcB ?_ | refine v6l (v2g x (by omega)) ?_ | refine vgi (v2g x (by omega)) ?_ | refine v6l (v2g y (by omega)) ?_ | refine vgi (v2g y (by omega)) ?_ | refine v6l (toD t1) ?_ | refine vgi (toD t1) ?_ | refine v6l (toD t2) ?_ | refine vgi (toD t2) ?_)<;>refine hgS ?_)
 exact RLe.ofEq rfl
theorem y06 (c:Int):CallsD Γ prog 255 [.one (c8 c)] (.one (cB (yio c))):=by
 refine CallsD.run [] Go.Proofs.Tryz.func255 rfl rfl rfl ?_;simp only [Go.Proofs.Tryz.f255];refine hgR ?_
 repeat' ((first | refine hfk ?_ ?_<;>intros | refine hik ?_)<;>refine hgS ?_)
 all_goals refine lf1 @yio.eq_def ?_;first | exact trivial | rfl
theorem xlg (b e:Int) (f:Rat) (hb:b=0\/b=1\/b=2\/b=3\/b=4\/b=5):CallsD Γ prog 256 [.one (cI b),.one (cI e),.agg (fQ f)] (.agg (unC ⟨xkq b e,f⟩)):=by
 rcases hb with rfl | rfl | rfl | rfl | rfl | rfl
 all_goals
  refine CallsD.run [] Go.Proofs.Tryz.func256 rfl rfl rfl ?_;simp only [Go.Proofs.Tryz.f256];refine hgR ?_
  repeat' ((first | refine hfk ?_ ?_<;>intros | refine hik ?_)<;>refine hgS ?_)
  exact RLe.ofEq rfl
theorem v7n (b e n:Int):unOf b e n 1=⟨xkq b e,(n:Rat)⟩:=by
 unfold unOf
 congr 1
 rw [show (1:Int)=((1:Nat):Int) from rfl,Rat.divInt_ofNat,Rat.mkRat_one]
theorem zt7 (b e n:Int) (hb:b=0\/b=1\/b=2\/b=3\/b=4\/b=5):CallsD Γ prog 256 [.one (cI b),.one (cI e),.agg (fQ (n:Rat))] (.agg (unC (unOf b e n 1))):=by
 rw [v7n];exact xlg b e n hb
theorem z8q (p:Int) (q:Nat) (hp:inI p) (hq:inI q) (hq0:q≠0):CallsD Γ prog 257 [.one (cI p),.one (cI q)] (.agg (fQ (Rat.divInt p q))):=by
 refine CallsD.run [] Go.Proofs.Tryz.func257 rfl rfl rfl ?_;simp only [Go.Proofs.Tryz.f257];refine hgR ?_
 repeat' ((first | refine hfk ?_ ?_<;>intros | refine hik ?_ | with_reducible first | refine v6l (s5Of p q hp hq hq0) ?_ | refine vgi (s5Of p q hp hq hq0) ?_)<;>refine hgS ?_)
 exact RLe.ofEq rfl
theorem vka (s:ByteArray):CallsD Γ prog 242 [.one (cS s)] (.tup [.agg (unO (symF s)),.one (cB (symF s).isSome)]):=by
 have i1:=wof (Γ:=Γ) 1 (by decide);have i2:=wof (Γ:=Γ) 1000000 (by decide);have i3:=wof (Γ:=Γ) 3600 (by decide);have i4:=wof (Γ:=Γ) 86400 (by decide);have i5:=wof (Γ:=Γ) 100 (by decide);have i6:CallsD Γ prog 257 [.one (cI 1),.one (cI 1000)] (.agg (fQ (Rat.divInt 1 1000))):=z8q 1 1000 (by decide) (by decide) (by decide);have h1:=zt7 (Γ:=Γ) 0 1 1 (by decide);have h2:=zt7 (Γ:=Γ) 0 1 1000000 (by decide);have h3:=zt7 (Γ:=Γ) 1 1 1 (by decide);have h4:CallsD Γ prog 256 [.one (cI 1),.one (cI 3),.agg (fQ (Rat.divInt 1 1000))] (.agg (unC (unOf 1 3 1 1000))):=xlg 1 3 _ (by decide);have h5:=zt7 (Γ:=Γ) 2 1 1 (by decide);have h6:=zt7 (Γ:=Γ) 2 1 3600 (by decide);have h7:=zt7 (Γ:=Γ) 2 1 86400 (by decide);have h8:=zt7 (Γ:=Γ) 3 1 1 (by decide);have h9:=zt7 (Γ:=Γ) 3 1 3600 (by decide);have h10:=zt7 (Γ:=Γ) 4 1 1 (by decide);have h11:=zt7 (Γ:=Γ) 4 1 100 (by decide);have h12:=zt7 (Γ:=Γ) 5 1 1 (by decide);refine CallsD.run [] Go.Proofs.Tryz.func242 rfl rfl rfl ?_;simp only [Go.Proofs.Tryz.f242];refine hgR ?_
 repeat' ((first | refine hfk ?_ ?_<;>intros | refine hik ?_ | with_reducible first | refine hcA ?_ | refine hcB ?_)<;>refine hgS ?_)
 all_goals (refine RLe.ofEq ?_;conv=>simp only [Bool.and_true,Bool.true_and,Bool.and_false,Bool.false_and,Bool.or_true,Bool.true_or,Bool.or_false,Bool.false_or,Bool.not_true,Bool.not_false,decide_true,decide_false,not_true_eq_false,not_false_eq_true,wgp,if_true,if_false,Bool.and_self,Bool.or_self,cond_true,cond_false,List.length_map,ne_eq,Int.reduceEq,Int.reduceLT,Int.reduceLE, *,symF,unO,Option.isSome]);first | exact trivial | rfl
def prQ (c:Int):Option Rat:=(preF c).map fun p=>Rat.divInt p.1 p.2
def frO:Option Rat->List Cell
 | some f=>fQ f
 | none=>[cI 0,.zc,cI 0,.zc]
theorem yoc (c:Int):CallsD Γ prog 243 [.one (c8 c)] (.tup [.agg (frO (prQ c)),.one (cB (preF c).isSome)]):=by
 have e:∀ n:Int,Rat.divInt n 1=(n:Rat):=fun n=>by rw [show (1:Int)=((1:Nat):Int) from rfl,Rat.divInt_ofNat,Rat.mkRat_one]
 have i1:=wof (Γ:=Γ) 1000 (by decide);have i2:=wof (Γ:=Γ) 1000000 (by decide);have i3:=wof (Γ:=Γ) 1000000000 (by decide);have i6:CallsD Γ prog 257 [.one (cI 1),.one (cI 1000)] (.agg (fQ (Rat.divInt 1 1000))):=z8q 1 1000 (by decide) (by decide) (by decide);refine CallsD.run [] Go.Proofs.Tryz.func243 rfl rfl rfl ?_;simp only [Go.Proofs.Tryz.f243];refine hgR ?_
 repeat' ((first | refine hfk ?_ ?_<;>intros | refine hik ?_ | with_reducible first | refine hcA ?_ | refine hcB ?_)<;>refine hgS ?_)
 all_goals (refine RLe.ofEq ?_;conv=>simp only [Bool.and_true,Bool.true_and,Bool.and_false,Bool.false_and,Bool.or_true,Bool.true_or,Bool.or_false,Bool.false_or,Bool.not_true,Bool.not_false,decide_true,decide_false,not_true_eq_false,not_false_eq_true,wgp,if_true,if_false,Bool.and_self,Bool.or_self,cond_true,cond_false,List.length_map,ne_eq,Int.reduceEq,Int.reduceLT,Int.reduceLE, *,prQ,preF,frO,Option.map_some,Option.map_none,Option.isSome,e]);first | exact trivial | rfl
theorem vcj (v:Option Rat) (h:qz v<=268435456):CallsD Γ prog 158 [.agg (qC v)] (.one (cB v.isSome)):=by
 have h:=toD (Γ:=Γ) (vwq (qF v) h)
 rw [show decide (qF v).ok=v.isSome by cases hv:v.isSome with
  | true=>exact decide_eq_true (yr3.2 hv)
  | false=>exact decide_eq_false (fun h=>by rw [yr3.1 h] at hv;cases hv)] at h
 exact h
theorem xy2 (f:Fc) (h:f.sz<=268435456):CallsD Γ prog 158 [.agg f.C] (.one (cB (decide f.ok))):=toD (vwq f h)
theorem pAdd (a b:Option Rat) (ha:qz a<=67108864) (hb:qz b<=67108864):CallsD Γ prog 247 [.agg (qC a),.agg (qC b)] (qR (addO a b) (erO a b)):=by
 cases a with
 | none=>
  have r1:CallsD Γ prog 158 [.agg (qC none)] (.one (cB false)):=vcj none (by omega);refine CallsD.run [] Go.Proofs.Tryz.func247 rfl rfl rfl ?_;simp only [Go.Proofs.Tryz.f247];refine hgR ?_
  repeat' ((first | refine hfk ?_ ?_<;>intros | refine hik ?_ | with_reducible first | refine hcA ?_ | refine hcB ?_)<;>refine hgS ?_)
  exact vmy
 | some x=>
  cases b with
  | none=>
   have r1:CallsD Γ prog 158 [.agg (qC (some x))] (.one (cB true)):=vcj (some x) (by omega);have r2:CallsD Γ prog 158 [.agg (qC none)] (.one (cB false)):=vcj none (by omega);refine CallsD.run [] Go.Proofs.Tryz.func247 rfl rfl rfl ?_;simp only [Go.Proofs.Tryz.f247];refine hgR ?_
   repeat' ((first | refine hfk ?_ ?_<;>intros | refine hik ?_ | with_reducible first | refine hcA ?_ | refine hcB ?_)<;>refine hgS ?_)
   exact vmy
  | some y=>exact toD (zd0 x y ha hb)
theorem pSub (a b:Option Rat) (ha:qz a<=67108864) (hb:qz b<=67108864):CallsD Γ prog 248 [.agg (qC a),.agg (qC b)] (qR (subO a b) (erO a b)):=by
 cases a with
 | none=>
  have r1:CallsD Γ prog 158 [.agg (qC none)] (.one (cB false)):=vcj none (by omega);refine CallsD.run [] Go.Proofs.Tryz.func248 rfl rfl rfl ?_;simp only [Go.Proofs.Tryz.f248];refine hgR ?_
  repeat' ((first | refine hfk ?_ ?_<;>intros | refine hik ?_ | with_reducible first | refine hcA ?_ | refine hcB ?_)<;>refine hgS ?_)
  exact vmy
 | some x=>
  cases b with
  | none=>
   have r1:CallsD Γ prog 158 [.agg (qC (some x))] (.one (cB true)):=vcj (some x) (by omega);have r2:CallsD Γ prog 158 [.agg (qC none)] (.one (cB false)):=vcj none (by omega);refine CallsD.run [] Go.Proofs.Tryz.func248 rfl rfl rfl ?_;simp only [Go.Proofs.Tryz.f248];refine hgR ?_
   repeat' ((first | refine hfk ?_ ?_<;>intros | refine hik ?_ | with_reducible first | refine hcA ?_ | refine hcB ?_)<;>refine hgS ?_)
   exact vmy
  | some y=>exact toD (x83 x y ha hb)
theorem pMul (a b:Option Rat) (ha:qz a<=67108864) (hb:qz b<=67108864):CallsD Γ prog 164 [.agg (qC a),.agg (qC b)] (qR (mulO a b) (erO a b)):=by
 cases a with
 | none=>
  have r1:CallsD Γ prog 158 [.agg (qC none)] (.one (cB false)):=vcj none (by omega);refine CallsD.run [] Go.Proofs.Tryz.func164 rfl rfl rfl ?_;simp only [Go.Proofs.Tryz.f164];refine hgR ?_
  repeat' ((first | refine hfk ?_ ?_<;>intros | refine hik ?_ | with_reducible first | refine hcA ?_ | refine hcB ?_)<;>refine hgS ?_)
  exact vmy
 | some x=>
  cases b with
  | none=>
   have r1:CallsD Γ prog 158 [.agg (qC (some x))] (.one (cB true)):=vcj (some x) (by omega);have r2:CallsD Γ prog 158 [.agg (qC none)] (.one (cB false)):=vcj none (by omega);refine CallsD.run [] Go.Proofs.Tryz.func164 rfl rfl rfl ?_;simp only [Go.Proofs.Tryz.f164];refine hgR ?_
   repeat' ((first | refine hfk ?_ ?_<;>intros | refine hik ?_ | with_reducible first | refine hcA ?_ | refine hcB ?_)<;>refine hgS ?_)
   exact vmy
  | some y=>exact toD (yej x y ha hb)
theorem pCmp (a b:Option Rat) (ha:qz a<=67108864) (hb:qz b<=67108864):CallsD Γ prog 159 [.agg (qC a),.agg (qC b)] (.one (cI (cmpO a b))):=by
 cases a with
 | none=>
  have r1:CallsD Γ prog 158 [.agg (qC none)] (.one (cB false)):=vcj none (by omega);refine CallsD.run [] Go.Proofs.Tryz.func159 rfl rfl rfl ?_;simp only [Go.Proofs.Tryz.f159];refine hgR ?_
  repeat' ((first | refine hfk ?_ ?_<;>intros | refine hik ?_ | with_reducible first | refine hcA ?_ | refine hcB ?_)<;>refine hgS ?_)
  exact RLe.ofEq rfl
 | some x=>
  cases b with
  | none=>
   have r1:CallsD Γ prog 158 [.agg (qC (some x))] (.one (cB true)):=vcj (some x) (by omega);have r2:CallsD Γ prog 158 [.agg (qC none)] (.one (cB false)):=vcj none (by omega);refine CallsD.run [] Go.Proofs.Tryz.func159 rfl rfl rfl ?_;simp only [Go.Proofs.Tryz.f159];refine hgR ?_
   repeat' ((first | refine hfk ?_ ?_<;>intros | refine hik ?_ | with_reducible first | refine hcA ?_ | refine hcB ?_)<;>refine hgS ?_)
   exact RLe.ofEq rfl
  | some y=>exact toD (xbv x y ha hb)
theorem pInt (n:Int) (hn:inI n):CallsD Γ prog 165 [.one (cI n)] (.agg (qC (some (n:Rat)))):=toD (yfw n hn)
theorem pMin (a b:Option Rat) (ha:qz a<=67108864) (hb:qz b<=67108864):CallsD Γ prog 219 [.agg (qC a),.agg (qC b)] (qR (minO a b) (erO a b)):=by
 have r3:=pCmp (Γ:=Γ) a b ha hb
 cases a with
 | none=>
  have r1:CallsD Γ prog 158 [.agg (qC none)] (.one (cB false)):=vcj none (by omega);refine CallsD.run [] Go.Proofs.Tryz.func219 rfl rfl rfl ?_;simp only [Go.Proofs.Tryz.f219];refine hgR ?_
  repeat' ((first | refine hfk ?_ ?_<;>intros | refine hik ?_ | with_reducible first | refine hcA ?_ | refine hcB ?_)<;>refine hgS ?_)
  exact vmy
 | some x=>
  have r1:CallsD Γ prog 158 [.agg (qC (some x))] (.one (cB true)):=vcj (some x) (by omega)
  cases b with
  | none=>
   have r2:CallsD Γ prog 158 [.agg (qC none)] (.one (cB false)):=vcj none (by omega);refine CallsD.run [] Go.Proofs.Tryz.func219 rfl rfl rfl ?_;simp only [Go.Proofs.Tryz.f219];refine hgR ?_
   repeat' ((first | refine hfk ?_ ?_<;>intros | refine hik ?_ | with_reducible first | refine hcA ?_ | refine hcB ?_)<;>refine hgS ?_)
   exact vmy
  | some y=>
   have r2:CallsD Γ prog 158 [.agg (qC (some y))] (.one (cB true)):=vcj (some y) (by omega)
   have e1:cmpO (some x) (some y)<=0->minO (some x) (some y)=some x:=fun h=>by
    show some (min x y)=some x;rw [Rat.min_def,if_pos]
    rcases Fc.ygb x y with ⟨q,e⟩ | ⟨q,e⟩ | ⟨q,e⟩
    . exact Rat.le_of_lt q
    . rw [q];exact Rat.le_refl
    . rw [show cmpO (some x) (some y)=Fc.ordQ x y from rfl,e] at h;exact absurd h (by decide)
   have e2:¬cmpO (some x) (some y)<=0->minO (some x) (some y)=some y:=fun h=>by
    show some (min x y)=some y;rw [Rat.min_def,if_neg];intro hle
    rcases Fc.ygb x y with ⟨q,e⟩ | ⟨q,e⟩ | ⟨q,e⟩
    . rw [show cmpO (some x) (some y)=Fc.ordQ x y from rfl,e] at h;exact absurd h (by decide)
    . rw [show cmpO (some x) (some y)=Fc.ordQ x y from rfl,e] at h;exact absurd h (by decide)
    . exact absurd q (Rat.not_lt.2 hle)
   generalize minO (some x) (some y)=m at e1 e2 ⊢;generalize cmpO (some x) (some y)=c at r3 e1 e2;refine CallsD.run [] Go.Proofs.Tryz.func219 rfl rfl rfl ?_;simp only [Go.Proofs.Tryz.f219];refine hgR ?_
   repeat' ((first | refine hfk ?_ ?_<;>intros | refine hik ?_ | with_reducible first | refine hcA ?_ | refine hcB ?_)<;>refine hgS ?_)
   all_goals exact RLe.ofEq rfl
theorem pMax (a b:Option Rat) (ha:qz a<=67108864) (hb:qz b<=67108864):CallsD Γ prog 218 [.agg (qC a),.agg (qC b)] (qR (maxO a b) (erO a b)):=by
 have r3:=pCmp (Γ:=Γ) a b ha hb
 cases a with
 | none=>
  have r1:CallsD Γ prog 158 [.agg (qC none)] (.one (cB false)):=vcj none (by omega);refine CallsD.run [] Go.Proofs.Tryz.func218 rfl rfl rfl ?_;simp only [Go.Proofs.Tryz.f218];refine hgR ?_
  repeat' ((first | refine hfk ?_ ?_<;>intros | refine hik ?_ | with_reducible first | refine hcA ?_ | refine hcB ?_)<;>refine hgS ?_)
  exact vmy
 | some x=>
  have r1:CallsD Γ prog 158 [.agg (qC (some x))] (.one (cB true)):=vcj (some x) (by omega)
  cases b with
  | none=>
   have r2:CallsD Γ prog 158 [.agg (qC none)] (.one (cB false)):=vcj none (by omega);refine CallsD.run [] Go.Proofs.Tryz.func218 rfl rfl rfl ?_;simp only [Go.Proofs.Tryz.f218];refine hgR ?_
   repeat' ((first | refine hfk ?_ ?_<;>intros | refine hik ?_ | with_reducible first | refine hcA ?_ | refine hcB ?_)<;>refine hgS ?_)
   exact vmy
  | some y=>
   have r2:CallsD Γ prog 158 [.agg (qC (some y))] (.one (cB true)):=vcj (some y) (by omega)
   have e1:0<=cmpO (some x) (some y)->maxO (some x) (some y)=some x:=fun h=>by
    show some (max x y)=some x;rw [Rat.max_def]
    rcases Fc.ygb x y with ⟨q,e⟩ | ⟨q,e⟩ | ⟨q,e⟩
    . rw [show cmpO (some x) (some y)=Fc.ordQ x y from rfl,e] at h;exact absurd h (by decide)
    . rw [q];split<;>rfl
    . rw [if_neg (Rat.not_le.2 q)]
   have e2:¬0<=cmpO (some x) (some y)->maxO (some x) (some y)=some y:=fun h=>by
    show some (max x y)=some y;rw [Rat.max_def]
    rcases Fc.ygb x y with ⟨q,e⟩ | ⟨q,e⟩ | ⟨q,e⟩
    . rw [if_pos (Rat.le_of_lt q)]
    . rw [show cmpO (some x) (some y)=Fc.ordQ x y from rfl,e] at h;exact absurd (by decide) h
    . rw [show cmpO (some x) (some y)=Fc.ordQ x y from rfl,e] at h;exact absurd (by decide) h
   generalize maxO (some x) (some y)=m at e1 e2 ⊢;generalize cmpO (some x) (some y)=c at r3 e1 e2;refine CallsD.run [] Go.Proofs.Tryz.func218 rfl rfl rfl ?_;simp only [Go.Proofs.Tryz.f218];refine hgR ?_
   repeat' ((first | refine hfk ?_ ?_<;>intros | refine hik ?_ | with_reducible first | refine hcA ?_ | refine hcB ?_)<;>refine hgS ?_)
   all_goals exact RLe.ofEq rfl
theorem yvv (z:Int) (d:Nat) (hz:okZ z) (hd:d≠0) (hl:(dig d).length<=268435456):CallsD Γ prog 212 [.agg (zC z),.agg (zC (-(d:Int)))] (.tup [.agg (Fc.of (mkRat (-z) d)).C,.one (cI 0)]):=by
 obtain ⟨p1,p2,p3⟩:=zr2 (-z) hd;have hden:=w2p (mkRat (-z) d);rw [p2] at hden
 have hden2:(mkRat (-z) d).den=((d:Int) / (Int.gcd (-z) d:Int)).natAbs:=by omega
 have hz':okZ (-z):=by unfold okZ at hz ⊢;rw [Int.natAbs_neg];exact hz
 have hln:okZ (-(d:Int)):=by unfold okZ;rw [Int.natAbs_neg];exact hl
 have hgl:okZ (Int.gcd (-z) d:Int):=by
  have:(Int.gcd (-z) d:Int).natAbs<=d:=by
   have:Int.gcd (-z) d ∣ d:=by have:=Int.gcd_dvd_natAbs_right (-z) d;simpa using this
   exact Nat.le_of_dvd (Nat.pos_of_ne_zero hd) this
  exact Nat.le_trans (wxv this) hl
 have h1:=toD (Γ:=Γ) (zh9 z hz);have h2:=toD (Γ:=Γ) (zh9 (-(d:Int)) hln);have h3:=toD (Γ:=Γ) (vm1 z hz);have h4:=toD (Γ:=Γ) (vm1 (-(d:Int)) hln);have hg:=toD (Γ:=Γ) (yig (-z) d hz' hl);have hd1:=toD (Γ:=Γ) (wbx (-z) (Int.gcd (-z) d:Int) hz' hgl p3);have hd2:=toD (Γ:=Γ) (wbx d (Int.gcd (-z) d:Int) hl hgl p3)
 have es:sg (-(d:Int)) = -1:=by have:=wzq (-(d:Int));omega
 rw [es] at h2 h4;rw [Int.neg_neg] at h4;rw [wwm hd] at hg hd2 h4;rw [hden] at hd2;rw [show ((d:Nat):Int).natAbs=d from rfl] at h4 hg hd2;rw [Int.natAbs_neg,show ((d:Nat):Int).natAbs=d from rfl] at h2 h4
 have hfin:(Fc.of (mkRat (-z) d)).C=[.raw (.int .i64 (sg (-z / (Int.gcd (-z) d:Int)))),.ints .i64 (dig (-z / (Int.gcd (-z) d:Int)).natAbs),.raw (.int .i64 1),.ints .i64 (dig ((d:Int) / (Int.gcd (-z) d:Int)).natAbs)]:=by
  rw [<-p1,<-hden2];rfl
 rw [hfin];unfold zC;rw [es,Int.natAbs_neg,show ((d:Nat):Int).natAbs=d from rfl];generalize (Int.gcd (-z) d:Int)=g at *;refine CallsD.run [] Go.Proofs.Tryz.func212 rfl rfl rfl ?_;simp only [Go.Proofs.Tryz.f212];refine hgR ?_
 repeat' ((first | refine hfk ?_ ?_<;>intros | refine hik ?_ | with_reducible first | refine hcA ?_ | refine hcB ?_ | refine v6l (hg) ?_ | refine vgi (hg) ?_)<;>refine hgS ?_)
 exact RLe.ofEq rfl
theorem xbz (z:Int) {m:Nat} (h:m≠0):Rat.divInt z (-(m:Int))=mkRat (-z) m:=by
 obtain ⟨k,rfl⟩:=Nat.exists_eq_succ_of_ne_zero h;show Rat.divInt z (Int.negSucc k)=_;unfold Rat.divInt;exact Rat.normalize_eq_mkRat _
theorem yfp (x y:Rat) (hy:y.num<0) (hx:qs x<=67108864) (hyl:qs y<=67108864):CallsD Γ prog 244 [.agg (fQ x),.agg (fQ y)] (.tup [.agg (fQ (x / y)),.one (cI 0)]):=by
 have lx:=szO hx;have ly:=szO hyl;have l1:=wm8 x.num y.den;have l4:=wm8 (x.den:Int) y.num
 have hsy:sg y.num≠0:=by have:=wzq y.num;omega
 have hD:okZ (x.den:Int):=by unfold okZ;have:=lx.2;simp only [Int.natAbs_natCast];omega
 have hDy:okZ (y.den:Int):=by unfold okZ;have:=ly.2;simp only [Int.natAbs_natCast];omega
 have t1:=y11 x.num y.den (by unfold okZ;omega) hDy;have t2:=y11 (x.den:Int) y.num hD (by unfold okZ;omega);rw [wwm y.den_nz] at t1;rw [wwm x.den_nz] at t2;simp only [Int.natAbs_natCast] at t1 t2
 obtain ⟨m,hm⟩:∃ m:Nat,(x.den:Int)*y.num = -(m:Int):=⟨((x.den:Int)*y.num).natAbs,by
  have:(x.den:Int)*y.num<=0:=Int.mul_nonpos_of_nonneg_of_nonpos (by omega) (by omega)
  omega⟩
 have hm0:m≠0:=by
  intro h0
  have:(x.den:Int)*y.num≠0:=Int.mul_ne_zero (by have:=x.den_nz;omega) (by omega)
  omega
 have hn:=yvv (Γ:=Γ) (x.num*y.den) m (by unfold okZ;simp only [Int.natAbs_natCast] at l1;omega) hm0 (by
  simp only [Int.natAbs_natCast] at l4;rw [hm] at l4;simp only [Int.natAbs_neg,Int.natAbs_natCast] at l4
  omega)
 rw [zgz,hm,xbz _ hm0];rw [hm] at t2;refine CallsD.run [] Go.Proofs.Tryz.func244 rfl rfl rfl ?_;simp only [Go.Proofs.Tryz.f244];refine hgR ?_
 repeat' ((first | refine hfk ?_ ?_<;>intros | refine hik ?_ | with_reducible first | refine hcA ?_ | refine hcB ?_ | refine v6l (v2g x (by omega)) ?_ | refine vgi (v2g x (by omega)) ?_ | refine v6l (v2g y (by omega)) ?_ | refine vgi (v2g y (by omega)) ?_ | refine v6l (toD t1) ?_ | refine vgi (toD t1) ?_ | refine v6l (toD t2) ?_ | refine vgi (toD t2) ?_)<;>refine hgS ?_)
 exact RLe.ofEq rfl
theorem pDiv (a b:Option Rat) (ha:qz a<=67108864) (hb:qz b<=67108864):CallsD Γ prog 244 [.agg (qC a),.agg (qC b)] (qR (divO a b) (divE a b)):=by
 cases a with
 | none=>
  have r1:CallsD Γ prog 158 [.agg (qC none)] (.one (cB false)):=vcj none (by omega);refine CallsD.run [] Go.Proofs.Tryz.func244 rfl rfl rfl ?_;simp only [Go.Proofs.Tryz.f244];refine hgR ?_
  repeat' ((first | refine hfk ?_ ?_<;>intros | refine hik ?_ | with_reducible first | refine hcA ?_ | refine hcB ?_)<;>refine hgS ?_)
  exact vmy
 | some x=>
  have r1:CallsD Γ prog 158 [.agg (qC (some x))] (.one (cB true)):=vcj (some x) (by omega)
  cases b with
  | none=>
   have r2:CallsD Γ prog 158 [.agg (qC none)] (.one (cB false)):=vcj none (by omega);refine CallsD.run [] Go.Proofs.Tryz.func244 rfl rfl rfl ?_;simp only [Go.Proofs.Tryz.f244];refine hgR ?_
   repeat' ((first | refine hfk ?_ ?_<;>intros | refine hik ?_ | with_reducible first | refine hcA ?_ | refine hcB ?_)<;>refine hgS ?_)
   exact vmy
  | some y=>
   by_cases hy:y=0
   . subst hy;have r2:CallsD Γ prog 158 [.agg (qC (some 0))] (.one (cB true)):=vcj (some 0) (by omega);have hs:(qF (some (0:Rat))).s=0:=rfl;have r2:CallsD Γ prog 158 [.agg [.raw (.int .i64 0),.ints .i64 (qF (some (0:Rat))).L,.raw (.int .i64 (qF (some (0:Rat))).t),.ints .i64 (qF (some (0:Rat))).M]] (.one (cB true)):=r2;refine CallsD.run [] Go.Proofs.Tryz.func244 rfl rfl rfl ?_;simp only [Go.Proofs.Tryz.f244];refine hgR ?_
     repeat' ((first | refine hfk ?_ ?_<;>intros | refine hik ?_ | with_reducible first | refine hcA ?_ | refine hcB ?_)<;>refine hgS ?_)
     exact vmy
   . rw [show divO (some x) (some y)=some (x / y) by simp only [divO,hy,decide_false,cond_false],show divE (some x) (some y)=0 by simp only [divE,hy,decide_false,cond_false]]
     have h0:y.num≠0:=fun h=>hy (Rat.num_eq_zero.1 h)
     rcases Int.lt_or_lt_of_ne h0 with h | h
     . exact yfp x y h ha hb
     . exact vwp x y h ha hb
abbrev fcC (f:Fc):List Cell:=[.raw (.int .i64 f.s),.ints .i64 f.L,.raw (.int .i64 f.t),.ints .i64 f.M]
theorem yuj (a b:Fc) (h1:a.ok) (h2:b.ok) (ha:a.sz<=67108864) (hb:b.sz<=67108864):CallsD Γ prog 159 [.agg (fcC a),.agg (fcC b)] (.one (cI (Fc.cmp a b))):=by
 obtain ⟨p,rfl⟩:=xp2 h1;obtain ⟨q,rfl⟩:=xp2 h2;rw [zyd];exact pCmp (some p) (some q) ha hb
theorem v4r (s:Sc) (h:s.sz<=67108864):CallsD Γ prog 106 [.agg (scC s)] (.one (cB (decide s.ok))):=by
 have ⟨h1,h2⟩:=Sc.zp5 h;have c1:CallsD Γ prog 158 [.agg (fcC s.low)] (.one (cB (decide s.low.ok))):=xy2 s.low (by omega);have c2:CallsD Γ prog 158 [.agg (fcC s.high)] (.one (cB (decide s.high.ok))):=xy2 s.high (by omega);by_cases k1:s.low.ok
 . rw [decide_eq_true k1] at c1;by_cases k2:s.high.ok
   . rw [decide_eq_true k2] at c2;have c3:=yuj (Γ:=Γ) s.low s.high k1 k2 h1 h2;rw [show decide s.ok=decide (Fc.cmp s.low s.high<=0) from decide_eq_decide.2 ⟨fun h=>h.2.2,fun h=>⟨k1,k2,h⟩⟩];clear h h1 h2;generalize Fc.cmp s.low s.high=z at c3 ⊢;refine CallsD.run [] Go.Proofs.Tryz.func106 rfl rfl rfl ?_;simp only [Go.Proofs.Tryz.f106];refine hgR ?_
     repeat' ((first | refine hfk ?_ ?_<;>intros | refine hik ?_ | with_reducible first | refine hcA ?_ | refine hcB ?_)<;>refine hgS ?_)
     all_goals exact RLe.ofEq rfl
   . rw [decide_eq_false k2] at c2;rw [decide_eq_false (fun h=>k2 h.2.1)];refine CallsD.run [] Go.Proofs.Tryz.func106 rfl rfl rfl ?_;simp only [Go.Proofs.Tryz.f106];refine hgR ?_
     repeat' ((first | refine hfk ?_ ?_<;>intros | refine hik ?_ | with_reducible first | refine hcA ?_ | refine hcB ?_)<;>refine hgS ?_)
     exact RLe.ofEq rfl
 . rw [decide_eq_false k1] at c1;rw [decide_eq_false (fun h=>k1 h.1)];refine CallsD.run [] Go.Proofs.Tryz.func106 rfl rfl rfl ?_;simp only [Go.Proofs.Tryz.f106];refine hgR ?_
   repeat' ((first | refine hfk ?_ ?_<;>intros | refine hik ?_ | with_reducible first | refine hcA ?_ | refine hcB ?_)<;>refine hgS ?_)
   exact RLe.ofEq rfl
theorem zxw (v:Iv) (h:ivZ v<=67108864):CallsD Γ prog 106 [.agg (ivC v)] (.one (cB true)):=by
 have:=v4r (Γ:=Γ) (ivS v) h
 rw [decide_eq_true (yxx v)] at this;exact this
theorem yhx (q:Rat) (h:qs q<=67108864):CallsD Γ prog 166 [.agg (qC (some q))] (.agg (ivC (Iv.pt q))):=by
 have c1:CallsD Γ prog 158 [.agg (qC (some q))] (.one (cB true)):=vcj (some q) (by show qs q<=_;omega);refine CallsD.run [] Go.Proofs.Tryz.func166 rfl rfl rfl ?_;simp only [Go.Proofs.Tryz.f166];refine hgR ?_
 repeat' ((first | refine hfk ?_ ?_<;>intros | refine hik ?_ | with_reducible first | refine hcA ?_ | refine hcB ?_)<;>refine hgS ?_)
 exact RLe.ofEq rfl
theorem xxu (v:Iv) (q:Rat) (h:ivZ v<=67108864) (hq:qs q<=67108864):CallsD Γ prog 169 [.agg (ivC v),.agg (qC (some q))] (.one (cB (v.has q))):=by
 have c0:=zxw (Γ:=Γ) v h;have c1:CallsD Γ prog 158 [.agg (qC (some q))] (.one (cB true)):=vcj (some q) (by show qs q<=_;omega);have c2:=pCmp (Γ:=Γ) (some v.lo) (some q) (zlo h) hq;have c3:=pCmp (Γ:=Γ) (some q) (some v.hi) hq (zhi h);have e1:decide (cmpO (some v.lo) (some q)<=0)=decide (v.lo<=q):=vjq;have e2:decide (cmpO (some q) (some v.hi)<=0)=decide (q<=v.hi):=vjq;unfold Iv.has;rw [<-e1,<-e2];clear e1 e2 h hq;generalize cmpO (some v.lo) (some q)=z1 at c2 ⊢;generalize cmpO (some q) (some v.hi)=z2 at c3 ⊢;refine CallsD.run [] Go.Proofs.Tryz.func169 rfl rfl rfl ?_;simp only [Go.Proofs.Tryz.f169];refine hgR ?_
 repeat' ((first | refine hfk ?_ ?_<;>intros | refine hik ?_ | with_reducible first | refine hcA ?_ | refine hcB ?_)<;>refine hgS ?_)
 all_goals refine lfE ?_;first | exact trivial | rfl
theorem wm0 (f:Fc):Fc.cmp f f=0:=by
 by_cases h:f.ok
 . obtain ⟨q,rfl⟩:=xp2 h;rw [zyd];show Fc.ordQ q q=0
   rcases Fc.ygb q q with ⟨h,e⟩ | ⟨h,e⟩ | ⟨h,e⟩
   . exact absurd h Rat.lt_irrefl
   . exact e
   . exact absurd h Rat.lt_irrefl
 . exact if_neg (fun h'=>h h'.1)
theorem y0u (fs:List Fc) (h0:0<fs.length) (hl:fs.length<=1048576) (hok:∀ i,i<fs.length->(fs.getD i Fc.zero).ok) (hs:∀ i,i<fs.length->(fs.getD i Fc.zero).sz<=67108864) :
 CallsD Γ prog 214 [.one (.sl 4 (fs.map Fc.C))] (.agg (scC (Sc.y7f fs))):=by
 have e0:Sc.y7f fs=⟨Sc.least (fs.getD 0 Fc.zero) fs,Sc.vdz (fs.getD 0 Fc.zero) fs⟩:=by
  cases fs with
  | nil=>simp at h0
  | cons f l=>
   show (⟨Sc.least f l,Sc.vdz f l⟩:Sc)=⟨Sc.least f (f::l),Sc.vdz f (f::l)⟩;rw [Sc.least,Sc.vdz,wm0];rfl
 rw [e0];generalize hR1:Sc.least (fs.getD 0 Fc.zero) fs=R1;generalize hR2:Sc.vdz (fs.getD 0 Fc.zero) fs=R2;refine CallsD.run [] Go.Proofs.Tryz.func214 rfl rfl rfl ?_;simp only [Go.Proofs.Tryz.f214];refine hgR ?_
 repeat' ((first | refine hfk ?_ ?_<;>intros | refine hik ?_)<;>refine hgS ?_)
 refine y55 [0,2,3] (fun p:Nat×Fc×Fc=>[(4,.one (.dat (cI p.1)))]) (fun p=>[.box (scZ.map .dat) (some 35),.box ((scC ⟨p.2.1,p.2.2⟩).map .dat) (some 35)])
  (fun p=>p.1<=fs.length/\(p.2.1.ok/\p.2.1.sz<=67108864)/\(p.2.2.ok/\p.2.2.sz<=67108864)/\R1=Sc.least p.2.1 (fs.drop p.1)/\R2=Sc.vdz p.2.2 (fs.drop p.1)) (fun p=>fs.length-p.1) (0,fs.getD 0 Fc.zero,fs.getD 0 Fc.zero) ⟨Nat.zero_le _,⟨hok 0 h0,hs 0 h0⟩,⟨hok 0 h0,hs 0 h0⟩,hR1.symm,hR2.symm⟩ ?_ ?_
 . refine hg ?_;exact StH.same svl rfl
 clear hR1 hR2;rintro ⟨i,m1,m2⟩ ⟨q1,q2,q3,q4,q5⟩;simp only at q1 q2 q3 q4 q5;refine hg ?_;refine vnx (fun hlt _=>?_) (fun hlt _=>?_)
 . have hlt':i<fs.length:=by omega
   have hx:=hok i hlt';have hxs:=hs i hlt';rw [drop_cons Fc.zero hlt'] at q4 q5;rw [Sc.least] at q4;rw [Sc.vdz] at q5;have c1:=yuj (Γ:=Γ) (fs.getD i Fc.zero) m1 hx q2.1 hxs q2.2;have c2:=yuj (Γ:=Γ) (fs.getD i Fc.zero) m2 hx q3.1 hxs q3.2
   have n1:Fc.cmp (fs.getD i Fc.zero) m1<0->R1=Sc.least (fs.getD i Fc.zero) (fs.drop (i+1)):=fun h=>by rw [q4,if_pos h]
   have n2:¬Fc.cmp (fs.getD i Fc.zero) m1<0->R1=Sc.least m1 (fs.drop (i+1)):=fun h=>by rw [q4,if_neg h]
   have n3:Fc.cmp (fs.getD i Fc.zero) m2 > 0->R2=Sc.vdz (fs.getD i Fc.zero) (fs.drop (i+1)):=fun h=>by rw [q5,if_pos h]
   have n4:¬Fc.cmp (fs.getD i Fc.zero) m2 > 0->R2=Sc.vdz m2 (fs.drop (i+1)):=fun h=>by rw [q5,if_neg h]
   clear q4 q5 hok hs;generalize Fc.cmp (fs.getD i Fc.zero) m1=z1 at c1 n1 n2;generalize Fc.cmp (fs.getD i Fc.zero) m2=z2 at c2 n3 n4;by_cases a1:z1<0
   . have n1:=n1 a1;clear n2;by_cases a2:z2 > 0
     . have n3:=n3 a2;clear n4;refine hg ?_
       repeat' ((first | refine hfk ?_ ?_<;>intros | refine hik ?_ | with_reducible first | refine hcA ?_ | refine hcB ?_)<;>refine hgS ?_)
       all_goals first
        | (exfalso;omega)
        | exact ⟨(i+1,fs.getD i Fc.zero,fs.getD i Fc.zero),⟨by dsimp only;omega,⟨hx,hxs⟩,⟨hx,hxs⟩,by first | exact n1 | rfl,by first | exact n3 | rfl⟩,by dsimp only;omega,StH.back [0,2,3,4] 0 0 2 rfl rfl rfl rfl rfl (by kernel_rfl) (StH.same svl rfl)⟩
     . have n4:=n4 a2;clear n3;refine hg ?_
       repeat' ((first | refine hfk ?_ ?_<;>intros | refine hik ?_ | with_reducible first | refine hcA ?_ | refine hcB ?_)<;>refine hgS ?_)
       all_goals first
        | (exfalso;omega)
        | exact ⟨(i+1,fs.getD i Fc.zero,m2),⟨by dsimp only;omega,⟨hx,hxs⟩,q3,by first | exact n1 | rfl,by first | exact n4 | rfl⟩,by dsimp only;omega,StH.back [0,2,3,4] 0 0 2 rfl rfl rfl rfl rfl (by kernel_rfl) (StH.same svl rfl)⟩
   . have n2:=n2 a1;clear n1;by_cases a2:z2 > 0
     . have n3:=n3 a2;clear n4;refine hg ?_
       repeat' ((first | refine hfk ?_ ?_<;>intros | refine hik ?_ | with_reducible first | refine hcA ?_ | refine hcB ?_)<;>refine hgS ?_)
       all_goals first
        | (exfalso;omega)
        | exact ⟨(i+1,m1,fs.getD i Fc.zero),⟨by dsimp only;omega,q2,⟨hx,hxs⟩,by first | exact n2 | rfl,by first | exact n3 | rfl⟩,by dsimp only;omega,StH.back [0,2,3,4] 0 0 2 rfl rfl rfl rfl rfl (by kernel_rfl) (StH.same svl rfl)⟩
     . have n4:=n4 a2;clear n3;refine hg ?_
       repeat' ((first | refine hfk ?_ ?_<;>intros | refine hik ?_ | with_reducible first | refine hcA ?_ | refine hcB ?_)<;>refine hgS ?_)
       all_goals first
        | (exfalso;omega)
        | exact ⟨(i+1,m1,m2),⟨by dsimp only;omega,q2,q3,by first | exact n2 | rfl,by first | exact n4 | rfl⟩,by dsimp only;omega,StH.back [0,2,3,4] 0 0 2 rfl rfl rfl rfl rfl (by kernel_rfl) (StH.same svl rfl)⟩
 . have e:i=fs.length:=by omega
   subst e;rw [List.drop_eq_nil_of_le (Nat.le_refl _),Sc.least] at q4;rw [List.drop_eq_nil_of_le (Nat.le_refl _),Sc.vdz] at q5;subst q4 q5;refine hg ?_;exact RLe.ofEq rfl
theorem ww6 (a b c d:Rat) (h1:qs a<=67108864) (h2:qs b<=67108864) (h3:qs c<=67108864) (h4:qs d<=67108864) :
 CallsD Γ prog 214 [.one (.sl 4 [qC (some a),qC (some b),qC (some c),qC (some d)])] (.agg (ivC (Iv.round a b c d))):=by
 have h:=y0u (Γ:=Γ) [qF (some a),qF (some b),qF (some c),qF (some d)] (by simp) (by simp) (fun i hi=>by
  match i,hi with
  | 0,_=>exact Fc.zav _
  | 1,_=>exact Fc.zav _
  | 2,_=>exact Fc.zav _
  | 3,_=>exact Fc.zav _) (fun i hi=>by
  match i,hi with
  | 0,_=>exact h1
  | 1,_=>exact h2
  | 2,_=>exact h3
  | 3,_=>exact h4)
 rw [show Sc.y7f [qF (some a),qF (some b),qF (some c),qF (some d)]=_ from ww1 a b c d] at h;exact h
theorem vax (x y:Rat) (hx:qs x<=67108864) (hy:qs y<=67108864):CallsD Γ prog 217 [.one (cI 0),.agg (qC (some x)),.agg (qC (some y))] (qR (some (x+y)) 0):=by
 have c:CallsD Γ prog _ _ (qR (some (x+y)) 0):=pAdd (some x) (some y) hx hy;refine CallsD.run [] Go.Proofs.Tryz.func217 rfl rfl rfl ?_;simp only [Go.Proofs.Tryz.f217];refine hgR ?_
 repeat' ((first | refine hfk ?_ ?_<;>intros | refine hik ?_ | with_reducible first | refine hcA ?_ | refine hcB ?_)<;>refine hgS ?_)
 exact RLe.ofEq rfl
theorem wiz (x y:Rat) (hx:qs x<=67108864) (hy:qs y<=67108864):CallsD Γ prog 217 [.one (cI 1),.agg (qC (some x)),.agg (qC (some y))] (qR (some (x-y)) 0):=by
 have c:CallsD Γ prog _ _ (qR (some (x-y)) 0):=pSub (some x) (some y) hx hy;refine CallsD.run [] Go.Proofs.Tryz.func217 rfl rfl rfl ?_;simp only [Go.Proofs.Tryz.f217];refine hgR ?_
 repeat' ((first | refine hfk ?_ ?_<;>intros | refine hik ?_ | with_reducible first | refine hcA ?_ | refine hcB ?_)<;>refine hgS ?_)
 exact RLe.ofEq rfl
theorem zz7 (x y:Rat) (hx:qs x<=67108864) (hy:qs y<=67108864):CallsD Γ prog 217 [.one (cI 2),.agg (qC (some x)),.agg (qC (some y))] (qR (some (x*y)) 0):=by
 have c:CallsD Γ prog _ _ (qR (some (x*y)) 0):=pMul (some x) (some y) hx hy;refine CallsD.run [] Go.Proofs.Tryz.func217 rfl rfl rfl ?_;simp only [Go.Proofs.Tryz.f217];refine hgR ?_
 repeat' ((first | refine hfk ?_ ?_<;>intros | refine hik ?_ | with_reducible first | refine hcA ?_ | refine hcB ?_)<;>refine hgS ?_)
 exact RLe.ofEq rfl
theorem x0s (x y:Rat) (h0:y≠0) (hx:qs x<=67108864) (hy:qs y<=67108864):CallsD Γ prog 217 [.one (cI 3),.agg (qC (some x)),.agg (qC (some y))] (qR (some (x / y)) 0):=by
 have c:=pDiv (Γ:=Γ) (some x) (some y) hx hy;rw [show divO (some x) (some y)=some (x / y) by unfold divO;simp only [decide_eq_false h0,cond_false],show divE (some x) (some y)=0 by unfold divE;simp only [decide_eq_false h0,cond_false]] at c;refine CallsD.run [] Go.Proofs.Tryz.func217 rfl rfl rfl ?_;simp only [Go.Proofs.Tryz.f217];refine hgR ?_
 repeat' ((first | refine hfk ?_ ?_<;>intros | refine hik ?_ | with_reducible first | refine hcA ?_ | refine hcB ?_)<;>refine hgS ?_)
 exact RLe.ofEq rfl
theorem v7t (x y:Rat) (hx:qs x<=67108864) (hy:qs y<=67108864):CallsD Γ prog 217 [.one (cI 4),.agg (qC (some x)),.agg (qC (some y))] (qR (some (min x y)) 0):=by
 have c:CallsD Γ prog _ _ (qR (some (min x y)) 0):=pMin (some x) (some y) hx hy;refine CallsD.run [] Go.Proofs.Tryz.func217 rfl rfl rfl ?_;simp only [Go.Proofs.Tryz.f217];refine hgR ?_
 repeat' ((first | refine hfk ?_ ?_<;>intros | refine hik ?_ | with_reducible first | refine hcA ?_ | refine hcB ?_)<;>refine hgS ?_)
 exact RLe.ofEq rfl
theorem z3c (x y:Rat) (hx:qs x<=67108864) (hy:qs y<=67108864):CallsD Γ prog 217 [.one (cI 5),.agg (qC (some x)),.agg (qC (some y))] (qR (some (max x y)) 0):=by
 have c:CallsD Γ prog _ _ (qR (some (max x y)) 0):=pMax (some x) (some y) hx hy;refine CallsD.run [] Go.Proofs.Tryz.func217 rfl rfl rfl ?_;simp only [Go.Proofs.Tryz.f217];refine hgR ?_
 repeat' ((first | refine hfk ?_ ?_<;>intros | refine hik ?_ | with_reducible first | refine hcA ?_ | refine hcB ?_)<;>refine hgS ?_)
 exact RLe.ofEq rfl
theorem vz4 (o:Int) (g:Rat->Rat->Rat) (a b:Iv) (ha:ivZ a<=67108864) (hb:ivZ b<=67108864) (h3:o=3->b.has 0=false)
 (hop:∀ x y,(x=a.lo\/x=a.hi)->(y=b.lo\/y=b.hi)->CallsD Γ prog 217 [.one (cI o),.agg (qC (some x)),.agg (qC (some y))] (qR (some (g x y)) 0)) (hz:∀ x y,(x=a.lo\/x=a.hi)->(y=b.lo\/y=b.hi)->qs (g x y)<=67108864) :
 CallsD Γ prog 170 [.one (cI o),.agg (ivC a),.agg (ivC b)] (ivR (ywp g a b)):=by
 have c1:=zxw (Γ:=Γ) a ha;have c2:=zxw (Γ:=Γ) b hb;have c3:=pInt (Γ:=Γ) 0 (by decide);have c4:=xxu (Γ:=Γ) b ((0:Int):Rat) hb vr2;have h3:o=3->b.has ((0:Int):Rat)=false:=h3;have o1:=hop a.lo b.lo (.inl rfl) (.inl rfl);have o2:=hop a.hi b.lo (.inr rfl) (.inl rfl);have o3:=hop a.lo b.hi (.inl rfl) (.inr rfl);have o4:=hop a.hi b.hi (.inr rfl) (.inr rfl);have c5:=ww6 (Γ:=Γ) (g a.lo b.lo) (g a.hi b.lo) (g a.lo b.hi) (g a.hi b.hi) (hz _ _ (.inl rfl) (.inl rfl)) (hz _ _ (.inr rfl) (.inl rfl)) (hz _ _ (.inl rfl) (.inr rfl)) (hz _ _ (.inr rfl) (.inr rfl));clear hop hz ha hb;generalize hL:[qF (some (g a.lo b.lo)),qF (some (g a.hi b.lo)),qF (some (g a.lo b.hi)),qF (some (g a.hi b.hi))]=L
 have a01:iand .i64 0 1=0:=by kernel_rfl
 have a11:iand .i64 1 1=1:=by kernel_rfl
 have a21:iand .i64 2 1=0:=by kernel_rfl
 have a31:iand .i64 3 1=1:=by kernel_rfl
 have a02:iand .i64 0 2=0:=by kernel_rfl
 have a12:iand .i64 1 2=0:=by kernel_rfl
 have a22:iand .i64 2 2=2:=by kernel_rfl
 have a32:iand .i64 3 2=2:=by kernel_rfl
 refine CallsD.run [] Go.Proofs.Tryz.func170 rfl rfl rfl ?_;simp only [Go.Proofs.Tryz.f170];refine hgR ?_;by_cases e:o=3
 all_goals
  first
   | rw [h3 e] at c4
   | clear c3 c4
  clear h3
  try subst e
  repeat' ((first | refine hfk ?_ ?_<;>intros | refine hik ?_ | with_reducible first | refine hcA ?_ | refine hcB ?_)<;>refine hgS ?_)
 all_goals try (exfalso;omega)
 all_goals
  refine y55 [0,4,5,6,7] (fun n:Nat=>[(8,.one (.sl 3 4 0 n)),(9,.one (.dat (cI n)))]) (fun n=>[.box ((ivC a).map .dat) (some 35),.box ((ivC b).map .dat) (some 35),.box (scZ.map .dat) (some 35),.arr (.sl 4 ((L.take n).map Fc.C)) 0 (some 33)])
   (fun n=>n<=4) (fun n=>4-n) 0 (by omega) ?_ ?_
  . refine hg ?_;refine StH.trans (StH.empty (d:=8) (es:=4) (c:=.sl 4 []) (T:=some 33) rfl rfl (fun r hr=>by cases hr) rfl) ?_;refine hg ?_;exact StH.same svl rfl
  intro n hn;subst hL
  rcases (show n=0\/n=1\/n=2\/n=3\/n=4 by omega) with rfl | rfl | rfl | rfl | rfl
  . refine hg2 @a01 @a02 ?_
    repeat' ((first | refine hfk ?_ ?_<;>intros | refine hik ?_ | with_reducible first | refine hcA ?_ | refine hcB ?_)<;>refine hgS ?_)
    exact ⟨1,by omega,by omega,StH.back [0,4,5,6,7,8,9] 3 7 4 rfl rfl rfl rfl rfl (by kernel_rfl) (StH.same svl rfl)⟩
  . refine hg2 @a11 @a12 ?_
    repeat' ((first | refine hfk ?_ ?_<;>intros | refine hik ?_ | with_reducible first | refine hcA ?_ | refine hcB ?_)<;>refine hgS ?_)
    exact ⟨2,by omega,by omega,StH.back [0,4,5,6,7,8,9] 3 7 4 rfl rfl rfl rfl rfl (by kernel_rfl) (StH.same svl rfl)⟩
  . refine hg2 @a21 @a22 ?_
    repeat' ((first | refine hfk ?_ ?_<;>intros | refine hik ?_ | with_reducible first | refine hcA ?_ | refine hcB ?_)<;>refine hgS ?_)
    exact ⟨3,by omega,by omega,StH.back [0,4,5,6,7,8,9] 3 7 4 rfl rfl rfl rfl rfl (by kernel_rfl) (StH.same svl rfl)⟩
  . refine hg2 @a31 @a32 ?_
    repeat' ((first | refine hfk ?_ ?_<;>intros | refine hik ?_ | with_reducible first | refine hcA ?_ | refine hcB ?_)<;>refine hgS ?_)
    exact ⟨4,by omega,by omega,StH.back [0,4,5,6,7,8,9] 3 7 4 rfl rfl rfl rfl rfl (by kernel_rfl) (StH.same svl rfl)⟩
  . refine hg ?_
    repeat' ((first | refine hfk ?_ ?_<;>intros | refine hik ?_ | with_reducible first | refine hcA ?_ | refine hcB ?_)<;>refine hgS ?_)
    all_goals first
     | exact RLe.ofEq rfl
     | (exfalso;omega)
theorem vdo (a b:Iv) (ha:ivZ a<=67108864) (hb:ivZ b<=67108864) (h:b.has 0=true) :
 CallsD Γ prog 170 [.one (cI 3),.agg (ivC a),.agg (ivC b)] (.tup [.agg (scC Sc.zero),.one (cI 15)]):=by
 have c1:=zxw (Γ:=Γ) a ha;have c2:=zxw (Γ:=Γ) b hb;have c3:=pInt (Γ:=Γ) 0 (by decide);have c4:=xxu (Γ:=Γ) b ((0:Int):Rat) hb vr2;rw [show b.has ((0:Int):Rat)=true from h] at c4;refine CallsD.run [] Go.Proofs.Tryz.func170 rfl rfl rfl ?_;simp only [Go.Proofs.Tryz.f170];refine hgR ?_
 repeat' ((first | refine hfk ?_ ?_<;>intros | refine hik ?_ | with_reducible first | refine hcA ?_ | refine hcB ?_)<;>refine hgS ?_)
 exact vr3
theorem y1v (a b:Iv) (ha:ivZ a<=67108864) (hb:ivZ b<=67108864):CallsD Γ prog 167 [.agg (ivC a),.agg (ivC b)] (ivR (a.hull b)):=by
 have c1:=zxw (Γ:=Γ) a ha;have c2:=zxw (Γ:=Γ) b hb;have c5:=ww6 (Γ:=Γ) a.lo a.hi b.lo b.hi (zlo ha) (zhi ha) (zlo hb) (zhi hb);refine CallsD.run [] Go.Proofs.Tryz.func167 rfl rfl rfl ?_;simp only [Go.Proofs.Tryz.f167];refine hgR ?_
 repeat' ((first | refine hfk ?_ ?_<;>intros | refine hik ?_ | with_reducible first | refine hcA ?_ | refine hcB ?_)<;>refine hgS ?_)
 exact RLe.ofEq rfl
theorem wvw (a b:Iv) (ha:ivZ a<=67108864) (hb:ivZ b<=67108864):CallsD Γ prog 171 [.agg (ivC a),.agg (ivC b)] (.tup [.agg (scC (ivO (a.meet b))),.one (cB (a.meets b))]):=by
 have h1:=zxw (Γ:=Γ) a ha;have h2:=zxw (Γ:=Γ) b hb;have h3:CallsD Γ prog _ _ (qR (some (max a.lo b.lo)) 0):=pMax (some a.lo) (some b.lo) (zlo ha) (zlo hb);have h4:CallsD Γ prog _ _ (qR (some (min a.hi b.hi)) 0):=pMin (some a.hi) (some b.hi) (zhi ha) (zhi hb)
 have hs1:qs (max a.lo b.lo)<=67108864:=by rcases yqy a.lo b.lo with e | e<;>rw [e]<;>first | exact zlo ha | exact zlo hb
 have hs2:qs (min a.hi b.hi)<=67108864:=by rcases vdp a.hi b.hi with e | e<;>rw [e]<;>first | exact zhi ha | exact zhi hb
 have h5:=pCmp (Γ:=Γ) (some (max a.lo b.lo)) (some (min a.hi b.hi)) hs1 hs2;have e:=@vjq (max a.lo b.lo) (min a.hi b.hi);by_cases hle:max a.lo b.lo<=min a.hi b.hi
 . rw [decide_eq_true hle] at e;have e:=of_decide_eq_true e;have e:cmpO (some (max a.lo b.lo)) (some (min a.hi b.hi))<=0:=e;rw [show a.meet b=some ⟨_,_,hle⟩ from dif_pos hle,show a.meets b=true from decide_eq_true hle];generalize cmpO (some (max a.lo b.lo)) (some (min a.hi b.hi))=c at h5 e;refine CallsD.run [] Go.Proofs.Tryz.func171 rfl rfl rfl ?_;simp only [Go.Proofs.Tryz.f171];refine hgR ?_
   repeat' ((first | refine hfk ?_ ?_<;>intros | refine hik ?_ | with_reducible first | refine hcA ?_ | refine hcB ?_)<;>refine hgS ?_)
   all_goals first
    | (exfalso;omega)
    | exact RLe.ofEq rfl
 . rw [decide_eq_false hle] at e;have e:=of_decide_eq_false e;have e:¬cmpO (some (max a.lo b.lo)) (some (min a.hi b.hi))<=0:=e;rw [show a.meet b=none from dif_neg hle,show a.meets b=false from decide_eq_false hle];generalize cmpO (some (max a.lo b.lo)) (some (min a.hi b.hi))=c at h5 e;refine CallsD.run [] Go.Proofs.Tryz.func171 rfl rfl rfl ?_;simp only [Go.Proofs.Tryz.f171];refine hgR ?_
   repeat' ((first | refine hfk ?_ ?_<;>intros | refine hik ?_ | with_reducible first | refine hcA ?_ | refine hcB ?_)<;>refine hgS ?_)
   all_goals first
    | (exfalso;omega)
    | exact wyz
abbrev krZ (t c d:Bool):List Cell:=[cB t,cB c,cB d,cI 0,.zc,cI 0,.zc,cI 0,.zc,cI 0,.zc]
theorem w8s (c d:Bool):AV.Le (.agg (krZ true c d)) (.agg (knC (.tru c d))):=
 .agg (.cons (.refl _) (.cons (.refl _) (.cons (.refl _) (.cons (.refl _) (.cons (.ysc _) (.cons (.refl _) (.cons (.ysc _) (.cons (.refl _) (.cons (.ysc _) (.cons (.refl _) (.cons (.ysc _) .nil)))))))))))
theorem xp8 (e:Int):RLe (.tup [.agg (krZ false false false),.one (cI e)]) (krR (.inl e)):=
 .tup (.cons (.agg (.cons (.refl _) (.cons (.refl _) (.cons (.refl _) (.cons (.refl _) (.cons (.ysc _) (.cons (.refl _) (.cons (.ysc _) (.cons (.refl _) (.cons (.ysc _) (.cons (.refl _) (.cons (.ysc _) .nil)))))))))))) (.cons (.refl _) .nil))
theorem vu1 {c d:Bool} {r:Kr} (h:r=.inr (.tru c d)):RLe (.tup [.agg (krZ true c d),.one (cI 0)]) (krR r):=by
 subst h;exact .tup (.cons (w8s c d) (.cons (.refl _) .nil))
theorem ve7:∀ x:Ex,x.Sm->CallsD Γ prog 59 [.agg (exC x)] (.one (cB x.xi4)):=by
 refine Ex.ind (fun x ih hx=>?_);have hl:=hx.len;have hR:=Ex.wd9 x;generalize x.xi4=R at hR;refine CallsD.run [] Go.Proofs.Tryz.func59 rfl rfl rfl ?_;simp only [Go.Proofs.Tryz.f59];refine hgR ?_;refine y55 [1,2,6,7] (fun n:Nat=>[(8,.one (.dat (cI n)))]) (fun _=>[.box ((exC x).map .dat) (some 24)]) (fun n=>n<=x.args.length/\∀ j,j<n->(x.args.getD j default).xi4=false) (fun n=>x.args.length-n) 0 ⟨Nat.zero_le _,fun j hj=>by omega⟩ ?_ ?_
 . refine hg ?_;exact StH.same svl rfl
 intro n hn;obtain ⟨hn,hj⟩:=hn;refine hg ?_;refine vnx (fun hlt _=>?_) (fun hlt _=>?_)
 . have hlt':n<x.args.length:=by omega
   have hc:=ih _ (w4t hlt') (hx.arg _ (w4t hlt'))
   have hyes:(x.args.getD n default).xi4=true->x.args.any Ex.xi4=true:=fun h=>List.any_eq_true.2 ⟨_,w4t hlt',h⟩
   have hnext:(x.args.getD n default).xi4=false->∀ j,j<n+1->(x.args.getD j default).xi4=false:=fun h j hj2=>by
    rcases Nat.lt_or_ge j n with h3 | h3
    . exact hj j h3
    . rw [show j=n by omega];exact h
   clear ih hj;generalize (x.args.getD n default).xi4=b at hc hyes hnext;refine hg ?_
   repeat' ((first | refine hfk ?_ ?_<;>intros | refine hik ?_ | with_reducible first | refine hcA ?_ | refine hcB ?_)<;>refine hgS ?_)
   all_goals first
    | (rw [Bool.or_true];exact RLe.ofEq rfl)
    | exact RLe.ofEq (by rw [hR,hyes (by assumption),Bool.or_true])
    | exact ⟨n+1,⟨by omega,hnext (by assumption)⟩,by omega,StH.back [1,2,6,7,8] 0 0 1 rfl rfl rfl rfl rfl (by kernel_rfl) (StH.same svl rfl)⟩
 . have e:n=x.args.length:=by omega
   subst e
   have ha:x.args.any Ex.xi4=false:=by
    rw [List.any_eq_false];intro y hy;obtain ⟨j,hj',rfl⟩:=List.getElem_of_mem hy
    have:=hj j hj'
    rw [show x.args.getD j default=x.args[j] from by simp [hj']] at this;simp [this]
   refine hg ?_;exact RLe.ofEq (by rw [hR,ha,Bool.or_false])
theorem x82 (o:Int) (ks:List Kn) (ho:ze4 o=true) (c d c' d':Bool) (hl0:1<=ks.length) (hl1:o≠4->2<=ks.length) (hl:ks.length<=1073741824) (h0:ks.getD 0 default=.tru c d) (h1:o≠4->ks.getD 1 default=.tru c' d') :
 CallsD Γ prog 101 [.one (cI o),.one (.sl 11 (ks.map Kn.C))] (.agg (knC (truH o (.tru c d) (.tru c' d')))):=by
 unfold truH
 rcases v6i.1 ho with rfl | rfl | rfl
 . refine CallsD.run [] Go.Proofs.Tryz.func101 rfl rfl rfl ?_;simp only [Go.Proofs.Tryz.f101];refine hgR ?_;refine hg1 @h0 ?_
   repeat' ((first | refine hfk ?_ ?_<;>intros | refine hik ?_)<;>refine hgS ?_)
   exact RLe.ofEq rfl
 . have h1:=h1 (by decide);have hl1:=hl1 (by decide);refine CallsD.run [] Go.Proofs.Tryz.func101 rfl rfl rfl ?_;simp only [Go.Proofs.Tryz.f101];refine hgR ?_;refine hg2 @h0 @h1 ?_
   repeat' ((first | refine hfk ?_ ?_<;>intros | refine hik ?_)<;>refine hgS ?_)
   all_goals refine lfE ?_;first | exact trivial | rfl
 . have h1:=h1 (by decide);have hl1:=hl1 (by decide);refine CallsD.run [] Go.Proofs.Tryz.func101 rfl rfl rfl ?_;simp only [Go.Proofs.Tryz.f101];refine hgR ?_;refine hg2 @h0 @h1 ?_
   repeat' ((first | refine hfk ?_ ?_<;>intros | refine hik ?_)<;>refine hgS ?_)
   all_goals refine lfE ?_;first | exact trivial | rfl
theorem z7a {x y:Rat}:decide (0<=Fc.ordQ x y)=decide (y<=x):=by
 have:=@vn7 x y
 rw [show decide (0<=Fc.ordQ x y) = !decide (Fc.ordQ x y<0) by rw [<-decide_not];exact decide_eq_decide.2 (by omega),this,<-decide_not];exact decide_eq_decide.2 Rat.not_lt
theorem zb8 (o:Int) (ho:6<=o/\o<=13) (a b:Iv) (ha:ivZ a<=33554400) (hb:ivZ b<=33554400):CallsD Γ prog 103 [.one (cI o),.agg (ivC a),.agg (ivC b)] (krR (numH o a b)):=by
 have c1:=iAdd (Γ:=Γ) a b (by omega) (by omega);have c2:=iSub (Γ:=Γ) a b (by omega) (by omega);have c3:=iMul (Γ:=Γ) a b (by omega) (by omega);have c4:=iMin (Γ:=Γ) a b (by omega) (by omega);have c5:=iMax (Γ:=Γ) a b (by omega) (by omega);have c6:=oCmp (Γ:=Γ) (some a.lo) (some b.hi) (zlo ha) (zhi hb);have c7:=oCmp (Γ:=Γ) (some a.hi) (some b.lo) (zhi ha) (zlo hb);have c8:=v1d (Γ:=Γ) a b (by omega) (by omega);have c9:=ws1 (Γ:=Γ) a b (by omega) (by omega);have c10:=z9e (Γ:=Γ) (some a.lo) (some a.hi) (zlo ha) (zhi ha);unfold numH
 have:o=6\/o=7\/o=8\/o=9\/o=10\/o=11\/o=12\/o=13:=by omega
 rcases this with rfl | rfl | rfl | rfl | rfl | rfl | rfl | rfl<;>simp only [Int.reduceEq,decide_true,decide_false,cond_true,cond_false]
 . refine CallsD.run [] Go.Proofs.Tryz.func103 rfl rfl rfl ?_;simp only [Go.Proofs.Tryz.f103];refine hgR ?_
   repeat' ((first | refine hfk ?_ ?_<;>intros | refine hik ?_ | with_reducible first | refine hcA ?_ | refine hcB ?_)<;>refine hgS ?_)
   exact RLe.ofEq rfl
 . refine CallsD.run [] Go.Proofs.Tryz.func103 rfl rfl rfl ?_;simp only [Go.Proofs.Tryz.f103];refine hgR ?_
   repeat' ((first | refine hfk ?_ ?_<;>intros | refine hik ?_ | with_reducible first | refine hcA ?_ | refine hcB ?_)<;>refine hgS ?_)
   exact RLe.ofEq rfl
 . refine CallsD.run [] Go.Proofs.Tryz.func103 rfl rfl rfl ?_;simp only [Go.Proofs.Tryz.f103];refine hgR ?_
   repeat' ((first | refine hfk ?_ ?_<;>intros | refine hik ?_ | with_reducible first | refine hcA ?_ | refine hcB ?_)<;>refine hgS ?_)
   exact RLe.ofEq rfl
 . cases h0:b.has 0 with
   | true=>
    have d1:=vfo (Γ:=Γ) a b h0 (by omega) (by omega);refine CallsD.run [] Go.Proofs.Tryz.func103 rfl rfl rfl ?_;simp only [Go.Proofs.Tryz.f103];refine hgR ?_
    repeat' ((first | refine hfk ?_ ?_<;>intros | refine hik ?_ | with_reducible first | refine hcA ?_ | refine hcB ?_)<;>refine hgS ?_)
    exact RLe.ofEq rfl
   | false=>
    have d1:=yol (Γ:=Γ) a b h0 (by omega) (by omega);refine CallsD.run [] Go.Proofs.Tryz.func103 rfl rfl rfl ?_;simp only [Go.Proofs.Tryz.f103];refine hgR ?_
    repeat' ((first | refine hfk ?_ ?_<;>intros | refine hik ?_ | with_reducible first | refine hcA ?_ | refine hcB ?_)<;>refine hgS ?_)
    exact RLe.ofEq rfl
 . refine CallsD.run [] Go.Proofs.Tryz.func103 rfl rfl rfl ?_;simp only [Go.Proofs.Tryz.f103];refine hgR ?_
   repeat' ((first | refine hfk ?_ ?_<;>intros | refine hik ?_ | with_reducible first | refine hcA ?_ | refine hcB ?_)<;>refine hgS ?_)
   exact RLe.ofEq rfl
 . refine CallsD.run [] Go.Proofs.Tryz.func103 rfl rfl rfl ?_;simp only [Go.Proofs.Tryz.f103];refine hgR ?_
   repeat' ((first | refine hfk ?_ ?_<;>intros | refine hik ?_ | with_reducible first | refine hcA ?_ | refine hcB ?_)<;>refine hgS ?_)
   exact RLe.ofEq rfl
 . have e1:decide (cmpO (some a.lo) (some b.hi)<0)=decide (a.lo<b.hi):=vn7;have e2:decide (0<=cmpO (some a.hi) (some b.lo))=decide (b.lo<=a.hi):=z7a;rw [<-e1,<-e2];clear e1 e2;refine CallsD.run [] Go.Proofs.Tryz.func103 rfl rfl rfl ?_;simp only [Go.Proofs.Tryz.f103];refine hgR ?_
   repeat' ((first | refine hfk ?_ ?_<;>intros | refine hik ?_ | with_reducible first | refine hcA ?_ | refine hcB ?_)<;>refine hgS ?_)
   exact vu1 rfl
 . rw [show decide (a.lo=a.hi)=decide (some a.lo=some a.hi) from decide_eq_decide.2 ⟨fun h=>by rw [h],fun h=>Option.some.inj h⟩];generalize decide (a=b)=p at c9 ⊢;generalize decide (some a.lo=some a.hi)=q at c10 ⊢;refine CallsD.run [] Go.Proofs.Tryz.func103 rfl rfl rfl ?_;simp only [Go.Proofs.Tryz.f103];refine hgR ?_
   repeat' ((first | refine hfk ?_ ?_<;>intros | refine hik ?_ | with_reducible first | refine hcA ?_ | refine hcB ?_)<;>refine hgS ?_)
   all_goals exact vu1 (by (refine bsE ?_;try exact trivial))
theorem vcn (t:Tb) (k:Iv) (hk:ivZ k<=67108864) (ht:tbOk t=true) (hs:t.Sm):CallsD Γ prog 102 [.agg (tbC t),.agg (ivC k)] (krR (x7a t k)):=by
 have hl:=hs.r;have hrows:=(yun ht).2.2.2
 have L:∀ q,qs q<=67108864->CallsD Γ prog 137 [.agg (tbC t),.agg (qC (some q))] (qR (wyo t (some q)).1 (wyo t (some q)).2):=fun q hq=>ymc t (some q) hq hs.n hs.u hs.r
 have hL:=L k.lo (zlo hk);unfold x7a
 rcases yqt ht k.lo with ⟨h,w,hw,hq⟩ | ⟨h,hw⟩
 . rw [h,hw] at hL ⊢;rw [decide_eq_true rfl,cond_true,show (some w).getD 0=w from rfl];have hp:=wsb (Γ:=Γ) w (by omega);generalize hR:yk1 t k t.rows (Iv.pt w)=R;refine CallsD.run [] Go.Proofs.Tryz.func102 rfl rfl rfl ?_;simp only [Go.Proofs.Tryz.f102];refine hgR ?_
   repeat' ((first | refine hfk ?_ ?_<;>intros | refine hik ?_ | with_reducible first | refine hcA ?_ | refine hcB ?_)<;>refine hgS ?_)
   refine y55 [2,3,4,5,6,7,8,26,27] (fun p:Nat×Iv×Rat=>[(28,.one (.dat (cI p.1)))]) (fun p=>[.box ((tbC t).map .dat) (some 122),.box ((ivC k).map .dat) (some 35),.box ((krZ false false false).map .dat) (some 89),.box ((qC (some p.2.2)).map .dat) (some 33),.box ((ivC p.2.1).map .dat) (some 35)])
    (fun p=>p.1<=t.rows.length/\ivZ p.2.1<=4204/\R=yk1 t k (t.rows.drop p.1) p.2.1) (fun p=>t.rows.length-p.1) (0,Iv.pt w,w) ⟨Nat.zero_le _,by rw [yp5];exact hq,hR.symm⟩ ?_ ?_
   . refine hg ?_;exact StH.same svl rfl
   clear hR hL hp;rintro ⟨i,v,q⟩ ⟨q1,q2,q3⟩;simp only at q1 q2 q3;refine hg ?_;refine vnx (fun hlt _=>?_) (fun hlt _=>?_)
   . have hlt':i<t.rows.length:=by omega
     have hkey:=wyg ht hlt';have hin:=wju (hrows i hlt').1;have c1:=oInt (Γ:=Γ) (t.rows.getD i default).k (by unfold inI;omega);have hz:qs (((t.rows.getD i default).k:Int):Rat)<=4:=wtn (by unfold inI;omega);have c2:=iHas (Γ:=Γ) k (((t.rows.getD i default).k:Int):Rat) hk (by omega);have c3:=L (((t.rows.getD i default).k:Int):Rat) (by omega);rw [hkey] at c3
     have hw':qs (tw t i)<=4204:=by
      have h:=xbu t (some (((t.rows.getD i default).k:Int):Rat));rw [hkey] at h;exact h
     have c4:=wsb (Γ:=Γ) (tw t i) (by omega);have c5:=yul (Γ:=Γ) v (Iv.pt (tw t i)) (by omega) (by rw [yp5];omega);have hz2:ivZ (v.hull (Iv.pt (tw t i)))<=4204:=ysi q2 (by rw [yp5];exact hw');rw [xqz hlt',yk1,hkey,show (some (tw t i),(0:Int)).1.getD 0=tw t i from rfl] at q3;clear hkey L hrows;generalize tw t i=u at *;generalize k.has (((t.rows.getD i default).k:Int):Rat)=b at *;refine hg ?_
     repeat' ((first | refine hfk ?_ ?_<;>intros | refine hik ?_ | with_reducible first | refine hcA ?_ | refine hcB ?_)<;>refine hgS ?_)
     . refine ⟨(i+1,v.hull (Iv.pt u),u),⟨by dsimp only;omega,hz2,rfl⟩,by dsimp only;omega,?_⟩;exact StH.back [2,3,4,5,6,7,8,26,27,28] 0 0 5 rfl rfl rfl rfl rfl (by kernel_rfl) (StH.same svl rfl)
     . refine ⟨(i+1,v,q),⟨by dsimp only;omega,q2,rfl⟩,by dsimp only;omega,?_⟩;exact StH.back [2,3,4,5,6,7,8,26,27,28] 0 0 5 rfl rfl rfl rfl rfl (by kernel_rfl) (StH.same svl rfl)
   . have e:i=t.rows.length:=by omega
     subst e;rw [List.drop_eq_nil_of_le (Nat.le_refl _),yk1] at q3;subst q3;refine hg ?_;exact RLe.ofEq rfl
 . rw [h,hw] at hL ⊢;refine CallsD.run [] Go.Proofs.Tryz.func102 rfl rfl rfl ?_;simp only [Go.Proofs.Tryz.f102];refine hgR ?_
   repeat' ((first | refine hfk ?_ ?_<;>intros | refine hik ?_ | with_reducible first | refine hcA ?_ | refine hcB ?_)<;>refine hgS ?_)
   all_goals first
    | exact xp8 4
    | (exfalso;omega)
end Go.Hp.T
