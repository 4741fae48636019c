/- The proof, part E28: Bf, Bg, Bh, Bi, Bj, Bk, Bl. -/
import Derived.Test.YtmegdbbbllffkaaGreatDoorE27
namespace Go.Slot.T
open Go Go.RowKit Go.Slot
open Go.Proofs.Tryz (prog)
set_option maxRecDepth 10000
set_option maxHeartbeats 2000000
theorem viv (a b:List Int) (ha:digits a) (hb:digits b) (la:a.length<=1099511627776) (hlen:b.length<=a.length) (hle:num b<=num a) :
 yn2 prog 139 [.one (.ints .i64 a),.one (.ints .i64 b)] (.one (.ints .i64 (dig (num a-num b).toNat))):=by
 by_cases hnil:a=[]
 . subst hnil;have hb0:b=[]:=List.eq_nil_of_length_eq_zero (by simpa using hlen);subst hb0;refine yn2.run [] Go.Proofs.Tryz.func139 rfl rfl ?_;simp only [Go.Proofs.Tryz.f139];refine rgR ?_;refine v1h xl1 ?_;refine rg ?_;refine xyc (fun _:Unit=>[(14,.any)]) (fun _=>True) (fun _=>0) () trivial ?_ ?_
   . refine rg ?_;exact StLe.weaken (by repeat' first | exact .nil | refine .cons (by first | exact .refl _ | exact .any _) ?_) rfl
   rintro ⟨⟩ _;refine rg ?_;refine z08 (fun h=>?_) (fun h=>?_)
   . exact absurd h (by simp)
   . refine rg ?_;refine v1h (xam [] (by decide)) ?_;refine rg ?_;refine ⟨_,rfl,?_⟩;rw [show num []-num []=0 from rfl,show (0:Int).toNat=0 from rfl,ylp];exact .one (.refl _)
 have hpos:0<a.length:=List.length_pos_iff.2 hnil;refine yn2.run [] Go.Proofs.Tryz.func139 rfl rfl ?_;simp only [Go.Proofs.Tryz.f139];refine rgR ?_;refine v1h (xfv a hpos (by omega)) ?_;refine rg ?_;refine vxs [0,1,5,11,12] (fun x:Nat×List Int×Int=>[(6,.one (.raw (.int .i64 x.2.2))),(10,.arr [] (.ints .i64 x.2.1) none),(13,.one (.raw (.int .i64 x.1)))])
  (fun x=>x.1<=a.length/\x.2.1.length=a.length/\digits x.2.1/\(0<=x.2.2/\x.2.2<=1)/\num x.2.1-1048576 ^ x.1*x.2.2=num a-num (b.take x.1))
  (fun x=>a.length-x.1) (0,a,0)
  ⟨Nat.zero_le _,rfl,ha,by simp,by simp [num]⟩ ?_ ?_
 . refine rg ?_;exact StLe.weaken (by repeat' first | exact .nil | refine .cons (by first | exact .refl _ | exact .any _) ?_) rfl
 rintro ⟨i,o,c⟩ ⟨hi,ho,hdo,hc,hn⟩;simp only at hi ho hdo hc hn;refine rg ?_;refine z08 (fun h=>?_) (fun h=>?_)
 . have hoi:=hdo.getD i;have hbi:=hb.getD i;refine rg ?_
   have key:∀ s:Int,s=o.getD i 0-c-b.getD i 0->num (o.set i (s % 1048576))-1048576 ^ (i+1)*(s / 1048576 % 2)=num a-num (b.take (i+1)):=fun s hs=>by
    have h1:=vks (o:=o) (i:=i) (by omega) s
    have h2:s / 1048576 % 2 = - (s / 1048576):=by omega
    rw [w4d,h2];rw [hs] at h1 ⊢
    grind
   refine z08 (fun h1=>?_) (fun h1=>?_)
   . refine rg3 @vuf @and1 @v2y ?_
     exact ⟨(i+1,o.set i ((o.getD i 0-c-b.getD i 0) % 1048576),(o.getD i 0-c-b.getD i 0) / 1048576 % 2),
      ⟨by dsimp only;omega,by simpa using ho,hdo.set i (by omega),by dsimp only;omega,key _ rfl⟩,by dsimp only;omega,StLe.weaken (by repeat' first | exact .nil | refine .cons (by first | exact .refl _ | exact .any _) ?_) rfl⟩
   . refine rg3 @vuf @and1 @v2y ?_;have hb0:=vv7 (l:=b) (i:=i) (by omega)
     exact ⟨(i+1,o.set i ((o.getD i 0-c) % 1048576),(o.getD i 0-c) / 1048576 % 2),
      ⟨by dsimp only;omega,by simpa using ho,hdo.set i (by omega),by dsimp only;omega,key _ (by omega)⟩,by dsimp only;omega,StLe.weaken (by repeat' first | exact .nil | refine .cons (by first | exact .refl _ | exact .any _) ?_) rfl⟩
 . refine rg ?_
   have hip:i=a.length:=by omega
   subst hip;rw [zvp hlen] at hn;have h1:=xxq hdo;have h2:=num_nonneg hdo;rw [ho] at h1
   have hc0:c=0:=by
    rcases Int.le_iff_eq_or_lt.1 hc.2 with h3 | h3
    . rw [h3] at hn;omega
    . omega
   subst hc0
   have hnum:num o=num a-num b:=by rw [<-hn];simp
   have htr:=zdf o o.length;refine ownk (wlw o _ rfl (by omega)) ?_;refine rg ?_;exact ⟨_,rfl,by rw [v6x hdo hnum];exact .own⟩
theorem y5t (a b:List Int) (ha:digits a) (hb:digits b) (la:a.length<=1099511627776) (lb:b.length<=1099511627776) :
 yn2 prog 140 [.one (.ints .i64 a),.one (.ints .i64 b)] (.arr [] (.ints .i64 (dig (num a*num b).toNat)) none):=by
 refine yn2.run [] Go.Proofs.Tryz.func140 rfl rfl ?_;simp only [Go.Proofs.Tryz.f140];refine rgR ?_;refine vxs [0,1,5,18,19] (fun x:Nat×List Int=>[(17,.arr [] (.ints .i64 x.2) none),(20,.one (.raw (.int .i64 x.1)))])
  (fun x=>x.1<=a.length/\x.2.length=a.length+b.length/\digits x.2/\xl7 x.2 (x.1+b.length)/\num x.2=num (a.take x.1)*num b)
  (fun x=>a.length-x.1) (0,List.replicate ((a.length:Int)+b.length).toNat 0)
  ⟨Nat.zero_le _,by simp;omega,digits.rep _,(xl7.rep _).mono (Nat.zero_le _),by simp [num,ya9]⟩ ?_ ?_
 . refine rg ?_;exact StLe.weaken (by repeat' first | exact .nil | refine .cons (by first | exact .refl _ | exact .any _) ?_) rfl
 rintro ⟨i,o⟩ ⟨hi,ho,hdo,hz,hn⟩;simp only at hi ho hdo hz hn;refine rg ?_;refine z08 (fun h=>?_) (fun h=>?_)
 . refine rg ?_;have hai:=ha.getD i;refine vxs [0,1,5,6,7,18,19,20,25,26] (fun x:Nat×List Int×Int=>[(8,.one (.raw (.int .i64 x.2.2))),(17,.arr [] (.ints .i64 x.2.1) none),(27,.one (.raw (.int .i64 x.1)))])
    (fun x=>x.1<=b.length/\x.2.1.length=a.length+b.length/\digits x.2.1/\xl7 x.2.1 (i+b.length)/\(0<=x.2.2/\x.2.2<=1048575)/\
      num x.2.1+1048576 ^ (i+x.1)*x.2.2=num (a.take i)*num b+1048576 ^ i*(a.getD i 0*num (b.take x.1)))
    (fun x=>b.length-x.1) (0,o,0)
    ⟨Nat.zero_le _,ho,hdo,hz,by simp,by simp [num,hn]⟩ ?_ ?_
   . refine rg ?_;exact StLe.weaken (by repeat' first | exact .nil | refine .cons (by first | exact .refl _ | exact .any _) ?_) rfl
   rintro ⟨k,o',c⟩ ⟨hk,ho',hdo',hz',hc,hn'⟩;simp only at hk ho' hdo' hz' hc hn';refine rg ?_;refine z08 (fun h1=>?_) (fun h1=>?_)
   . have hbk:=hb.getD k;have hok:=hdo'.getD (i+k);have hprod:0<=a.getD i 0*b.getD k 0/\a.getD i 0*b.getD k 0<=1048575*1048575:=⟨Int.mul_nonneg hai.1 hbk.1,Int.mul_le_mul hai.2 hbk.2 hbk.1 (by decide)⟩
     have eik:((i:Int)+k).toNat=i+k:=by omega
     refine rg3 @vuf @v2y @eik ?_;generalize hs:o'.getD (i+k) 0+a.getD i 0*b.getD k 0+c=s at *;have h2:=vks (o:=o') (i:=i+k) (by omega) s
     refine ⟨(k+1,o'.set (i+k) (s % 1048576),s / 1048576),
      ⟨by dsimp only;omega,by simpa using ho',hdo'.set _ (by omega),hz'.wkp _ (by omega),by dsimp only;omega,?_⟩,by dsimp only;omega,?_⟩
     . dsimp only;rw [w4d,show i+(k+1)=i+k+1 by omega,h2,<-hs,Int.pow_add];rw [Int.pow_add] at hn'
       grind
     . exact StLe.weaken (by repeat' first | exact .nil | refine .cons (by first | exact .refl _ | exact .any _) ?_) rfl
   . have hkb:k=b.length:=by omega
     subst hkb
     have eib:((i:Int)+b.length).toNat=i+b.length:=by omega
     have hz0:=hz' (i+b.length) (Nat.le_refl _)
     conv=>simp (maxSteps:=2000000) (disch:=omega) only [go_sem,Nat.reduceAdd,Nat.reduceSub,Nat.reduceMul,Int.reduceToNat,Nat.reduceEqDiff,Nat.reduceBEq,Nat.reduceBneDiff,eib,hz0,Int.zero_add]
     refine ⟨(i+1,o'.set (i+b.length) c),⟨by dsimp only;omega,by simpa using ho',hdo'.set _ (by omega),?_,?_⟩,by dsimp only;omega,?_⟩
     . exact (hz'.set c).mono (by dsimp only;omega)
     . dsimp only;rw [y8v _ _ _ (by omega),hz0,w4d];rw [List.take_length] at hn'
       grind
     . exact StLe.weaken (by repeat' first | exact .nil | refine .cons (by first | exact .refl _ | exact .any _) ?_) rfl
 . have hia:i=a.length:=by omega
   subst hia;rw [List.take_length] at hn;refine rg ?_;have htr:=zdf o o.length;refine ownk (wlw o _ rfl (by omega)) ?_;refine rg ?_;exact ⟨_,rfl,by rw [v6x hdo hn];exact .one (.refl _)⟩
theorem xrr {L:List Int} {n:Int} (hd:digits L) (h:num L=n):Cell.ints .i64 (L.take (z4o L L.length))=.ints .i64 (dig n.toNat):=by
 rw [<-wah hd h];rfl
theorem yak (a:List Int) (d:Int) (ha:digits a) (la:a.length<=1099511627776) (hd:1<=d/\d<=1048576) :
 yn2 prog 159 [.one (.ints .i64 a),.one (.raw (.int .i64 d))] (.tup [.one (.ints .i64 (dig (num a / d).toNat)),.one (.raw (.int .i64 (num a % d)))]):=by
 refine yn2.run [] Go.Proofs.Tryz.func159 rfl rfl ?_;simp only [Go.Proofs.Tryz.f159];refine rgR ?_;refine vxs [0,1,6] (fun x:Nat×List Int×Int=>[(7,.one (.raw (.int .i64 x.2.2))),(8,.one (.raw (.int .i64 ((x.1:Int)-1)))),(11,.arr [] (.ints .i64 x.2.1) none)])
  (fun x=>x.1<=a.length/\x.2.1.length=a.length/\digits x.2.1/\(0<=x.2.2/\x.2.2<d)/\num (a.drop x.1)=d*num (x.2.1.drop x.1)+x.2.2)
  (fun x=>x.1) (a.length,List.replicate (a.length:Int).toNat 0,0)
  ⟨Nat.le_refl _,by simp,digits.rep _,by simp;omega,by simp [num]⟩ ?_ ?_
 . refine rg ?_;exact StLe.weaken (by repeat' first | exact .nil | refine .cons (by first | exact .refl _ | exact .any _) ?_) rfl
 rintro ⟨n,o,r⟩ ⟨hn,ho,hdo,hr,he⟩;simp only at hn ho hdo hr he;refine rg ?_;refine z08 (fun h=>?_) (fun h=>?_)
 . obtain ⟨i,rfl⟩:∃ i,n=i+1:=⟨n-1,by omega⟩
   have ei:((i+1:Nat):Int)-1=(i:Nat):=by omega
   have hai:=ha.getD i;refine rg3 @ei @yzv @or20 ?_;generalize ht:r*1048576+a.getD i 0=t at *
   have ht0:0<=t:=by omega
   have htd:t<d*1048576:=by
    have:r*1048576<=(d-1)*1048576:=Int.mul_le_mul_of_nonneg_right (by omega) (by decide)
    omega
   have hq:t.tdiv d=t / d:=Int.tdiv_eq_ediv_of_nonneg ht0;have hm:t.tmod d=t % d:=Int.tmod_eq_emod_of_nonneg ht0;have hq0:0<=t / d:=Int.ediv_nonneg ht0 (by omega);have hq1:t / d<1048576:=Int.ediv_lt_of_lt_mul (by omega) (by rw [Int.mul_comm];exact htd);have hm0:0<=t % d:=Int.emod_nonneg _ (by omega);have hm1:t % d<d:=Int.emod_lt_of_pos _ (by omega);have hdm:=Int.emod_add_mul_ediv t d;rw [hq,hm];refine rg ?_;refine ⟨(i,o.set i (t / d),t % d),⟨by dsimp only;omega,by simpa using ho,hdo.set _ (by omega),by dsimp only;omega,?_⟩,by dsimp only;omega,?_⟩
   . dsimp only;rw [x7k _ (by omega),win,he];simp only [num]
     grind
   . exact StLe.weaken (by repeat' first | exact .nil | refine .cons (by first | exact .refl _ | exact .any _) ?_) rfl
 . have h0:n=0:=by omega
   subst h0;simp only [List.drop_zero] at he;refine rg ?_;have htr:=zdf o o.length;refine ownk (wlw o _ rfl (by omega)) ?_;refine rg ?_
   have hq:num a / d=num o:=by
    rw [he,Int.add_comm,Int.add_mul_ediv_left _ _ (by omega),Int.ediv_eq_zero_of_lt hr.1 hr.2];omega
   have hm:num a % d=r:=by
    rw [he,Int.add_comm,Int.add_mul_emod_self_left,Int.emod_eq_of_lt hr.1 hr.2]
   exact ⟨_,rfl,by rw [xrr hdo rfl,hq,hm];exact .tup (.cons (.refl _) (.cons (.refl _) .nil))⟩
theorem cNaN (x:Int):yn2 prog 212 [.one (.raw (.int .i64 x))] (.one (.raw (.bool false))):=by
 refine yn2.run [] Go.Proofs.Tryz.func212 rfl rfl ?_;simp only [Go.Proofs.Tryz.f212];refine rgR ?_;exact ⟨_,rfl,.one (.refl _)⟩
theorem cCmp (x y:Int):yn2 prog 192 [.one (.raw (.int .i64 x)),.one (.raw (.int .i64 y))] (.one (.raw (.int .i64 (ord x y)))):=by
 refine yn2.run [] Go.Proofs.Tryz.func192 rfl rfl ?_;simp only [Go.Proofs.Tryz.f192];refine rgR ?_;refine v1h (cNaN x) ?_;refine rg ?_;refine v1h (cNaN y) ?_;refine rg ?_;unfold ord;refine z08 (fun h=>?_) (fun h=>?_)
 . refine rg ?_;exact ⟨_,rfl,.one (.refl _)⟩
 . refine rg ?_;refine z08 (fun h1=>?_) (fun h1=>?_)
   . refine rg ?_;exact ⟨_,rfl,.one (.refl _)⟩
   . refine rg ?_;exact ⟨_,rfl,.one (.refl _)⟩
theorem xxj (a b:List Int) (ha:digits a) (na:norm a) (hb:digits b) (nb:norm b) (la:a.length<=1099511627776) (_lb:b.length<=1099511627776) :
 yn2 prog 158 [.one (.ints .i64 a),.one (.ints .i64 b)] (.one (.raw (.int .i64 (ord (num a) (num b))))):=by
 refine yn2.run [] Go.Proofs.Tryz.func158 rfl rfl ?_;simp only [Go.Proofs.Tryz.f158];refine rgR ?_;refine z08 (fun h=>?_) (fun h=>?_)
 . refine rg ?_;refine v1h (cCmp _ _) ?_;refine rg ?_;refine ⟨_,rfl,?_⟩
   have:ord (a.length:Int) b.length=ord (num a) (num b):=by
    unfold ord
    rcases Nat.lt_or_gt_of_ne (fun e:a.length=b.length=>h (by omega)) with h1 | h1
    . have:=yck ha na hb nb h1
      rw [if_pos (by omega),if_pos this]
    . have:=yck hb nb ha na h1
      rw [if_neg (by omega),if_pos (by omega),if_neg (by omega),if_pos this]
   rw [this];exact .one (.refl _)
 . have hl:a.length=b.length:=by omega
   refine rg ?_;refine vxs [0,1] (fun n:Nat=>[(5,.one (.raw (.int .i64 ((n:Int)-1))))])
    (fun n=>n<=a.length/\a.drop n=b.drop n) (fun n=>n) a.length
    ⟨Nat.le_refl _,by rw [List.drop_length,hl,List.drop_length]⟩ ?_ ?_
   . refine rg ?_;exact StLe.weaken (by repeat' first | exact .nil | refine .cons (by first | exact .refl _ | exact .any _) ?_) rfl
   rintro n ⟨hn,he⟩;refine rg ?_;refine z08 (fun h1=>?_) (fun h1=>?_)
   . obtain ⟨i,rfl⟩:∃ i,n=i+1:=⟨n-1,by omega⟩
     have ei:((i+1:Nat):Int)-1=(i:Nat):=by omega
     refine rg1 @ei ?_;refine indk (by kernel_rfl) ?_;refine rg1 @ei ?_;refine z08 (fun h2=>?_) (fun h2=>?_)
     . refine rg1 @ei ?_;refine v1h (cCmp _ _) ?_;refine rg1 @ei ?_;refine indk (by kernel_rfl) ?_;refine rg1 @ei ?_;refine ⟨_,rfl,?_⟩
       have:ord (a.getD i 0) (b.getD i 0)=ord (num a) (num b):=by
        unfold ord
        rcases Int.lt_or_gt_of_ne h2 with h3 | h3
        . have:=wyj ha hb hl i (by omega) he h3
          rw [if_pos h3,if_pos this]
        . have:=wyj hb ha hl.symm i (by omega) he.symm h3
          rw [if_neg (by omega),if_pos (by omega),if_neg (by omega),if_pos this]
       rw [this];exact .one (.refl _)
     . have h2:a.getD i 0=b.getD i 0:=by omega
       refine rg1 @ei ?_;refine ⟨i,⟨by omega,?_⟩,by omega,StLe.weaken (by repeat' first | exact .nil | refine .cons (by first | exact .refl _ | exact .any _) ?_) rfl⟩
       have e1:∀(l:List Int),i<l.length->l.drop i=l.getD i 0::l.drop (i+1):=fun l hi=>by
        rw [List.drop_eq_getElem_cons hi]
        congr 1
        simp [hi]
       rw [e1 a (by omega),e1 b (by omega),he,h2]
   . have h0:n=0:=by omega
     subst h0
     have he:a=b:=by simpa using he
     refine rg ?_;refine ⟨_,rfl,?_⟩
     have:ord (num a) (num b)=0:=by rw [he];simp [ord]
     rw [this];exact .one (.refl _)
end Go.Slot.T
namespace Go.Slot.T
open Go Go.RowKit Go.Slot
open Go.Proofs.Tryz (prog)
set_option maxRecDepth 10000
set_option maxHeartbeats 4000000
def settled (u v g:Int):Int:=if u<g*v then g-1 else g
theorem yfv (pre q:List Value) (u v:List Int) (g:Int) (hu:digits u) (hv:digits v) (lu:u.length<=1099511627776) (hl:v.length<=u.length) (hg:0<=g/\g<=1048575)
 (h1:(g-1)*num v<=num u) :
 wmo prog 161 [.arr pre (.ints .i64 u) (some q),.one (.ints .i64 v),.one (.raw (.int .i64 g))] 0
  (.arr pre (.ints .i64 (fixd u.length (num u-settled (num u) (num v) g*num v))) (some q)) (.one (.raw (.int .i64 (settled (num u) (num v) g)))):=by
 refine wmo.run [] Go.Proofs.Tryz.func161 rfl rfl (fun t h=>h) ?_;simp only [Go.Proofs.Tryz.f161];refine rgR ?_;refine vxs [1,2,12,13] (fun x:Nat×List Int×Int=>[(0,.arr pre (.ints .i64 x.2.1) (some q)),(7,.one (.raw (.int .i64 x.2.2))),(14,.one (.raw (.int .i64 x.1)))])
  (fun x=>x.1<=u.length/\x.2.1.length=u.length/\digits x.2.1/\(0<=x.2.2/\x.2.2<=1048575)/\num x.2.1-1048576 ^ x.1*x.2.2=num u-g*num (v.take x.1))
  (fun x=>u.length-x.1) (0,u,0)
  ⟨Nat.zero_le _,rfl,hu,by simp,by simp [num]⟩ ?_ ?_
 . refine rg ?_;exact StLe.weaken (by repeat' first | exact .nil | refine .cons (by first | exact .refl _ | exact .any _) ?_) rfl
 rintro ⟨i,o,c⟩ ⟨hi,ho,hdo,hc,hn⟩;simp only at hi ho hdo hc hn;refine rg ?_;refine z08 (fun h=>?_) (fun h=>?_)
 . have hoi:=hdo.getD i;have hvi:=hv.getD i;have hprod:0<=g*v.getD i 0/\g*v.getD i 0<=1048575*1048575:=⟨Int.mul_nonneg hg.1 hvi.1,Int.mul_le_mul hg.2 hvi.2 hvi.1 (by decide)⟩
   have key:∀ s:Int,s=o.getD i 0-c-g*v.getD i 0->num (o.set i (s % 1048576))-1048576 ^ (i+1)*(0-s / 1048576)=num u-g*num (v.take (i+1)):=fun s hs=>by
    have h1:=vks (o:=o) (i:=i) (by omega) s;rw [w4d];rw [hs] at h1 ⊢
    grind
   refine rg ?_;refine z08 (fun h1=>?_) (fun h1=>?_)
   . refine rg ?_;generalize hp:g*v.getD i 0=p at *;refine rg2 @vuf @v2y ?_
     exact ⟨(i+1,o.set i ((o.getD i 0-c-p) % 1048576),0-(o.getD i 0-c-p) / 1048576),
      ⟨by dsimp only;omega,by simpa using ho,hdo.set i (by omega),by dsimp only;omega,key _ rfl⟩,by dsimp only;omega,StLe.weaken (by repeat' first | exact .nil | refine .cons (by first | exact .refl _ | exact .any _) ?_) rfl⟩
   . have hv0:=vv7 (l:=v) (i:=i) (by omega);refine rg2 @vuf @v2y ?_
     exact ⟨(i+1,o.set i ((o.getD i 0-c) % 1048576),0-(o.getD i 0-c) / 1048576),
      ⟨by dsimp only;omega,by simpa using ho,hdo.set i (by omega),by dsimp only;omega,key _ (by rw [hv0];simp)⟩,by dsimp only;omega,StLe.weaken (by repeat' first | exact .nil | refine .cons (by first | exact .refl _ | exact .any _) ?_) rfl⟩
 . have hip:i=u.length:=by omega
   subst hip;rw [zvp hl] at hn;have hlt:=xxq hdo;have hnn:=num_nonneg hdo;have hvn:=num_nonneg hv;have hvl:=xxq hv;rw [ho] at hlt;refine rg ?_;refine z08 (fun hc0=>?_) (fun hc0=>?_)
   . subst hc0
     have hs:settled (num u) (num v) g=g:=by
      unfold settled;rw [if_neg];simp at hn;omega
     refine rg ?_;refine ⟨?_,rfl,rfl,rfl,?_⟩
     . rw [hs,<-yc5 hdo ho (by simpa using hn)];rfl
     . rw [hs];exact ⟨_,rfl,.one (.refl _)⟩
   . have hlow:num u-g*num v<0:=by
      have hp:(1048576:Int) ^ u.length<=1048576 ^ u.length*c:=by
       have:=Int.mul_le_mul_of_nonneg_left (show (1:Int)<=c by omega) (Int.le_of_lt (zou u.length))
       rwa [Int.mul_one] at this
      omega
     have hs:settled (num u) (num v) g=g-1:=by
      unfold settled;rw [if_pos];omega
     rw [hs]
     have hgm:(g-1)*num v=g*num v-num v:=by rw [Int.sub_mul,Int.one_mul]
     refine rg ?_
     have hbig:num o+num v=num u-(g-1)*num v+1048576 ^ u.length:=by
      have hc1:c=1:=by
       rcases Int.lt_or_gt_of_ne hc0 with h4 | h4
       . omega
       . rcases Int.lt_or_le 1 c with h5 | h5
         . have hp:(1048576:Int) ^ u.length*2<=1048576 ^ u.length*c:=Int.mul_le_mul_of_nonneg_left (by omega) (Int.le_of_lt (zou u.length));have hvu:(1048576:Int) ^ v.length<=1048576 ^ u.length:=wqr hl;omega
         . omega
      subst hc1;omega
     refine vxs [1,2,47,48] (fun x:Nat×List Int×Int=>[(0,.arr pre (.ints .i64 x.2.1) (some q)),(10,.one (.raw (.int .i64 x.2.2))),(49,.one (.raw (.int .i64 x.1)))])
      (fun x=>x.1<=u.length/\x.2.1.length=u.length/\digits x.2.1/\(0<=x.2.2/\x.2.2<=1)/\num x.2.1+1048576 ^ x.1*x.2.2=num o+num (v.take x.1))
      (fun x=>u.length-x.1) (0,o,0)
      ⟨Nat.zero_le _,ho,hdo,by simp,by simp [num]⟩ ?_ ?_
     . refine rg ?_;exact StLe.weaken (by repeat' first | exact .nil | refine .cons (by first | exact .refl _ | exact .any _) ?_) rfl
     rintro ⟨i,r,d⟩ ⟨hi',hr,hdr,hd,hn'⟩;simp only at hi' hr hdr hd hn';refine rg ?_;refine z08 (fun h=>?_) (fun h=>?_)
     . have hri:=hdr.getD i;have hvi:=hv.getD i
       have key:∀ s:Int,s=d+r.getD i 0+v.getD i 0->num (r.set i (s % 1048576))+1048576 ^ (i+1)*(s / 1048576)=num o+num (v.take (i+1)):=fun s hs=>by
        rw [vks (by omega) s,w4d,hs]
        grind
       refine rg ?_;refine z08 (fun h1=>?_) (fun h1=>?_)
       . refine rg2 @vuf @v2y ?_
         exact ⟨(i+1,r.set i ((d+r.getD i 0+v.getD i 0) % 1048576),(d+r.getD i 0+v.getD i 0) / 1048576),
          ⟨by dsimp only;omega,by simpa using hr,hdr.set i (by omega),by dsimp only;omega,key _ rfl⟩,by dsimp only;omega,StLe.weaken (by repeat' first | exact .nil | refine .cons (by first | exact .refl _ | exact .any _) ?_) rfl⟩
       . have hv0:=vv7 (l:=v) (i:=i) (by omega);refine rg2 @vuf @v2y ?_
         exact ⟨(i+1,r.set i ((d+r.getD i 0) % 1048576),(d+r.getD i 0) / 1048576),
          ⟨by dsimp only;omega,by simpa using hr,hdr.set i (by omega),by dsimp only;omega,key _ (by omega)⟩,by dsimp only;omega,StLe.weaken (by repeat' first | exact .nil | refine .cons (by first | exact .refl _ | exact .any _) ?_) rfl⟩
     . have hip:i=u.length:=by omega
       subst hip;rw [zvp hl] at hn';have hlt':=xxq hdr;have hnn':=num_nonneg hdr;rw [hr] at hlt'
       have hd1:d=1:=by
        rcases Int.le_iff_eq_or_lt.1 hd.2 with h4 | h4
        . exact h4
        . have:d=0:=by omega
          subst this;omega
       subst hd1;refine rg ?_;refine ⟨?_,rfl,rfl,rfl,?_⟩
       . rw [<-yc5 hdr hr (by omega)];rfl
       . exact ⟨_,rfl,.one (.refl _)⟩
theorem xu8 {W V g:Int} (h1:(g-1)*V<=W) (h2:W<(g+1)*V) (_hV:0<V) (hW:0<=W) (hg:0<=g/\g<=1048575) :
 0<=settled W V g/\settled W V g<=1048575/\settled W V g*V<=W/\W<(settled W V g+1)*V:=by
 unfold settled
 split
 . rename_i h;refine ⟨?_,by omega,h1,by rw [show g-1+1=g by omega];exact h⟩
   rcases Int.lt_or_le 0 g with h3 | h3
   . omega
   . have:g=0:=by omega
     subst this;omega
 . exact ⟨hg.1,hg.2,by omega,h2⟩
theorem y1l (w v:List Int) (i k:Nat) (g:Int) (hw:digits w) (hv:digits v) (hk:k<=1099511627776) (hi:i+k<=w.length) (hl:v.length<=k) (hg:0<=g/\g<=1048575)
 (h1:(g-1)*num v<=num ((w.drop i).take k)) :
 vpg prog 161 [.any,.one (.ints .i64 v),.one (.raw (.int .i64 g))] 0 (.wn (.ints .i64 w) i k)
  (.wn (.ints .i64 (fixd k (num ((w.drop i).take k)-settled (num ((w.drop i).take k)) (num v) g*num v))) i k) (.one (.raw (.int .i64 (settled (num ((w.drop i).take k)) (num v) g)))):=fun pre q=>by
 have hlen:((w.drop i).take k).length=k:=by simp;omega
 have h:=yfv pre q ((w.drop i).take k) v g ((hw.drop i).take k) hv (by omega) (by omega) hg h1;rw [hlen] at h;exact h
end Go.Slot.T
namespace Go.Slot.T
open Go Go.RowKit Go.Slot
open Go.Proofs.Tryz (prog)
set_option maxRecDepth 10000
set_option maxHeartbeats 8000000
theorem xjz (a b:List Int) (ha:digits a) (na:norm a) (hb:digits b) (nb:norm b) (la:a.length<=1073741824) (lb:b.length<=1073741824) (hlt:num a<num b) :
 yn2 prog 113 [.one (.ints .i64 a),.one (.ints .i64 b)] (.tup [.one (.ints .i64 (dig (num a / num b).toNat)),.one (.ints .i64 (dig (num a % num b).toNat))]):=by
 refine yn2.run [] Go.Proofs.Tryz.func113 rfl rfl ?_;simp only [Go.Proofs.Tryz.f113];refine rgR ?_;refine v1h (xxj a b ha na hb nb (by omega) (by omega)) ?_;refine rg ?_;refine z08 (fun h=>?_) (fun h=>?_)
 . refine rg ?_;refine v1h (yud a (by omega)) ?_;refine rg ?_;refine ⟨_,rfl,?_⟩;have h0:=num_nonneg ha;rw [Int.ediv_eq_zero_of_lt h0 hlt,Int.emod_eq_of_lt h0 hlt,<-yke ha na,show (0:Int).toNat=0 from rfl,ylp];exact .tup (.cons (.one (.zrt _)) (.cons (.refl _) .nil))
 . exact absurd (by unfold ord;rw [if_pos hlt];decide) h
theorem vkh (a b:List Int) (ha:digits a) (na:norm a) (hb:digits b) (nb:norm b) (la:a.length<=1073741824) (lb:b.length=1) (hle:num b<=num a) :
 yn2 prog 113 [.one (.ints .i64 a),.one (.ints .i64 b)] (.tup [.one (.ints .i64 (dig (num a / num b).toNat)),.one (.ints .i64 (dig (num a % num b).toNat))]):=by
 have hord:¬ord (num a) (num b)<0:=by unfold ord;rw [if_neg (by omega)];split<;>decide
 have hb0:=hb.getD 0;have hbp:=norm.pos hb nb (fun e=>by rw [e] at lb;cases lb)
 have hbn:num b=b.getD 0 0:=by
  match b,lb with
  | [d],_=>simp [num]
 refine yn2.run [] Go.Proofs.Tryz.func113 rfl rfl ?_;simp only [Go.Proofs.Tryz.f113];refine rgR ?_;refine v1h (xxj a b ha na hb nb (by omega) (by omega)) ?_;refine rg ?_;refine z08 (fun h=>absurd h hord) (fun _=>?_);refine rg ?_;refine z08 (fun h=>?_) (fun h=>absurd (by omega) h);refine rg ?_;refine v1h (yak a _ ha (by omega) (by omega)) ?_;refine rg ?_;have hr0:0<=num a % b.getD 0 0:=Int.emod_nonneg _ (by omega);have hr1:num a % b.getD 0 0<b.getD 0 0:=Int.emod_lt_of_pos _ (by omega);refine v1h (xam [num a % b.getD 0 0] (by simp)) ?_;refine rg ?_;refine ⟨_,rfl,?_⟩;have hd:digits [num a % b.getD 0 0]:=digits.cons (by omega) digits.nil
 have:=xrr (L:=[num a % b.getD 0 0]) (n:=num a % num b) hd (by rw [hbn];simp [num])
 simp only [List.length_cons,List.length_nil,Nat.zero_add] at this;rw [this,hbn];exact .tup (.cons (.refl _) (.cons (.refl _) .nil))
theorem y0i (a b:List Int) (Uf Vf:Nat->List Int) (hUf:∀ s:Nat,Uf s=dig (num a*(s:Int)).toNat) (hVf:∀ s:Nat,Vf s=dig (num b*(s:Int)).toNat) (ha:digits a) (na:norm a) (hb:digits b) (nb:norm b) (la:a.length<=1073741824) (lb:2<=b.length) (hle:num b<=num a) :
 yn2 prog 113 [.one (.ints .i64 a),.one (.ints .i64 b)] (.tup [.one (.ints .i64 (dig (num a / num b).toNat)),.one (.ints .i64 (dig (num a % num b).toNat))]):=by
 have hord:¬ord (num a) (num b)<0:=by unfold ord;rw [if_neg (by omega)];split<;>decide
 have hbp:=norm.pos hb nb (fun e=>by rw [e] at lb;simp at lb);have hlab:b.length<=a.length:=Nat.le_of_not_lt (fun h=>by have:=yck ha na hb nb h;omega);refine yn2.run [(12,[.frz 60]),(22,[.join]),(23,[.frz 56,.frz 75])] Go.Proofs.Tryz.func113 rfl rfl ?_;simp only [Go.Proofs.Tryz.f113];refine rgR ?_;refine v1h (xxj a b ha na hb nb (by omega) (by omega)) ?_;refine rg ?_;refine z08 (fun h=>absurd h hord) (fun _=>?_);refine rg ?_;refine z08 (fun h=>absurd h (by omega)) (fun h=>?_)
 have htop:1<=b.getD (b.length-1) 0/\b.getD (b.length-1) 0<=1048575:=by
  have h1:=hb.getD (b.length-1);have h2:=nb (fun e=>by rw [e] at lb;simp at lb);omega
 have eb:((b.length:Int)-1).toNat=b.length-1:=by omega
 refine rg ?_;refine vxs [0,1] (fun s:Nat=>[(8,.one (.raw (.int .i64 (s:Int))))])
  (fun s=>1<=s/\s<=1048575) (fun s=>1048576-s) 1
  (by omega) ?_ ?_
 . refine rg ?_;exact StLe.weaken (by repeat' first | exact .nil | refine .cons (by first | exact .refl _ | exact .any _) ?_) rfl
 rintro s ⟨hs1,hs2⟩;refine rg1 @eb ?_;have hprod:0<=b.getD (b.length-1) 0*(s:Int)/\b.getD (b.length-1) 0*(s:Int)<=1048575*1048575:=⟨Int.mul_nonneg (by omega) (by omega),Int.mul_le_mul htop.2 (by omega) (by omega) (by decide)⟩;refine rg1 @eb ?_;refine z08 (fun h1=>?_) (fun h1=>?_)
 . have hs:(s:Int)<524288:=by
    have:=Int.mul_le_mul_of_nonneg_right htop.1 (show (0:Int)<=s by omega)
    omega
   refine rg ?_;exact ⟨2*s,by omega,by omega,by simp only [go_sem,Int.natCast_mul,Int.mul_comm];exact StLe.weaken (by repeat' first | exact .nil | refine .cons (by first | exact .refl _ | exact .any _) ?_) rfl⟩
 refine rg ?_;have hds:digits [(s:Int)]:=digits.cons (by omega) digits.nil
 have hns:num [(s:Int)]=s:=by simp [num]
 refine v1h (y5t a [(s:Int)] ha hds (by omega) (by simp)) ?_;have hna0:0<=num a*s:=Int.mul_nonneg (by omega) (by omega);have hnb0:0<num b*s:=Int.mul_pos hbp (by omega);rw [hns];have hU:=hUf s;have hV:=hVf s
 have hUd:digits (Uf s):=by rw [hU];exact wo6 _
 have hVd:digits (Vf s):=by rw [hV];exact wo6 _
 have hUn:num (Uf s)=num a*s:=by rw [hU,yn8];omega
 have hVn:num (Vf s)=num b*s:=by rw [hV,yn8];omega
 have hVnorm:norm (Vf s):=by rw [hV];exact yrd _
 have hxs:∀ x:Int,0<=x->x<=x*s:=fun x hx=>by
  have:=Int.mul_le_mul_of_nonneg_left (show (1:Int)<=s by omega) hx
  rwa [Int.mul_one] at this
 have haU:a.length<=(Uf s).length:=by
  have e:=congrArg List.length (yke ha na);rw [hU,e];refine wxv ?_
  have:=hxs (num a) (by omega)
  omega
 have hbV:b.length<=(Vf s).length:=by
  have e:=congrArg List.length (yke hb nb);rw [hV,e];refine wxv ?_
  have:=hxs (num b) (by omega)
  omega
 have hVU:(Vf s).length<=(Uf s).length:=by
  rw [hU,hV];refine wxv ?_
  have:num b*s<=num a*s:=Int.mul_le_mul_of_nonneg_right hle (by omega)
  omega
 have hUl:(Uf s).length<=1073741825:=by
  have h1:(Uf s).length<=a.length+1:=by
   rw [hU];apply vwv;have h1:=xxq ha;have h2:num a*(s:Int)<=num a*1048576:=Int.mul_le_mul_of_nonneg_left (by omega) (by omega)
   have h3:((1048576 ^ (a.length+1):Nat):Int)=1048576 ^ a.length*1048576:=by rw [Nat.pow_succ];simp
   omega
  omega
 rw [<-hU];refine rg ?_;refine v1h (y5t b [(s:Int)] hb hds (by omega) (by simp)) ?_;rw [hns,<-hV];refine rg ?_;refine z08 (fun h2=>absurd h2 (by simp;omega)) (fun h2=>?_);obtain ⟨u,hu⟩:∃ u,u=(Uf s)++[0]:=⟨_,rfl⟩;rw [<-hu]
 have hud:digits u:=by rw [hu];exact hUd.append (digits.cons (by decide) digits.nil)
 have hun:num u=num a*s:=by rw [hu,xtv];simp [num,hUn]
 have hul:u.length=(Uf s).length+1:=by rw [hu];simp
 have hVne:(Vf s)≠[]:=fun e=>by
  have:=congrArg List.length e
  simp only [List.length_nil] at this;omega
 have hV0:0<num (Vf s):=norm.pos hVd hVnorm hVne;obtain ⟨m,hm⟩:∃ m,u.length=m+(Vf s).length:=⟨u.length-(Vf s).length,by omega⟩
 have hm1:((u.length:Int)-(Vf s).length).toNat=m:=by omega
 have hult:num u<num (Vf s)*1048576 ^ m:=by
  rw [hun,<-hUn];have h3:=xxq hUd;have h4:=zpk hVd hVnorm hVne;have h5:=Int.mul_le_mul_of_nonneg_right h4 (Int.le_of_lt (zou m))
  have e:(Uf s).length=(Vf s).length-1+m:=by omega
  rw [e,Int.pow_add] at h3;omega
 have hord2:u.length<=1073741826:=by omega
 clear hu h2;refine rg1 @hm1 ?_;refine vxs [8,9,10,11,12] (fun x:Nat×List Int×List Int=>[(13,.one (.raw (.int .i64 ((x.1:Int)-1)))),(56,.arr [] (.ints .i64 x.2.1) none),(75,.arr [] (.ints .i64 x.2.2) none)])
  (fun x=>x.1<=m/\x.2.1.length=u.length/\digits x.2.1/\x.2.2.length=m/\digits x.2.2/\num a*s=num (Vf s)*(1048576 ^ x.1*num (x.2.2.drop x.1))+num x.2.1/\num x.2.1<num (Vf s)*1048576 ^ x.1)
  (fun x=>x.1) (m,u,List.replicate m 0)
  ⟨Nat.le_refl _,rfl,hud,by simp,digits.rep _,by simp [num,hun],hult⟩ ?_ ?_
 . refine rg ?_;exact StLe.weaken (by repeat' first | exact .nil | refine .cons (by first | exact .refl _ | exact .any _) ?_) rfl
 rintro ⟨j,w,q⟩ ⟨hj,hw,hwd,hq,hqd,he,hlt⟩;simp only at hj hw hwd hq hqd he hlt;refine rg ?_;refine z08 (fun h3=>?_) (fun h3=>?_)
 . obtain ⟨i,rfl⟩:∃ i,j=i+1:=⟨j-1,by omega⟩
   have ei:((i+1:Nat):Int)-1=(i:Nat):=by omega
   have e1:((i:Int)+(Vf s).length).toNat=i+(Vf s).length:=by omega
   have e2:((i:Int)+(Vf s).length-1).toNat=i+((Vf s).length-1):=by omega
   have e3:(((Vf s).length:Int)-1).toNat=(Vf s).length-1:=by omega
   have d1:=hwd.getD (i+(Vf s).length);have d2:=hwd.getD (i+((Vf s).length-1));have d3:=hVd.getD ((Vf s).length-1);have d4:=hVnorm hVne
   conv=>simp (maxSteps:=2000000) (disch:=omega) only [go_sem,Nat.reduceAdd,Nat.reduceSub,Nat.reduceMul,Int.reduceToNat,Nat.reduceEqDiff,Nat.reduceBEq,Nat.reduceBneDiff,ei,e1,e2,e3,yzv,or20]
   refine indk (by kernel_rfl) ?_;obtain ⟨T,hT⟩:∃ T,T=w.getD (i+(Vf s).length) 0*1048576+w.getD (i+((Vf s).length-1)) 0:=⟨_,rfl⟩;obtain ⟨v1,hv1⟩:∃ v1,v1=(Vf s).getD ((Vf s).length-1) 0:=⟨_,rfl⟩;rw [<-hT];rw [<-hv1] at d3 d4
   have hT0:0<=T/\T<1099511627776:=by omega
   conv=>simp (maxSteps:=2000000) (disch:=omega) only [go_sem,Nat.reduceAdd,Nat.reduceSub,Nat.reduceMul,Int.reduceToNat,Nat.reduceEqDiff,Nat.reduceBEq,Nat.reduceBneDiff,ei,e1,e2,e3,<-hv1]
   have hq0:T.tdiv v1=T / v1:=Int.tdiv_eq_ediv_of_nonneg hT0.1;have hm0:T.tmod v1=T % v1:=Int.tmod_eq_emod_of_nonneg hT0.1;have hq1:0<=T / v1:=Int.ediv_nonneg hT0.1 (by omega);have hq2:T / v1<=T:=Int.ediv_le_self _ hT0.1;have hm1':0<=T % v1:=Int.emod_nonneg _ (by omega);have hm2:T % v1<v1:=Int.emod_lt_of_pos _ (by omega);have hdm:=Int.emod_add_mul_ediv T v1;rw [hq0,hm0]
   conv=>simp (maxSteps:=2000000) (disch:=omega) only [go_sem,Nat.reduceAdd,Nat.reduceSub,Nat.reduceMul,Int.reduceToNat,Nat.reduceEqDiff,Nat.reduceBEq,Nat.reduceBneDiff,ei,e1,e2,e3,<-hv1]
   refine indk (by kernel_rfl) ?_;refine rg ?_
   have hn2:2<=(Vf s).length:=by omega
   have e4:((i:Int)+(Vf s).length-2).toNat=i+((Vf s).length-2):=by omega
   have e5:(((Vf s).length:Int)-2).toNat=(Vf s).length-2:=by omega
   have e6:((i:Int)+(Vf s).length+1).toNat=i+((Vf s).length+1):=by omega
   have hin:i+((Vf s).length+1)<=w.length:=by omega
   have hWlen:((w.drop i).take ((Vf s).length+1)).length=(Vf s).length+1:=by simp;omega
   obtain ⟨u2,hu2⟩:∃ u2,u2=w.getD (i+((Vf s).length-2)) 0:=⟨_,rfl⟩;obtain ⟨v2,hv2⟩:∃ v2,v2=(Vf s).getD ((Vf s).length-2) 0:=⟨_,rfl⟩;have hW:=v2e _ (Vf s).length hn2 hWlen;rw [xkt (by omega),xkt (by omega),xkt (by omega),<-hT,<-hu2] at hW;have hVt:=xob (Vf s) (Vf s).length hn2 rfl;rw [<-hv1,<-hv2] at hVt;have hWd:digits ((w.drop i).take ((Vf s).length+1)):=(hwd.drop i).take _;have hw0:=xxq (hWd.take ((Vf s).length-2));have hw1:=num_nonneg (hWd.take ((Vf s).length-2));have hv0:=xxq (hVd.take ((Vf s).length-2));have hv0':=num_nonneg (hVd.take ((Vf s).length-2));rw [List.length_take,hWlen,Nat.min_eq_left (by omega)] at hw0;rw [List.length_take,Nat.min_eq_left (by omega)] at hv0;have hP:=zou ((Vf s).length-2);have hW0:=num_nonneg hWd;have du:=hwd.getD (i+((Vf s).length-2));have dv:=hVd.getD ((Vf s).length-2);rw [<-hu2] at du;rw [<-hv2] at dv;obtain ⟨W,hWW⟩:∃ W,W=num ((w.drop i).take ((Vf s).length+1)):=⟨_,rfl⟩;rw [<-hWW] at hW hW0;refine zu4 [8,9,10,11,12,13] (fun g:Int=>[(15,.one (.raw (.int .i64 g)))])
    (fun g=>0<=g/\g<=1048575/\W<(g+1)*num (Vf s)/\(g-1)*num (Vf s)<=W) ?_ ?_
   . refine rg ?_
     have hinit:W<(T / v1+1)*num (Vf s):=by
      refine y59 hP hW hw0 du.2 hVt hv0' dv.1 ?_ hq1
      have:(T / v1+1)*v1=v1*(T / v1)+v1:=by grind
      omega
     refine vxs [8,9,10,11,12,13,14] (fun x:Int×Int=>[(15,.one (.raw (.int .i64 x.1))),(16,.one (.raw (.int .i64 x.2)))])
      (fun x=>0<=x.1/\T=x.1*v1+x.2/\W<(x.1+1)*num (Vf s)/\0<=x.2/\x.1<=T)
      (fun x=>x.1.toNat) (T / v1,T % v1) ⟨hq1,by dsimp only;rw [Int.mul_comm];omega,hinit,hm1',hq2⟩ ?_ ?_
     . refine rg ?_;exact StLe.weaken (by repeat' first | exact .nil | refine .cons (by first | exact .refl _ | exact .any _) ?_) rfl
     rintro ⟨g,r⟩ ⟨hg0,hgT,hgW,hr0,hgT2⟩;simp only at hg0 hgT hgW hr0 hgT2;have hgv:0<=g*v1:=Int.mul_nonneg hg0 (by omega)
     have hrT:r<=T:=by omega
     refine rg ?_
     have hfin:g<=1048575->(1048576<=r\/g*v2<=r*1048576+u2)->(g-1)*num (Vf s)<=W:=fun hg1 hc=>
      vpk hP hW hw1 du.1 hVt hv0 (by omega) dv hV0 hW0 hg0 hg1 hgT hc
     have hdec:W<g*num (Vf s)->0<g/\T=(g-1)*v1+(r+v1)/\W<(g-1+1)*num (Vf s):=fun h=>by
      refine ⟨?_,?_,?_⟩
      . rcases Int.lt_or_le 0 g with h' | h'
        . exact h'
        . have:g=0:=by omega
          subst this;omega
      . rw [hgT];grind
      . rw [show g-1+1=g by omega];exact h
     refine xjr (fun h4=>?_) (fun h4=>?_)
     . refine rg1 @h4 ?_;refine z4u (fun h5=>?_) (fun h5=>?_)
       . have hgv2:0<=g*v2/\g*v2<=1048575*1048575:=⟨Int.mul_nonneg hg0 dv.1,Int.mul_le_mul (by omega) dv.2 dv.1 (by decide)⟩
         conv=>simp (maxSteps:=2000000) (disch:=omega) only [go_sem,Nat.reduceAdd,Nat.reduceSub,Nat.reduceMul,Int.reduceToNat,Nat.reduceEqDiff,Nat.reduceBEq,Nat.reduceBneDiff,h4,h5,ei,e1,e4,e5,<-hv2,<-hu2,yzv,or20]
         refine indk (by kernel_rfl) ?_;refine rg ?_;refine z08 (fun h6=>?_) (fun h6=>?_)
         . obtain ⟨g1,g2,g3⟩:=hdec (wi4 hP hW hw0 hVt hv0' hg0 hgT h6)
           conv=>simp (maxSteps:=2000000) (disch:=omega) only [go_sem,Nat.reduceAdd,Nat.reduceSub,Nat.reduceMul,Int.reduceToNat,Nat.reduceEqDiff,Nat.reduceBEq,Nat.reduceBneDiff,e3,<-hv1]
           exact ⟨(g-1,r+v1),⟨by dsimp only;omega,g2,g3,by dsimp only;omega,by dsimp only;omega⟩,by dsimp only;omega,StLe.weaken (by repeat' first | exact .nil | refine .cons (by first | exact .refl _ | exact .any _) ?_) rfl⟩
         . refine rg ?_;exact ⟨g,⟨hg0,by omega,hgW,hfin (by omega) (.inr (by omega))⟩,StLe.weaken (by repeat' first | exact .nil | refine .cons (by first | exact .refl _ | exact .any _) ?_) rfl⟩
       . refine rg2 @h4 @h5 ?_;refine indk (by kernel_rfl) ?_;refine rg2 @h4 @h5 ?_;exact ⟨g,⟨hg0,by omega,hgW,hfin (by omega) (.inl (by omega))⟩,StLe.weaken (by repeat' first | exact .nil | refine .cons (by first | exact .refl _ | exact .any _) ?_) rfl⟩
     . have hWB:W<num (Vf s)*1048576:=by
        have h7:=vhw w i ((Vf s).length+1) hin;rw [<-hWW] at h7;have h8:=Int.mul_nonneg (Int.le_of_lt (zou (i+((Vf s).length+1)))) (num_nonneg (hwd.drop (i+((Vf s).length+1))));have h9:=num_nonneg (hwd.take i);rw [Int.pow_succ] at hlt;refine Int.lt_of_mul_lt_mul_left (a:=1048576 ^ i) ?_ (Int.le_of_lt (zou i))
        have:(1048576:Int) ^ i*(num (Vf s)*1048576)=num (Vf s)*(1048576 ^ i*1048576):=by grind
        omega
       have hlow:W<g*num (Vf s):=by
        have:=Int.mul_le_mul_of_nonneg_right h4 (Int.le_of_lt hV0)
        omega
       obtain ⟨g1,g2,g3⟩:=hdec hlow;refine rg1 @h4 ?_;refine indk (by kernel_rfl) ?_
       conv=>simp (maxSteps:=2000000) (disch:=omega) only [go_sem,Nat.reduceAdd,Nat.reduceSub,Nat.reduceMul,Int.reduceToNat,Nat.reduceEqDiff,Nat.reduceBEq,Nat.reduceBneDiff,h4,e3,<-hv1]
       exact ⟨(g-1,r+v1),⟨by dsimp only;omega,g2,g3,by dsimp only;omega,by dsimp only;omega⟩,by dsimp only;omega,StLe.weaken (by repeat' first | exact .nil | refine .cons (by first | exact .refl _ | exact .any _) ?_) rfl⟩
   . intro g hg;have hg:0<=g/\g<=1048575/\W<(g+1)*num (Vf s)/\(g-1)*num (Vf s)<=W:=hg;have hg0:=hg.1;have hg1:=hg.2.1;have hgW:=hg.2.2.1;have hgl:=hg.2.2.2;have hsp:=xu8 hgl hgW hV0 hW0 ⟨hg0,hg1⟩;refine rg1 @e6 ?_;rw [show i+((Vf s).length+1)-i=(Vf s).length+1 by omega];refine ownk (y1l w (Vf s) i ((Vf s).length+1) g hwd hVd (by omega) hin (by omega) ⟨hg0,hg1⟩ (by rw [<-hWW];exact hgl)) ?_;rw [<-hWW];generalize settled W (num (Vf s)) g=G at *;obtain ⟨hG0,hG1,hG2,hG3⟩:=hsp;obtain ⟨D,hD⟩:∃ D,D=fixd ((Vf s).length+1) (W-G*num (Vf s)):=⟨_,rfl⟩
     have hDl:D.length=(Vf s).length+1:=by rw [hD];exact wpd _ _
     have hDd:digits D:=by rw [hD];exact xvy _ _
     have hGV:(G+1)*num (Vf s)=G*num (Vf s)+num (Vf s):=by grind
     have hDn:num D=W-G*num (Vf s):=by
      rw [hD];refine x8e _ _ (by omega) ?_;have h7:=xxq hVd;have h8:=wqr (show (Vf s).length<=(Vf s).length+1 by omega);omega
     rw [<-hD];refine rg1 @hDl ?_;have h7:=vhw w i ((Vf s).length+1) hin;have h8:=y3m w D i ((Vf s).length+1) hin hDl;rw [<-hWW] at h7;rw [hDn] at h8;have hA0:=num_nonneg (hwd.take i);have hA1:=xxq (hwd.take i);rw [List.length_take,Nat.min_eq_left (by omega)] at hA1
     have hX0:num (w.drop (i+((Vf s).length+1)))=0:=by
      have hX:=num_nonneg (hwd.drop (i+((Vf s).length+1)))
      rcases Int.lt_or_le 0 (num (w.drop (i+((Vf s).length+1)))) with h9 | h9
      . have k1:=Int.mul_le_mul_of_nonneg_left (show (1:Int)<=num (w.drop (i+((Vf s).length+1))) by omega) (Int.le_of_lt (zou (i+((Vf s).length+1))));have k2:=Int.mul_nonneg (Int.le_of_lt (zou i)) hW0;have k3:=Int.mul_lt_mul_of_pos_right (xxq hVd) (zou (i+1))
        have k4:(1048576:Int) ^ (Vf s).length*1048576 ^ (i+1)=1048576 ^ (i+((Vf s).length+1)):=by rw [<-Int.pow_add];congr 1;omega
        omega
      . omega
     rw [hX0,Int.mul_zero,Int.add_zero] at h7 h8;refine ⟨(i,w.take i++D++w.drop (i+((Vf s).length+1)),q.set i G),⟨by dsimp only;omega,?_,((hwd.take i).append hDd).append (hwd.drop _),by simpa using hq,hqd.set i ⟨hG0,hG1⟩,?_,?_⟩,by dsimp only;omega,StLe.weaken (by repeat' first | exact .nil | refine .cons (by first | exact .refl _ | exact .any _) ?_) rfl⟩
     . dsimp only;rw [List.length_append,List.length_append,List.length_take,List.length_drop,hDl];omega
     . dsimp only;rw [x7k G (by omega),h8,he,h7,Int.pow_succ];simp only [num]
       grind
     . dsimp only;rw [h8];have k1:=Int.mul_le_mul_of_nonneg_left (show W-G*num (Vf s)<=num (Vf s)-1 by omega) (Int.le_of_lt (zou i))
       have k2:(1048576:Int) ^ i*(num (Vf s)-1)=num (Vf s)*1048576 ^ i-1048576 ^ i:=by grind
       omega
 . have h0:j=0:=by omega
   subst h0;simp only [Int.pow_zero,Int.one_mul,List.drop_zero,Int.mul_one] at he hlt;refine rg ?_;refine v1h (xam w (by omega)) ?_;rw [xrr hwd rfl];have hwn:=num_nonneg hwd;have hqn:=num_nonneg hqd
   have e7:num (dig (num w).toNat)=num w:=by rw [yn8];omega
   have hlw:(dig (num w).toNat).length<=w.length:=by rw [<-zzz hwd];exact zhu w
   refine rg ?_;refine v1h (yak (dig (num w).toNat) s (wo6 _) (by omega) (by omega)) ?_;rw [e7];refine rg ?_;refine v1h (xam q (by omega)) ?_;rw [xrr hqd rfl];refine rg ?_;refine ⟨_,rfl,?_⟩;rw [hVn] at he hlt;obtain ⟨hq',hr'⟩:=ws7 (show (0:Int)<s by omega) hbp he hwn hlt;rw [hq',hr'];exact .tup (.cons (.refl _) (.cons (.refl _) .nil))
theorem xv2 (a b:List Int) (ha:digits a) (na:norm a) (hb:digits b) (nb:norm b) (la:a.length<=1073741824) (lb:2<=b.length) (hle:num b<=num a) :
 yn2 prog 113 [.one (.ints .i64 a),.one (.ints .i64 b)] (.tup [.one (.ints .i64 (dig (num a / num b).toNat)),.one (.ints .i64 (dig (num a % num b).toNat))]):=
 y0i a b (fun s=>dig (num a*(s:Int)).toNat) (fun s=>dig (num b*(s:Int)).toNat) (fun _=>rfl) (fun _=>rfl) ha na hb nb la lb hle
end Go.Slot.T
namespace Go.Slot.T
open Go Go.RowKit Go.Slot
open Go.Proofs.Tryz (prog)
set_option maxRecDepth 10000
set_option maxHeartbeats 4000000
abbrev okZ (z:Int):Prop:=(dig z.natAbs).length<=268435456
theorem zcq (z:Int) (hz:okZ z):yn2 prog 53 [.agg [.raw (.int .i64 (sg z)),.ints .i64 (dig z.natAbs)]] (.one (.raw (.bool true))):=by
 have h:=xz2 (sg z) (dig z.natAbs) (by omega);rw [decide_eq_true (xpw z)] at h;exact h
theorem yr5 (s:Int) (L:List Int) (hL:L.length<=268435456) (h:¬xhn s L):yn2 prog 53 [.agg [.raw (.int .i64 s),.ints .i64 L]] (.one (.raw (.bool false))):=by
 have h':=xz2 s L (by omega);rw [decide_eq_false h] at h';exact h'
theorem vgq (s z:Int) (hz:(dig z.natAbs).length<=1073741824) (h:(s=1/\0<=z)\/(s = -1/\z<=0)\/z=0) :
 yn2 prog 114 [.one (.raw (.int .i64 s)),.one (.ints .i64 (dig z.natAbs))] (.agg [.raw (.int .i64 (sg z)),.ints .i64 (dig z.natAbs)]):=by
 have h':=y7y s (dig z.natAbs) (by omega);unfold bigC at h';rw [vam h] at h';exact h'
theorem ypp (z:Int):yn2 prog 111 [.one (.raw (.bool true)),.agg [.raw (.int .i64 (sg z)),.ints .i64 (dig z.natAbs)]]
 (.tup [.agg [.raw (.int .i64 (sg z)),.ints .i64 (dig z.natAbs)],.one (.raw (.int .i64 0))]):=z8n true (sg z) (dig z.natAbs)
theorem x7n (x y:Int) (hx:okZ x) (hy:okZ y) :
 yn2 prog 174 [.agg [.raw (.int .i64 (sg x)),.ints .i64 (dig x.natAbs)],.agg [.raw (.int .i64 (sg y)),.ints .i64 (dig y.natAbs)]] (.one (.raw (.int .i64 (ord x y)))):=by
 have sx:=wzq x;have sy:=wzq y;refine yn2.run [] Go.Proofs.Tryz.func174 rfl rfl ?_;simp only [Go.Proofs.Tryz.f174];refine rgR ?_;refine v1h (zcq x hx) ?_;refine rg ?_;refine v1h (zcq y hy) ?_;refine rg ?_;refine z08 (fun h=>?_) (fun h=>?_)
 . refine rg ?_;refine v1h (cCmp _ _) ?_;refine rg ?_;exact ⟨_,rfl,by rw [y79 x y h];exact .one (.refl _)⟩
 . have h:sg x=sg y:=by omega
   have ho:-1<=ord (num (dig x.natAbs)) (num (dig y.natAbs))/\ord (num (dig x.natAbs)) (num (dig y.natAbs))<=1:=by unfold ord;repeat' split<;>omega
   have hm:=zn8 x y h
   have ho':-1<=ord x y/\ord x y<=1:=by unfold ord;repeat' split<;>omega
   refine rg ?_;refine v1h (xxj _ _ (wo6 _) (yrd _) (wo6 _) (yrd _) (by omega) (by omega)) ?_;refine rg1 @hm ?_;refine indk (by kernel_rfl) ?_;refine rg ?_;exact ⟨_,rfl,.one (.refl _)⟩
theorem yvd (x:Int) (hx:okZ x) :
 yn2 prog 89 [.agg [.raw (.int .i64 (sg x)),.ints .i64 (dig x.natAbs)]] (.agg [.raw (.int .i64 (sg (-x))),.ints .i64 (dig (-x).natAbs)]):=by
 have sx:=wzq x
 have e:(-x).natAbs=x.natAbs:=by omega
 have hs:=vgq (0-sg x) (-x) (by rw [e];omega) (by omega);rw [e] at hs ⊢;refine yn2.run [] Go.Proofs.Tryz.func89 rfl rfl ?_;simp only [Go.Proofs.Tryz.f89];refine rgR ?_;refine v1h (zcq x hx) ?_;refine rg ?_;refine v1h (yud _ (by omega)) ?_;refine rg ?_;refine v1h hs ?_;refine rg ?_;refine indk (by kernel_rfl) ?_;refine rg ?_;exact ⟨_,rfl,.one (.refl _)⟩
end Go.Slot.T
