/- The proof, part A28: Bc, Bd, Be, Bf, Bg, Bh, Bi, Bj. -/
import Derived.Test.YtmegdbbbllffkaaGreatDoorA27
namespace Go.Slot.T
open Go Go.RowKit Go.Slot
open Go.Proofs.Tryz (prog)
set_option maxRecDepth 10000
set_option maxHeartbeats 2000000
def bigC (s:Int) (L:List Int):List Cell:=[.raw (.int .i64 s),.ints .i64 L]
theorem y7y (s:Int) (L:List Int) (hL:L.length<4611686018427387904) :
 yn2 prog 114 [.one (.raw (.int .i64 s)),.one (.ints .i64 L)] (.agg (bigC (if xun L=[] then 0 else s) (xun L))):=by
 refine yn2.run [] Go.Proofs.Tryz.func114 rfl rfl ?_
 conv=>simp (disch:=omega) only [go_sem,Go.Proofs.Tryz.f114,List.replicate]
 refine v1h (xam L hL) ?_;rw [show L.take (z4o L L.length)=xun L from rfl]
 conv=>simp (disch:=omega) only [go_sem]
 refine z08 (fun h=>?_) (fun h=>?_)
 . have h0:xun L=[]:=by have:(xun L).length=0:=(by omega);simpa using this
   conv=>simp (disch:=omega) only [go_sem,yim]
   refine ⟨_,rfl,?_⟩;rw [h0];exact .one (.agg (.cons (.refl _) (.cons (.ysc _) .nil)))
 . have h0:xun L≠[]:=fun e=>h (by rw [e];rfl)
   conv=>simp (disch:=omega) only [go_sem,yim]
   refine ⟨_,rfl,?_⟩
   try rw [if_neg h0]
   exact .one (.refl _)
theorem z8n (b:Bool) (s:Int) (L:List Int) :
 yn2 prog 111 [.one (.raw (.bool b)),.agg (bigC s L)] (.tup [.agg (if b then bigC s L else bigC 0 []),.one (.raw (.int .i64 (if b then 0 else 1)))]):=by
 refine yn2.run [] Go.Proofs.Tryz.func111 rfl rfl ?_
 conv=>simp (disch:=omega) only [go_sem,Go.Proofs.Tryz.f111,List.replicate,bigC]
 refine wqz (fun h=>?_) (fun h=>?_)
 . have h:b=false:=by simpa using h
   subst h
   conv=>simp (disch:=omega) only [go_sem,yim]
   refine ⟨_,rfl,?_⟩;exact .tup (.cons (.agg (.cons (.refl _) (.cons (.ysc _) .nil))) (.cons (.refl _) .nil))
 . have h:b=true:=by simpa using h
   subst h
   conv=>simp (disch:=omega) only [go_sem,yim]
   refine ⟨_,rfl,?_⟩;exact .tup (.cons (.refl _) (.cons (.refl _) .nil))
theorem xl1:yn2 prog 112 [.one (.ints .i64 [])] (.one (.ints .i64 [])):=by
 refine yn2.zrt (fun b=>?_);refine yn2.run [] Go.Proofs.Tryz.func112 rfl rfl ?_
 conv=>simp (disch:=omega) only [go_sem,Go.Proofs.Tryz.f112,List.replicate]
 refine wqz (fun h=>?_) (fun h=>?_)
 . conv=>simp (disch:=omega) only [go_sem,yim]
   exact ⟨_,rfl,.one (.one (.zrt _))⟩
 . conv=>simp (disch:=omega) only [go_sem,yim]
   exact ⟨_,rfl,.one (.refl _)⟩
theorem xfv (L:List Int) (h0:0<L.length) (hL:L.length<=17592186044416):yn2 prog 112 [.one (.ints .i64 L)] (.arr [] (.ints .i64 L) none):=by
 refine yn2.run [] Go.Proofs.Tryz.func112 rfl rfl ?_
 conv=>simp (disch:=omega) only [go_sem,Go.Proofs.Tryz.f112,List.replicate,yim]
 exact ⟨_,rfl,.one (.refl _)⟩
theorem yud (L:List Int) (hL:L.length<=17592186044416):yn2 prog 112 [.one (.ints .i64 L)] (.one (.ints .i64 L)):=by
 by_cases h:L=[]
 . subst h;exact xl1
 . exact (xfv L (List.length_pos_iff.2 h) hL).le .own
theorem wu3 (a b:List Int) (ha:digits a) (hb:digits b) (la:a.length<=1099511627776) (lb:b.length<=1099511627776) :
 yn2 prog 138 [.one (.ints .i64 a),.one (.ints .i64 b)] (.one (.ints .i64 (dig (num a+num b).toNat))):=by
 refine yn2.run [(3,[.join])] Go.Proofs.Tryz.func138 rfl rfl ?_;simp only [Go.Proofs.Tryz.f138];refine rgR ?_;refine zu4 [0,1] (fun p:List Int×List Int=>[(0,.one (.ints .i64 p.1)),(1,.one (.ints .i64 p.2))])
  (fun p=>p.2.length<=p.1.length/\digits p.1/\digits p.2/\num p.1+num p.2=num a+num b/\p.1.length<=1099511627776) ?_ ?_
 . refine rg ?_;refine z08 (fun h=>?_) (fun h=>?_)
   . refine rg ?_;exact ⟨(b,a),⟨by dsimp only;omega,hb,ha,Int.add_comm _ _,lb⟩,StLe.weaken (by repeat' first | exact .nil | refine .cons (by first | exact .refl _ | exact .any _) ?_) rfl⟩
   . refine rg ?_;exact ⟨(a,b),⟨by dsimp only;omega,ha,hb,rfl,la⟩,StLe.weaken (by repeat' first | exact .nil | refine .cons (by first | exact .refl _ | exact .any _) ?_) rfl⟩
 rintro ⟨p,q⟩ ⟨hle,hp,hq,hs,hl⟩;simp only at hle hp hq hs hl;refine rg ?_;refine vxs [0,1,5,20,21] (fun x:Nat×List Int×Int=>[(6,.one (.raw (.int .i64 x.2.2))),(19,.arr [] (.ints .i64 x.2.1) none),(22,.one (.raw (.int .i64 x.1)))])
  (fun x=>x.1<=p.length/\x.2.1.length=p.length+1/\digits x.2.1/\xl7 x.2.1 x.1/\(0<=x.2.2/\x.2.2<=1)/\num x.2.1+1048576 ^ x.1*x.2.2=num (p.take x.1)+num (q.take x.1))
  (fun x=>p.length-x.1) (0,List.replicate ((p.length:Int)+1).toNat 0,0)
  ⟨Nat.zero_le _,by simp,digits.rep _,xl7.rep _,by simp,by simp [ya9,num]⟩ ?_ ?_
 . refine rg ?_;exact StLe.weaken (by repeat' first | exact .nil | refine .cons (by first | exact .refl _ | exact .any _) ?_) rfl
 rintro ⟨i,o,c⟩ ⟨hi,ho,hdo,hz,hc,hn⟩;simp only at hi ho hdo hz hc hn;refine rg ?_;refine z08 (fun h=>?_) (fun h=>?_)
 . have hpi:=hp.getD i;have hqi:=hq.getD i;refine rg ?_;have hz0:=hz i (Nat.le_refl _)
   have key:∀ s:Int,s=c+p.getD i 0+q.getD i 0->num (o.set i (s % 1048576))+1048576 ^ (i+1)*(s / 1048576)=num (p.take (i+1))+num (q.take (i+1)):=fun s hs=>by
    rw [vks (by omega) s,w4d,w4d,hz0,hs]
    grind
   refine z08 (fun h1=>?_) (fun h1=>?_)
   . refine rg2 @vuf @v2y ?_
     exact ⟨(i+1,o.set i ((c+p.getD i 0+q.getD i 0) % 1048576),(c+p.getD i 0+q.getD i 0) / 1048576),
      ⟨by dsimp only;omega,by simpa using ho,hdo.set i (by omega),hz.set _,by dsimp only;omega,key _ rfl⟩,by dsimp only;omega,StLe.weaken (by repeat' first | exact .nil | refine .cons (by first | exact .refl _ | exact .any _) ?_) rfl⟩
   . refine rg2 @vuf @v2y ?_;have hq0:=vv7 (l:=q) (i:=i) (by omega)
     exact ⟨(i+1,o.set i ((c+p.getD i 0) % 1048576),(c+p.getD i 0) / 1048576),
      ⟨by dsimp only;omega,by simpa using ho,hdo.set i (by omega),hz.set _,by dsimp only;omega,key _ (by omega)⟩,by dsimp only;omega,StLe.weaken (by repeat' first | exact .nil | refine .cons (by first | exact .refl _ | exact .any _) ?_) rfl⟩
 . refine rg ?_
   have hip:i=p.length:=by omega
   subst hip
   have hlen:(o.set p.length c).length<4611686018427387904:=by simp;omega
   have hnum:num (o.set p.length c)=num a+num b:=by
    rw [y8v _ _ _ (by omega),hz _ (Nat.le_refl _),<-hs];rw [zvp (Nat.le_refl _),zvp hle] at hn;rw [<-hn];grind
   have hdig:digits (o.set p.length c):=hdo.set _ (by omega);rw [show o.length=(o.set p.length c).length by simp];generalize o.set p.length c=r at *;have htr:=zdf r r.length;refine ownk (wlw r _ rfl hlen) ?_;refine rg ?_;exact ⟨_,rfl,by rw [v6x hdig hnum];exact .own⟩
theorem viv (a b:List Int) (ha:digits a) (hb:digits b) (la:a.length<=1099511627776) (hlen:b.length<=a.length) (hle:num b<=num a) :
 yn2 prog 139 [.one (.ints .i64 a),.one (.ints .i64 b)] (.one (.ints .i64 (dig (num a-num b).toNat))):=by
 by_cases hnil:a=[]
 . subst hnil;have hb0:b=[]:=List.eq_nil_of_length_eq_zero (by simpa using hlen);subst hb0;refine yn2.run [] Go.Proofs.Tryz.func139 rfl rfl ?_;simp only [Go.Proofs.Tryz.f139];refine rgR ?_;refine v1h xl1 ?_;refine rg ?_;refine xyc (fun _:Unit=>[(14,.any)]) (fun _=>True) (fun _=>0) () trivial ?_ ?_
   . refine rg ?_;exact StLe.weaken (by repeat' first | exact .nil | refine .cons (by first | exact .refl _ | exact .any _) ?_) rfl
   rintro ⟨⟩ _;refine rg ?_;refine z08 (fun h=>?_) (fun h=>?_)
   . exact absurd h (by simp)
   . refine rg ?_;refine v1h (xam [] (by decide)) ?_;refine rg ?_;refine ⟨_,rfl,?_⟩;rw [show num []-num []=0 from rfl,show (0:Int).toNat=0 from rfl,ylp];exact .one (.refl _)
 have hpos:0<a.length:=List.length_pos_iff.2 hnil;refine yn2.run [] Go.Proofs.Tryz.func139 rfl rfl ?_;simp only [Go.Proofs.Tryz.f139];refine rgR ?_;refine v1h (xfv a hpos (by omega)) ?_;refine rg ?_;refine vxs [0,1,5,11,12] (fun x:Nat×List Int×Int=>[(6,.one (.raw (.int .i64 x.2.2))),(10,.arr [] (.ints .i64 x.2.1) none),(13,.one (.raw (.int .i64 x.1)))])
  (fun x=>x.1<=a.length/\x.2.1.length=a.length/\digits x.2.1/\(0<=x.2.2/\x.2.2<=1)/\num x.2.1-1048576 ^ x.1*x.2.2=num a-num (b.take x.1))
  (fun x=>a.length-x.1) (0,a,0)
  ⟨Nat.zero_le _,rfl,ha,by simp,by simp [num]⟩ ?_ ?_
 . refine rg ?_;exact StLe.weaken (by repeat' first | exact .nil | refine .cons (by first | exact .refl _ | exact .any _) ?_) rfl
 rintro ⟨i,o,c⟩ ⟨hi,ho,hdo,hc,hn⟩;simp only at hi ho hdo hc hn;refine rg ?_;refine z08 (fun h=>?_) (fun h=>?_)
 . have hoi:=hdo.getD i;have hbi:=hb.getD i;refine rg ?_
   have key:∀ s:Int,s=o.getD i 0-c-b.getD i 0->num (o.set i (s % 1048576))-1048576 ^ (i+1)*(s / 1048576 % 2)=num a-num (b.take (i+1)):=fun s hs=>by
    have h1:=vks (o:=o) (i:=i) (by omega) s
    have h2:s / 1048576 % 2 = - (s / 1048576):=by omega
    rw [w4d,h2];rw [hs] at h1 ⊢
    grind
   refine z08 (fun h1=>?_) (fun h1=>?_)
   . refine rg3 @vuf @and1 @v2y ?_
     exact ⟨(i+1,o.set i ((o.getD i 0-c-b.getD i 0) % 1048576),(o.getD i 0-c-b.getD i 0) / 1048576 % 2),
      ⟨by dsimp only;omega,by simpa using ho,hdo.set i (by omega),by dsimp only;omega,key _ rfl⟩,by dsimp only;omega,StLe.weaken (by repeat' first | exact .nil | refine .cons (by first | exact .refl _ | exact .any _) ?_) rfl⟩
   . refine rg3 @vuf @and1 @v2y ?_;have hb0:=vv7 (l:=b) (i:=i) (by omega)
     exact ⟨(i+1,o.set i ((o.getD i 0-c) % 1048576),(o.getD i 0-c) / 1048576 % 2),
      ⟨by dsimp only;omega,by simpa using ho,hdo.set i (by omega),by dsimp only;omega,key _ (by omega)⟩,by dsimp only;omega,StLe.weaken (by repeat' first | exact .nil | refine .cons (by first | exact .refl _ | exact .any _) ?_) rfl⟩
 . refine rg ?_
   have hip:i=a.length:=by omega
   subst hip;rw [zvp hlen] at hn;have h1:=xxq hdo;have h2:=num_nonneg hdo;rw [ho] at h1
   have hc0:c=0:=by
    rcases Int.le_iff_eq_or_lt.1 hc.2 with h3 | h3
    . rw [h3] at hn;omega
    . omega
   subst hc0
   have hnum:num o=num a-num b:=by rw [<-hn];simp
   have htr:=zdf o o.length;refine ownk (wlw o _ rfl (by omega)) ?_;refine rg ?_;exact ⟨_,rfl,by rw [v6x hdo hnum];exact .own⟩
theorem y5t (a b:List Int) (ha:digits a) (hb:digits b) (la:a.length<=1099511627776) (lb:b.length<=1099511627776) :
 yn2 prog 140 [.one (.ints .i64 a),.one (.ints .i64 b)] (.arr [] (.ints .i64 (dig (num a*num b).toNat)) none):=by
 refine yn2.run [] Go.Proofs.Tryz.func140 rfl rfl ?_;simp only [Go.Proofs.Tryz.f140];refine rgR ?_;refine vxs [0,1,5,18,19] (fun x:Nat×List Int=>[(17,.arr [] (.ints .i64 x.2) none),(20,.one (.raw (.int .i64 x.1)))])
  (fun x=>x.1<=a.length/\x.2.length=a.length+b.length/\digits x.2/\xl7 x.2 (x.1+b.length)/\num x.2=num (a.take x.1)*num b)
  (fun x=>a.length-x.1) (0,List.replicate ((a.length:Int)+b.length).toNat 0)
  ⟨Nat.zero_le _,by simp;omega,digits.rep _,(xl7.rep _).mono (Nat.zero_le _),by simp [num,ya9]⟩ ?_ ?_
 . refine rg ?_;exact StLe.weaken (by repeat' first | exact .nil | refine .cons (by first | exact .refl _ | exact .any _) ?_) rfl
 rintro ⟨i,o⟩ ⟨hi,ho,hdo,hz,hn⟩;simp only at hi ho hdo hz hn;refine rg ?_;refine z08 (fun h=>?_) (fun h=>?_)
 . refine rg ?_;have hai:=ha.getD i;refine vxs [0,1,5,6,7,18,19,20,25,26] (fun x:Nat×List Int×Int=>[(8,.one (.raw (.int .i64 x.2.2))),(17,.arr [] (.ints .i64 x.2.1) none),(27,.one (.raw (.int .i64 x.1)))])
    (fun x=>x.1<=b.length/\x.2.1.length=a.length+b.length/\digits x.2.1/\xl7 x.2.1 (i+b.length)/\(0<=x.2.2/\x.2.2<=1048575)/\
      num x.2.1+1048576 ^ (i+x.1)*x.2.2=num (a.take i)*num b+1048576 ^ i*(a.getD i 0*num (b.take x.1)))
    (fun x=>b.length-x.1) (0,o,0)
    ⟨Nat.zero_le _,ho,hdo,hz,by simp,by simp [num,hn]⟩ ?_ ?_
   . refine rg ?_;exact StLe.weaken (by repeat' first | exact .nil | refine .cons (by first | exact .refl _ | exact .any _) ?_) rfl
   rintro ⟨k,o',c⟩ ⟨hk,ho',hdo',hz',hc,hn'⟩;simp only at hk ho' hdo' hz' hc hn';refine rg ?_;refine z08 (fun h1=>?_) (fun h1=>?_)
   . have hbk:=hb.getD k;have hok:=hdo'.getD (i+k);have hprod:0<=a.getD i 0*b.getD k 0/\a.getD i 0*b.getD k 0<=1048575*1048575:=⟨Int.mul_nonneg hai.1 hbk.1,Int.mul_le_mul hai.2 hbk.2 hbk.1 (by decide)⟩
     have eik:((i:Int)+k).toNat=i+k:=by omega
     refine rg3 @vuf @v2y @eik ?_;generalize hs:o'.getD (i+k) 0+a.getD i 0*b.getD k 0+c=s at *;have h2:=vks (o:=o') (i:=i+k) (by omega) s
     refine ⟨(k+1,o'.set (i+k) (s % 1048576),s / 1048576),
      ⟨by dsimp only;omega,by simpa using ho',hdo'.set _ (by omega),hz'.wkp _ (by omega),by dsimp only;omega,?_⟩,by dsimp only;omega,?_⟩
     . dsimp only;rw [w4d,show i+(k+1)=i+k+1 by omega,h2,<-hs,Int.pow_add];rw [Int.pow_add] at hn'
       grind
     . exact StLe.weaken (by repeat' first | exact .nil | refine .cons (by first | exact .refl _ | exact .any _) ?_) rfl
   . have hkb:k=b.length:=by omega
     subst hkb
     have eib:((i:Int)+b.length).toNat=i+b.length:=by omega
     have hz0:=hz' (i+b.length) (Nat.le_refl _)
     conv=>simp (maxSteps:=2000000) (disch:=omega) only [go_sem,Nat.reduceAdd,Nat.reduceSub,Nat.reduceMul,Int.reduceToNat,Nat.reduceEqDiff,Nat.reduceBEq,Nat.reduceBneDiff,eib,hz0,Int.zero_add]
     refine ⟨(i+1,o'.set (i+b.length) c),⟨by dsimp only;omega,by simpa using ho',hdo'.set _ (by omega),?_,?_⟩,by dsimp only;omega,?_⟩
     . exact (hz'.set c).mono (by dsimp only;omega)
     . dsimp only;rw [y8v _ _ _ (by omega),hz0,w4d];rw [List.take_length] at hn'
       grind
     . exact StLe.weaken (by repeat' first | exact .nil | refine .cons (by first | exact .refl _ | exact .any _) ?_) rfl
 . have hia:i=a.length:=by omega
   subst hia;rw [List.take_length] at hn;refine rg ?_;have htr:=zdf o o.length;refine ownk (wlw o _ rfl (by omega)) ?_;refine rg ?_;exact ⟨_,rfl,by rw [v6x hdo hn];exact .one (.refl _)⟩
theorem xrs {L:List Int} {n:Int} (hd:digits L) (h:num L=n):Cell.ints .i64 (L.take (z4o L L.length))=.ints .i64 (dig n.toNat):=by
 rw [<-wai hd h];rfl
theorem yak (a:List Int) (d:Int) (ha:digits a) (la:a.length<=1099511627776) (hd:1<=d/\d<=1048576) :
 yn2 prog 159 [.one (.ints .i64 a),.one (.raw (.int .i64 d))] (.tup [.one (.ints .i64 (dig (num a / d).toNat)),.one (.raw (.int .i64 (num a % d)))]):=by
 refine yn2.run [] Go.Proofs.Tryz.func159 rfl rfl ?_;simp only [Go.Proofs.Tryz.f159];refine rgR ?_;refine vxs [0,1,6] (fun x:Nat×List Int×Int=>[(7,.one (.raw (.int .i64 x.2.2))),(8,.one (.raw (.int .i64 ((x.1:Int)-1)))),(11,.arr [] (.ints .i64 x.2.1) none)])
  (fun x=>x.1<=a.length/\x.2.1.length=a.length/\digits x.2.1/\(0<=x.2.2/\x.2.2<d)/\num (a.drop x.1)=d*num (x.2.1.drop x.1)+x.2.2)
  (fun x=>x.1) (a.length,List.replicate (a.length:Int).toNat 0,0)
  ⟨Nat.le_refl _,by simp,digits.rep _,by simp;omega,by simp [num]⟩ ?_ ?_
 . refine rg ?_;exact StLe.weaken (by repeat' first | exact .nil | refine .cons (by first | exact .refl _ | exact .any _) ?_) rfl
 rintro ⟨n,o,r⟩ ⟨hn,ho,hdo,hr,he⟩;simp only at hn ho hdo hr he;refine rg ?_;refine z08 (fun h=>?_) (fun h=>?_)
 . obtain ⟨i,rfl⟩:∃ i,n=i+1:=⟨n-1,by omega⟩
   have ei:((i+1:Nat):Int)-1=(i:Nat):=by omega
   have hai:=ha.getD i;refine rg3 @ei @yzv @or20 ?_;generalize ht:r*1048576+a.getD i 0=t at *
   have ht0:0<=t:=by omega
   have htd:t<d*1048576:=by
    have:r*1048576<=(d-1)*1048576:=Int.mul_le_mul_of_nonneg_right (by omega) (by decide)
    omega
   have hq:t.tdiv d=t / d:=Int.tdiv_eq_ediv_of_nonneg ht0;have hm:t.tmod d=t % d:=Int.tmod_eq_emod_of_nonneg ht0;have hq0:0<=t / d:=Int.ediv_nonneg ht0 (by omega);have hq1:t / d<1048576:=Int.ediv_lt_of_lt_mul (by omega) (by rw [Int.mul_comm];exact htd);have hm0:0<=t % d:=Int.emod_nonneg _ (by omega);have hm1:t % d<d:=Int.emod_lt_of_pos _ (by omega);have hdm:=Int.emod_add_mul_ediv t d;rw [hq,hm];refine rg ?_;refine ⟨(i,o.set i (t / d),t % d),⟨by dsimp only;omega,by simpa using ho,hdo.set _ (by omega),by dsimp only;omega,?_⟩,by dsimp only;omega,?_⟩
   . dsimp only;rw [x7k _ (by omega),win,he];simp only [num]
     grind
   . exact StLe.weaken (by repeat' first | exact .nil | refine .cons (by first | exact .refl _ | exact .any _) ?_) rfl
 . have h0:n=0:=by omega
   subst h0;simp only [List.drop_zero] at he;refine rg ?_;have htr:=zdf o o.length;refine ownk (wlw o _ rfl (by omega)) ?_;refine rg ?_
   have hq:num a / d=num o:=by
    rw [he,Int.add_comm,Int.add_mul_ediv_left _ _ (by omega),Int.ediv_eq_zero_of_lt hr.1 hr.2];omega
   have hm:num a % d=r:=by
    rw [he,Int.add_comm,Int.add_mul_emod_self_left,Int.emod_eq_of_lt hr.1 hr.2]
   exact ⟨_,rfl,by rw [xrs hdo rfl,hq,hm];exact .tup (.cons (.refl _) (.cons (.refl _) .nil))⟩
theorem cNaN (x:Int):yn2 prog 212 [.one (.raw (.int .i64 x))] (.one (.raw (.bool false))):=by
 refine yn2.run [] Go.Proofs.Tryz.func212 rfl rfl ?_;simp only [Go.Proofs.Tryz.f212];refine rgR ?_;exact ⟨_,rfl,.one (.refl _)⟩
theorem cCmp (x y:Int):yn2 prog 192 [.one (.raw (.int .i64 x)),.one (.raw (.int .i64 y))] (.one (.raw (.int .i64 (ord x y)))):=by
 refine yn2.run [] Go.Proofs.Tryz.func192 rfl rfl ?_;simp only [Go.Proofs.Tryz.f192];refine rgR ?_;refine v1h (cNaN x) ?_;refine rg ?_;refine v1h (cNaN y) ?_;refine rg ?_;unfold ord;refine z08 (fun h=>?_) (fun h=>?_)
 . refine rg ?_;exact ⟨_,rfl,.one (.refl _)⟩
 . refine rg ?_;refine z08 (fun h1=>?_) (fun h1=>?_)
   . refine rg ?_;exact ⟨_,rfl,.one (.refl _)⟩
   . refine rg ?_;exact ⟨_,rfl,.one (.refl _)⟩
theorem xxj (a b:List Int) (ha:digits a) (na:norm a) (hb:digits b) (nb:norm b) (la:a.length<=1099511627776) (_lb:b.length<=1099511627776) :
 yn2 prog 158 [.one (.ints .i64 a),.one (.ints .i64 b)] (.one (.raw (.int .i64 (ord (num a) (num b))))):=by
 refine yn2.run [] Go.Proofs.Tryz.func158 rfl rfl ?_;simp only [Go.Proofs.Tryz.f158];refine rgR ?_;refine z08 (fun h=>?_) (fun h=>?_)
 . refine rg ?_;refine v1h (cCmp _ _) ?_;refine rg ?_;refine ⟨_,rfl,?_⟩
   have:ord (a.length:Int) b.length=ord (num a) (num b):=by
    unfold ord
    rcases Nat.lt_or_gt_of_ne (fun e:a.length=b.length=>h (by omega)) with h1 | h1
    . have:=yck ha na hb nb h1
      rw [if_pos (by omega),if_pos this]
    . have:=yck hb nb ha na h1
      rw [if_neg (by omega),if_pos (by omega),if_neg (by omega),if_pos this]
   rw [this];exact .one (.refl _)
 . have hl:a.length=b.length:=by omega
   refine rg ?_;refine vxs [0,1] (fun n:Nat=>[(5,.one (.raw (.int .i64 ((n:Int)-1))))])
    (fun n=>n<=a.length/\a.drop n=b.drop n) (fun n=>n) a.length
    ⟨Nat.le_refl _,by rw [List.drop_length,hl,List.drop_length]⟩ ?_ ?_
   . refine rg ?_;exact StLe.weaken (by repeat' first | exact .nil | refine .cons (by first | exact .refl _ | exact .any _) ?_) rfl
   rintro n ⟨hn,he⟩;refine rg ?_;refine z08 (fun h1=>?_) (fun h1=>?_)
   . obtain ⟨i,rfl⟩:∃ i,n=i+1:=⟨n-1,by omega⟩
     have ei:((i+1:Nat):Int)-1=(i:Nat):=by omega
     refine rg1 @ei ?_;refine indk (by kernel_rfl) ?_;refine rg1 @ei ?_;refine z08 (fun h2=>?_) (fun h2=>?_)
     . refine rg1 @ei ?_;refine v1h (cCmp _ _) ?_;refine rg1 @ei ?_;refine indk (by kernel_rfl) ?_;refine rg1 @ei ?_;refine ⟨_,rfl,?_⟩
       have:ord (a.getD i 0) (b.getD i 0)=ord (num a) (num b):=by
        unfold ord
        rcases Int.lt_or_gt_of_ne h2 with h3 | h3
        . have:=wyj ha hb hl i (by omega) he h3
          rw [if_pos h3,if_pos this]
        . have:=wyj hb ha hl.symm i (by omega) he.symm h3
          rw [if_neg (by omega),if_pos (by omega),if_neg (by omega),if_pos this]
       rw [this];exact .one (.refl _)
     . have h2:a.getD i 0=b.getD i 0:=by omega
       refine rg1 @ei ?_;refine ⟨i,⟨by omega,?_⟩,by omega,StLe.weaken (by repeat' first | exact .nil | refine .cons (by first | exact .refl _ | exact .any _) ?_) rfl⟩
       have e1:∀(l:List Int),i<l.length->l.drop i=l.getD i 0::l.drop (i+1):=fun l hi=>by
        rw [List.drop_eq_getElem_cons hi]
        congr 1
        simp [hi]
       rw [e1 a (by omega),e1 b (by omega),he,h2]
   . have h0:n=0:=by omega
     subst h0
     have he:a=b:=by simpa using he
     refine rg ?_;refine ⟨_,rfl,?_⟩
     have:ord (num a) (num b)=0:=by rw [he];simp [ord]
     rw [this];exact .one (.refl _)
end Go.Slot.T
namespace Go.Slot.T
open Go Go.RowKit Go.Slot
open Go.Proofs.Tryz (prog)
set_option maxRecDepth 10000
set_option maxHeartbeats 4000000
def settled (u v g:Int):Int:=if u<g*v then g-1 else g
theorem yfv (pre q:List Value) (u v:List Int) (g:Int) (hu:digits u) (hv:digits v) (lu:u.length<=1099511627776) (hl:v.length<=u.length) (hg:0<=g/\g<=1048575)
 (h1:(g-1)*num v<=num u) :
 wmo prog 161 [.arr pre (.ints .i64 u) (some q),.one (.ints .i64 v),.one (.raw (.int .i64 g))] 0
  (.arr pre (.ints .i64 (fixd u.length (num u-settled (num u) (num v) g*num v))) (some q)) (.one (.raw (.int .i64 (settled (num u) (num v) g)))):=by
 refine wmo.run [] Go.Proofs.Tryz.func161 rfl rfl (fun t h=>h) ?_;simp only [Go.Proofs.Tryz.f161];refine rgR ?_;refine vxs [1,2,12,13] (fun x:Nat×List Int×Int=>[(0,.arr pre (.ints .i64 x.2.1) (some q)),(7,.one (.raw (.int .i64 x.2.2))),(14,.one (.raw (.int .i64 x.1)))])
  (fun x=>x.1<=u.length/\x.2.1.length=u.length/\digits x.2.1/\(0<=x.2.2/\x.2.2<=1048575)/\num x.2.1-1048576 ^ x.1*x.2.2=num u-g*num (v.take x.1))
  (fun x=>u.length-x.1) (0,u,0)
  ⟨Nat.zero_le _,rfl,hu,by simp,by simp [num]⟩ ?_ ?_
 . refine rg ?_;exact StLe.weaken (by repeat' first | exact .nil | refine .cons (by first | exact .refl _ | exact .any _) ?_) rfl
 rintro ⟨i,o,c⟩ ⟨hi,ho,hdo,hc,hn⟩;simp only at hi ho hdo hc hn;refine rg ?_;refine z08 (fun h=>?_) (fun h=>?_)
 . have hoi:=hdo.getD i;have hvi:=hv.getD i;have hprod:0<=g*v.getD i 0/\g*v.getD i 0<=1048575*1048575:=⟨Int.mul_nonneg hg.1 hvi.1,Int.mul_le_mul hg.2 hvi.2 hvi.1 (by decide)⟩
   have key:∀ s:Int,s=o.getD i 0-c-g*v.getD i 0->num (o.set i (s % 1048576))-1048576 ^ (i+1)*(0-s / 1048576)=num u-g*num (v.take (i+1)):=fun s hs=>by
    have h1:=vks (o:=o) (i:=i) (by omega) s;rw [w4d];rw [hs] at h1 ⊢
    grind
   refine rg ?_;refine z08 (fun h1=>?_) (fun h1=>?_)
   . refine rg ?_;generalize hp:g*v.getD i 0=p at *;refine rg2 @vuf @v2y ?_
     exact ⟨(i+1,o.set i ((o.getD i 0-c-p) % 1048576),0-(o.getD i 0-c-p) / 1048576),
      ⟨by dsimp only;omega,by simpa using ho,hdo.set i (by omega),by dsimp only;omega,key _ rfl⟩,by dsimp only;omega,StLe.weaken (by repeat' first | exact .nil | refine .cons (by first | exact .refl _ | exact .any _) ?_) rfl⟩
   . have hv0:=vv7 (l:=v) (i:=i) (by omega);refine rg2 @vuf @v2y ?_
     exact ⟨(i+1,o.set i ((o.getD i 0-c) % 1048576),0-(o.getD i 0-c) / 1048576),
      ⟨by dsimp only;omega,by simpa using ho,hdo.set i (by omega),by dsimp only;omega,key _ (by rw [hv0];simp)⟩,by dsimp only;omega,StLe.weaken (by repeat' first | exact .nil | refine .cons (by first | exact .refl _ | exact .any _) ?_) rfl⟩
 . have hip:i=u.length:=by omega
   subst hip;rw [zvp hl] at hn;have hlt:=xxq hdo;have hnn:=num_nonneg hdo;have hvn:=num_nonneg hv;have hvl:=xxq hv;rw [ho] at hlt;refine rg ?_;refine z08 (fun hc0=>?_) (fun hc0=>?_)
   . subst hc0
     have hs:settled (num u) (num v) g=g:=by
      unfold settled;rw [if_neg];simp at hn;omega
     refine rg ?_;refine ⟨?_,rfl,rfl,rfl,?_⟩
     . rw [hs,<-yc5 hdo ho (by simpa using hn)];rfl
     . rw [hs];exact ⟨_,rfl,.one (.refl _)⟩
   . have hlow:num u-g*num v<0:=by
      have hp:(1048576:Int) ^ u.length<=1048576 ^ u.length*c:=by
       have:=Int.mul_le_mul_of_nonneg_left (show (1:Int)<=c by omega) (Int.le_of_lt (zou u.length))
       rwa [Int.mul_one] at this
      omega
     have hs:settled (num u) (num v) g=g-1:=by
      unfold settled;rw [if_pos];omega
     rw [hs]
     have hgm:(g-1)*num v=g*num v-num v:=by rw [Int.sub_mul,Int.one_mul]
     refine rg ?_
     have hbig:num o+num v=num u-(g-1)*num v+1048576 ^ u.length:=by
      have hc1:c=1:=by
       rcases Int.lt_or_gt_of_ne hc0 with h4 | h4
       . omega
       . rcases Int.lt_or_le 1 c with h5 | h5
         . have hp:(1048576:Int) ^ u.length*2<=1048576 ^ u.length*c:=Int.mul_le_mul_of_nonneg_left (by omega) (Int.le_of_lt (zou u.length));have hvu:(1048576:Int) ^ v.length<=1048576 ^ u.length:=wqr hl;omega
         . omega
      subst hc1;omega
     refine vxs [1,2,47,48] (fun x:Nat×List Int×Int=>[(0,.arr pre (.ints .i64 x.2.1) (some q)),(10,.one (.raw (.int .i64 x.2.2))),(49,.one (.raw (.int .i64 x.1)))])
      (fun x=>x.1<=u.length/\x.2.1.length=u.length/\digits x.2.1/\(0<=x.2.2/\x.2.2<=1)/\num x.2.1+1048576 ^ x.1*x.2.2=num o+num (v.take x.1))
      (fun x=>u.length-x.1) (0,o,0)
      ⟨Nat.zero_le _,ho,hdo,by simp,by simp [num]⟩ ?_ ?_
     . refine rg ?_;exact StLe.weaken (by repeat' first | exact .nil | refine .cons (by first | exact .refl _ | exact .any _) ?_) rfl
     rintro ⟨i,r,d⟩ ⟨hi',hr,hdr,hd,hn'⟩;simp only at hi' hr hdr hd hn';refine rg ?_;refine z08 (fun h=>?_) (fun h=>?_)
     . have hri:=hdr.getD i;have hvi:=hv.getD i
       have key:∀ s:Int,s=d+r.getD i 0+v.getD i 0->num (r.set i (s % 1048576))+1048576 ^ (i+1)*(s / 1048576)=num o+num (v.take (i+1)):=fun s hs=>by
        rw [vks (by omega) s,w4d,hs]
        grind
       refine rg ?_;refine z08 (fun h1=>?_) (fun h1=>?_)
       . refine rg2 @vuf @v2y ?_
         exact ⟨(i+1,r.set i ((d+r.getD i 0+v.getD i 0) % 1048576),(d+r.getD i 0+v.getD i 0) / 1048576),
          ⟨by dsimp only;omega,by simpa using hr,hdr.set i (by omega),by dsimp only;omega,key _ rfl⟩,by dsimp only;omega,StLe.weaken (by repeat' first | exact .nil | refine .cons (by first | exact .refl _ | exact .any _) ?_) rfl⟩
       . have hv0:=vv7 (l:=v) (i:=i) (by omega);refine rg2 @vuf @v2y ?_
         exact ⟨(i+1,r.set i ((d+r.getD i 0) % 1048576),(d+r.getD i 0) / 1048576),
          ⟨by dsimp only;omega,by simpa using hr,hdr.set i (by omega),by dsimp only;omega,key _ (by omega)⟩,by dsimp only;omega,StLe.weaken (by repeat' first | exact .nil | refine .cons (by first | exact .refl _ | exact .any _) ?_) rfl⟩
     . have hip:i=u.length:=by omega
       subst hip;rw [zvp hl] at hn';have hlt':=xxq hdr;have hnn':=num_nonneg hdr;rw [hr] at hlt'
       have hd1:d=1:=by
        rcases Int.le_iff_eq_or_lt.1 hd.2 with h4 | h4
        . exact h4
        . have:d=0:=by omega
          subst this;omega
       subst hd1;refine rg ?_;refine ⟨?_,rfl,rfl,rfl,?_⟩
       . rw [<-yc5 hdr hr (by omega)];rfl
       . exact ⟨_,rfl,.one (.refl _)⟩
theorem xu8 {W V g:Int} (h1:(g-1)*V<=W) (h2:W<(g+1)*V) (_hV:0<V) (hW:0<=W) (hg:0<=g/\g<=1048575) :
 0<=settled W V g/\settled W V g<=1048575/\settled W V g*V<=W/\W<(settled W V g+1)*V:=by
 unfold settled
 split
 . rename_i h;refine ⟨?_,by omega,h1,by rw [show g-1+1=g by omega];exact h⟩
   rcases Int.lt_or_le 0 g with h3 | h3
   . omega
   . have:g=0:=by omega
     subst this;omega
 . exact ⟨hg.1,hg.2,by omega,h2⟩
theorem y1l (w v:List Int) (i k:Nat) (g:Int) (hw:digits w) (hv:digits v) (hk:k<=1099511627776) (hi:i+k<=w.length) (hl:v.length<=k) (hg:0<=g/\g<=1048575)
 (h1:(g-1)*num v<=num ((w.drop i).take k)) :
 vpg prog 161 [.any,.one (.ints .i64 v),.one (.raw (.int .i64 g))] 0 (.wn (.ints .i64 w) i k)
  (.wn (.ints .i64 (fixd k (num ((w.drop i).take k)-settled (num ((w.drop i).take k)) (num v) g*num v))) i k) (.one (.raw (.int .i64 (settled (num ((w.drop i).take k)) (num v) g)))):=fun pre q=>by
 have hlen:((w.drop i).take k).length=k:=by simp;omega
 have h:=yfv pre q ((w.drop i).take k) v g ((hw.drop i).take k) hv (by omega) (by omega) hg h1;rw [hlen] at h;exact h
end Go.Slot.T
namespace Go.Slot.T
open Go Go.RowKit Go.Slot
open Go.Proofs.Tryz (prog)
set_option maxRecDepth 10000
set_option maxHeartbeats 8000000
theorem xjz (a b:List Int) (ha:digits a) (na:norm a) (hb:digits b) (nb:norm b) (la:a.length<=1073741824) (lb:b.length<=1073741824) (hlt:num a<num b) :
 yn2 prog 113 [.one (.ints .i64 a),.one (.ints .i64 b)] (.tup [.one (.ints .i64 (dig (num a / num b).toNat)),.one (.ints .i64 (dig (num a % num b).toNat))]):=by
 refine yn2.run [] Go.Proofs.Tryz.func113 rfl rfl ?_;simp only [Go.Proofs.Tryz.f113];refine rgR ?_;refine v1h (xxj a b ha na hb nb (by omega) (by omega)) ?_;refine rg ?_;refine z08 (fun h=>?_) (fun h=>?_)
 . refine rg ?_;refine v1h (yud a (by omega)) ?_;refine rg ?_;refine ⟨_,rfl,?_⟩;have h0:=num_nonneg ha;rw [Int.ediv_eq_zero_of_lt h0 hlt,Int.emod_eq_of_lt h0 hlt,<-yke ha na,show (0:Int).toNat=0 from rfl,ylp];exact .tup (.cons (.one (.zrt _)) (.cons (.refl _) .nil))
 . exact absurd (by unfold ord;rw [if_pos hlt];decide) h
theorem vkh (a b:List Int) (ha:digits a) (na:norm a) (hb:digits b) (nb:norm b) (la:a.length<=1073741824) (lb:b.length=1) (hle:num b<=num a) :
 yn2 prog 113 [.one (.ints .i64 a),.one (.ints .i64 b)] (.tup [.one (.ints .i64 (dig (num a / num b).toNat)),.one (.ints .i64 (dig (num a % num b).toNat))]):=by
 have hord:¬ord (num a) (num b)<0:=by unfold ord;rw [if_neg (by omega)];split<;>decide
 have hb0:=hb.getD 0;have hbp:=norm.pos hb nb (fun e=>by rw [e] at lb;cases lb)
 have hbn:num b=b.getD 0 0:=by
  match b,lb with
  | [d],_=>simp [num]
 refine yn2.run [] Go.Proofs.Tryz.func113 rfl rfl ?_;simp only [Go.Proofs.Tryz.f113];refine rgR ?_;refine v1h (xxj a b ha na hb nb (by omega) (by omega)) ?_;refine rg ?_;refine z08 (fun h=>absurd h hord) (fun _=>?_);refine rg ?_;refine z08 (fun h=>?_) (fun h=>absurd (by omega) h);refine rg ?_;refine v1h (yak a _ ha (by omega) (by omega)) ?_;refine rg ?_;have hr0:0<=num a % b.getD 0 0:=Int.emod_nonneg _ (by omega);have hr1:num a % b.getD 0 0<b.getD 0 0:=Int.emod_lt_of_pos _ (by omega);refine v1h (xam [num a % b.getD 0 0] (by simp)) ?_;refine rg ?_;refine ⟨_,rfl,?_⟩;have hd:digits [num a % b.getD 0 0]:=digits.cons (by omega) digits.nil
 have:=xrs (L:=[num a % b.getD 0 0]) (n:=num a % num b) hd (by rw [hbn];simp [num])
 simp only [List.length_cons,List.length_nil,Nat.zero_add] at this;rw [this,hbn];exact .tup (.cons (.refl _) (.cons (.refl _) .nil))
end Go.Slot.T
