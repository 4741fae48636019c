/- The proof, part Y34: Rb, Rc, Rd. -/
import Derived.Test.YtmegdbbbllffkaaGreatDoorY33
namespace Go.Slot.T
open Go Go.RowKit Go.Slot
open Go.Proofs.Tryz (prog)
set_option maxRecDepth 10000
set_option maxHeartbeats 4000000
theorem vl1 (l:List Int) (i:Nat):num l=num (l.take i)+1048576 ^ i*num (l.drop i):=by
 rcases Nat.lt_or_ge l.length i with h | h
 . rw [List.drop_eq_nil_of_le (by omega),xk8 (by omega)];simp [num]
 . have:=xxv l i
   rwa [List.length_take,Nat.min_eq_left h] at this
theorem vxy {l:List Int} (h:digits l) (i:Nat):num (l.take i)<1048576 ^ i:=
 Int.lt_of_lt_of_le (yey (h.take i)) (y3u (by simp;omega))
theorem vxs {a b:List Int} (ha:digits a) (hb:digits b) (i:Nat) (h:num (a.drop (i+1))=num (b.drop (i+1))) (hlt:a.getD i 0<b.getD i 0):num a<num b:=by
 rw [vl1 a i,vl1 b i,yre a,yre b,h];have h1:=vxy ha i;have h2:=num_nonneg (hb.take i);have hp:=xun i;generalize (1048576:Int) ^ i=P at *;generalize num (b.drop (i+1))=T;have h3:P*(a.getD i 0+1)<=P*b.getD i 0:=Int.mul_le_mul_of_nonneg_left (by omega) (by omega);rw [Int.mul_add,Int.mul_add];rw [Int.mul_add] at h3;omega
theorem vgx (a b:List Int) (ha:digits a) (hb:digits b) (la:a.length<=1099511627776) (lb:b.length<=1099511627776) :
 zkh prog 149 [.one (.ints .i64 a),.one (.ints .i64 b)] (.one (.raw (.bool (decide (num a<num b))))):=by
 refine zkh.run [] Go.Proofs.Tryz.func149 rfl rfl ?_;conv=>simp (maxSteps:=2000000) (disch:=omega) only [go_sem,Nat.reduceAdd,Nat.reduceSub,Nat.reduceMul,Int.reduceToNat,Nat.reduceEqDiff,Nat.reduceBEq,Nat.reduceBneDiff,Go.Proofs.Tryz.f149,List.replicate]
 refine vu2 [0,1,4] (fun n:Nat=>[(5,.one (.raw (.int .i64 ((n:Int)-1))))])
  (fun n=>n<=max a.length b.length/\num (a.drop n)=num (b.drop n)) (fun n=>n) (max a.length b.length)
  ⟨Nat.le_refl _,by rw [List.drop_eq_nil_of_le (by omega),List.drop_eq_nil_of_le (by omega)]⟩ ?_ ?_
 . refine rg ?_;rw [show (max (a.length:Int) b.length)=((max a.length b.length:Nat):Int) by omega];exact StLe.weaken (by repeat' first | exact .nil | refine .cons (by first | exact .refl _ | exact .any _) ?_) rfl
 rintro n ⟨hn,he⟩;refine rg ?_;refine zs6 (fun h=>?_) (fun h=>?_)
 . obtain ⟨i,rfl⟩:∃ i,n=i+1:=⟨n-1,by omega⟩
   have ei:((i+1:Nat):Int)-1=(i:Nat):=by omega
   conv=>simp (maxSteps:=2000000) (disch:=omega) only [go_sem,Nat.reduceAdd,Nat.reduceSub,Nat.reduceMul,Int.reduceToNat,Nat.reduceEqDiff,Nat.reduceBEq,Nat.reduceBneDiff,ei]
   refine vmb (z23 a i la (by omega)) ?_
   conv=>simp (maxSteps:=2000000) (disch:=omega) only [go_sem,Nat.reduceAdd,Nat.reduceSub,Nat.reduceMul,Int.reduceToNat,Nat.reduceEqDiff,Nat.reduceBEq,Nat.reduceBneDiff,ei]
   refine vmb (z23 b i lb (by omega)) ?_
   conv=>simp (maxSteps:=2000000) (disch:=omega) only [go_sem,Nat.reduceAdd,Nat.reduceSub,Nat.reduceMul,Int.reduceToNat,Nat.reduceEqDiff,Nat.reduceBEq,Nat.reduceBneDiff,ei]
   refine zs6 (fun h2=>?_) (fun h2=>?_)
   . have h2:a.getD i 0≠b.getD i 0:=h2
     conv=>simp (maxSteps:=2000000) (disch:=omega) only [go_sem,Nat.reduceAdd,Nat.reduceSub,Nat.reduceMul,Int.reduceToNat,Nat.reduceEqDiff,Nat.reduceBEq,Nat.reduceBneDiff,ei]
     refine vmb (z23 a i la (by omega)) ?_
     conv=>simp (maxSteps:=2000000) (disch:=omega) only [go_sem,Nat.reduceAdd,Nat.reduceSub,Nat.reduceMul,Int.reduceToNat,Nat.reduceEqDiff,Nat.reduceBEq,Nat.reduceBneDiff,ei]
     refine vmb (z23 b i lb (by omega)) ?_
     conv=>simp (maxSteps:=2000000) (disch:=omega) only [go_sem,Nat.reduceAdd,Nat.reduceSub,Nat.reduceMul,Int.reduceToNat,Nat.reduceEqDiff,Nat.reduceBEq,Nat.reduceBneDiff,ei]
     refine ⟨_,rfl,?_⟩
     have:decide (a.getD i 0<b.getD i 0)=decide (num a<num b):=by
      apply decide_eq_decide.2
      rcases Int.lt_or_gt_of_ne h2 with h3 | h3
      . have:=vxs ha hb i he h3
        exact ⟨fun _=>this,fun _=>h3⟩
      . have:=vxs hb ha i he.symm h3
        exact ⟨fun _=>by omega,fun _=>by omega⟩
     rw [this];exact .one (.refl _)
   . have h2:a.getD i 0=b.getD i 0:=by omega
     conv=>simp (maxSteps:=2000000) (disch:=omega) only [go_sem,Nat.reduceAdd,Nat.reduceSub,Nat.reduceMul,Int.reduceToNat,Nat.reduceEqDiff,Nat.reduceBEq,Nat.reduceBneDiff,ei]
     exact ⟨i,⟨by omega,by rw [yre a,yre b,he,h2]⟩,by omega,StLe.weaken (by repeat' first | exact .nil | refine .cons (by first | exact .refl _ | exact .any _) ?_) rfl⟩
 . have h0:n=0:=by omega
   subst h0
   have he:num a=num b:=by simpa using he
   refine rg ?_;exact ⟨_,rfl,by rw [decide_eq_false (by omega)];exact .one (.refl _)⟩
theorem zmp (l:List Int) (x:Int):num (l++[x])=num l+1048576 ^ l.length*x:=by rw [zws];simp [num]
theorem xe1 (a b:List Int) (ha:digits a) (hb:digits b) (la:a.length<=1073741824) (lb:b.length<=1073741824) :
 zkh prog 183 [.one (.ints .i64 a),.one (.ints .i64 b)] (.one (.ints .i64 (dig (num a+num b).toNat))):=by
 refine zkh.run [(6,[.join])] Go.Proofs.Tryz.func183 rfl rfl ?_;conv=>simp (maxSteps:=2000000) (disch:=omega) only [go_sem,Nat.reduceAdd,Nat.reduceSub,Nat.reduceMul,Int.reduceToNat,Nat.reduceEqDiff,Nat.reduceBEq,Nat.reduceBneDiff,Go.Proofs.Tryz.f183,List.replicate]
 refine vu2 [0,1,4] (fun x:Nat×List Int×Int=>[(5,.one (.tok 38 (.ints .i64 x.2.1))),(6,.one (.raw (.int .i64 x.2.2))),(7,.one (.raw (.int .i64 x.1)))])
  (fun x=>x.1<=max a.length b.length+1/\x.2.1.length=x.1/\digits x.2.1/\(0<=x.2.2/\x.2.2<=1)/\(max a.length b.length<x.1->x.2.2=0)/\num x.2.1+1048576 ^ x.1*x.2.2=num (a.take x.1)+num (b.take x.1))
  (fun x=>max a.length b.length+1-x.1) (0,[],0)
  ⟨Nat.zero_le _,rfl,digits.nil,by simp,by simp,by simp [num]⟩ ?_ ?_
 . refine StLe.trans (StLe.tokI 5 38 (.ints .i64 []) rfl rfl rfl) ?_;refine rg ?_;exact StLe.weaken (by repeat' first | exact .nil | refine .cons (by first | exact .refl _ | exact .any _) ?_) rfl
 rintro ⟨k,l,c⟩ ⟨hk,hl,hd,hc,hc0,hn⟩;simp only at hk hl hd hc hc0 hn;refine rg ?_;refine xjd [0,1,4,5,6,7] (fun _:Unit=>[]) (fun _=>k<a.length\/k<b.length\/0<c) ?_ ?_
 . refine rg ?_;refine v0c (fun h1=>?_) (fun h1=>?_)
   . conv=>simp (maxSteps:=2000000) (disch:=omega) only [go_sem,Nat.reduceAdd,Nat.reduceSub,Nat.reduceMul,Int.reduceToNat,Nat.reduceEqDiff,Nat.reduceBEq,Nat.reduceBneDiff,h1]
     refine v0c (fun h2=>?_) (fun h2=>?_)
     . conv=>simp (maxSteps:=2000000) (disch:=omega) only [go_sem,Nat.reduceAdd,Nat.reduceSub,Nat.reduceMul,Int.reduceToNat,Nat.reduceEqDiff,Nat.reduceBEq,Nat.reduceBneDiff,h2]
       refine zs6 (fun h3=>?_) (fun h3=>?_)
       . refine rg ?_;exact ⟨(),.inr (.inr h3),StLe.weaken (by repeat' first | exact .nil | refine .cons (by first | exact .refl _ | exact .any _) ?_) rfl⟩
       . have hc1:c=0:=by omega
         rw [xk8 (by omega),xk8 (by omega),hc1,Int.mul_zero,Int.add_zero] at hn;refine rg ?_;refine vmb (xge l (by omega)) ?_;refine rg ?_;exact ⟨_,rfl,by rw [yps hd hn];exact .one (.refl _)⟩
     . have h2':=decide_eq_true h2
       conv=>simp (maxSteps:=2000000) (disch:=omega) only [go_sem,Nat.reduceAdd,Nat.reduceSub,Nat.reduceMul,Int.reduceToNat,Nat.reduceEqDiff,Nat.reduceBEq,Nat.reduceBneDiff,h2']
       exact ⟨(),.inr (.inl (by omega)),StLe.weaken (by repeat' first | exact .nil | refine .cons (by first | exact .refl _ | exact .any _) ?_) rfl⟩
   . have h1':=decide_eq_true h1
     conv=>simp (maxSteps:=2000000) (disch:=omega) only [go_sem,Nat.reduceAdd,Nat.reduceSub,Nat.reduceMul,Int.reduceToNat,Nat.reduceEqDiff,Nat.reduceBEq,Nat.reduceBneDiff,h1']
     exact ⟨(),.inl (by omega),StLe.weaken (by repeat' first | exact .nil | refine .cons (by first | exact .refl _ | exact .any _) ?_) rfl⟩
 rintro _ hgo;have hak:=ha.getD k;have hbk:=hb.getD k
 have hkm:k<=max a.length b.length:=by
  rcases Nat.lt_or_ge (max a.length b.length) k with h | h
  . have:=hc0 h;omega
  . exact h
 refine rg ?_;refine vmb (z23 a k (by omega) (by omega)) ?_;refine rg ?_;refine vmb (z23 b k (by omega) (by omega)) ?_;refine rg ?_;generalize hs:a.getD k 0+b.getD k 0+c=s at *;have hm:s.tmod 1048576=s % 1048576:=Int.tmod_eq_emod_of_nonneg (by omega);have hq:s.tdiv 1048576=s / 1048576:=Int.tdiv_eq_ediv_of_nonneg (by omega)
 conv=>simp (maxSteps:=2000000) (disch:=omega) only [go_sem,Nat.reduceAdd,Nat.reduceSub,Nat.reduceMul,Int.reduceToNat,Nat.reduceEqDiff,Nat.reduceBEq,Nat.reduceBneDiff,hm,hq]
 refine ⟨(k+1,l++[s % 1048576],s / 1048576),⟨by dsimp only;omega,by simp [hl],hd.append (digits.cons (by omega) digits.nil),by dsimp only;omega,fun h=>?_,?_⟩,by dsimp only;omega,StLe.weaken (by repeat' first | exact .nil | refine .cons (by first | exact .refl _ | exact .any _) ?_) rfl⟩
 . dsimp only at h ⊢;have e1:=wgh (l:=a) (i:=k) (by omega);have e2:=wgh (l:=b) (i:=k) (by omega);omega
 . dsimp only;rw [zmp,hl,xxw,xxw,Int.pow_succ];have h:=Int.emod_add_mul_ediv s 1048576;generalize (1048576:Int) ^ k=P at *;generalize s % 1048576=r at *;generalize s / 1048576=q at *
   grind
theorem wt3 (x y:Nat) (hxy:y<=x) (la:(dig x).length<=1073741824) :
 zkh prog 184 [.one (.ints .i64 (dig x)),.one (.ints .i64 (dig y))] (.one (.ints .i64 (dig (x-y)))):=by
 have hlb:(dig y).length<=(dig x).length:=zui hxy;have hnx:=v41 x;have hny:=v41 y;have ha:=xw9 x;have hb:=xw9 y
 have hfin:(num (dig x)-num (dig y)).toNat=x-y:=by omega
 rw [<-hfin]
 have hle:num (dig y)<=num (dig x):=by omega
 clear hfin hnx hny hxy;generalize dig x=a at *;generalize dig y=b at *
 refine zkh.run [(11,[.join])] Go.Proofs.Tryz.func184 rfl rfl ?_;conv=>simp (maxSteps:=2000000) (disch:=omega) only [go_sem,Nat.reduceAdd,Nat.reduceSub,Nat.reduceMul,Int.reduceToNat,Nat.reduceEqDiff,Nat.reduceBEq,Nat.reduceBneDiff,Go.Proofs.Tryz.f184,List.replicate]
 refine vu2 [0,1,4] (fun x:Nat×List Int×Int=>[(5,.one (.tok 32 (.ints .i64 x.2.1))),(6,.one (.raw (.int .i64 x.2.2))),(7,.one (.raw (.int .i64 x.1)))])
  (fun x=>x.1<=a.length/\x.2.1.length=x.1/\digits x.2.1/\(0<=x.2.2/\x.2.2<=1)/\num x.2.1-1048576 ^ x.1*x.2.2=num (a.take x.1)-num (b.take x.1))
  (fun x=>a.length-x.1) (0,[],0)
  ⟨Nat.zero_le _,rfl,digits.nil,by simp,by simp [num]⟩ ?_ ?_
 . refine StLe.trans (StLe.tokI 5 32 (.ints .i64 []) rfl rfl rfl) ?_;refine rg ?_;exact StLe.weaken (by repeat' first | exact .nil | refine .cons (by first | exact .refl _ | exact .any _) ?_) rfl
 rintro ⟨k,l,c⟩ ⟨hk,hl,hd,hc,hn⟩;simp only at hk hl hd hc hn;refine rg ?_;refine zs6 (fun h=>?_) (fun h=>?_)
 . have hak:=ha.getD k;have hbk:=hb.getD k;refine rg ?_;refine vmb (z23 b k (by omega) (by omega)) ?_;refine rg ?_;refine indk (by kernel_rfl) ?_;refine rg ?_;generalize hs:a.getD k 0-b.getD k 0-c=s at *;refine xjd [0,1,4,5,7] (fun _:Unit=>[(6,.one (.raw (.int .i64 (if s<0 then 1 else 0)))),(8,.one (.raw (.int .i64 (if s<0 then s+1048576 else s))))]) (fun _=>True) ?_ ?_
   . refine rg ?_;refine zs6 (fun h1=>?_) (fun h1=>?_)
     . refine rg ?_;exact ⟨(),StLe.weaken (by repeat' first | exact .nil | refine .cons (by first | exact .refl _ | exact .any _) ?_) rfl⟩
     . refine rg ?_;exact ⟨(),StLe.weaken (by repeat' first | exact .nil | refine .cons (by first | exact .refl _ | exact .any _) ?_) rfl⟩
   rintro _ _;generalize hr:(if s<0 then s+1048576 else s)=r;generalize hq:(if s<0 then (1:Int) else 0)=q
   have hrq:s=r-1048576*q/\0<=r/\r<=1048575/\0<=q/\q<=1:=by
    subst hr hq
    split<;>omega
   clear hr hq;refine rg ?_;refine ⟨(k+1,l++[r],q),⟨by dsimp only;omega,by simp [hl],hd.append (digits.cons (by omega) digits.nil),by dsimp only;omega,?_⟩,by dsimp only;omega,StLe.weaken (by repeat' first | exact .nil | refine .cons (by first | exact .refl _ | exact .any _) ?_) rfl⟩;dsimp only;rw [zmp,hl,xxw,xxw,Int.pow_succ];have h:=hrq.1;generalize (1048576:Int) ^ k=P at *
   grind
 . have hka:k=a.length:=by omega
   rw [hka,xk8 (Nat.le_refl _),xk8 hlb] at hn;have hd0:=yey hd;rw [hl,hka] at hd0
   have hc0:c=0:=by
    have:=xun a.length
    rcases (show c=0\/c=1 by omega) with e | e
    . exact e
    . rw [e] at hn;omega
   rw [hc0,Int.mul_zero,Int.sub_zero] at hn;refine rg ?_;refine vmb (xge l (by omega)) ?_;refine rg ?_;exact ⟨_,rfl,by rw [yps hd hn];exact .one (.refl _)⟩
theorem wqn (a b:List Int) (ha:digits a) (hb:digits b) (la:a.length<=1073741824) (lb:b.length<=1073741824) :
 zkh prog 188 [.one (.ints .i64 a),.one (.ints .i64 b)] (.one (.ints .i64 (dig (num a*num b).toNat))):=by
 refine zkh.run [(9,[.join]),(12,[.frz 15])] Go.Proofs.Tryz.func188 rfl rfl ?_;conv=>simp (maxSteps:=2000000) (disch:=omega) only [go_sem,Nat.reduceAdd,Nat.reduceSub,Nat.reduceMul,Int.reduceToNat,Nat.reduceEqDiff,Nat.reduceBEq,Nat.reduceBneDiff,Go.Proofs.Tryz.f188,List.replicate]
 refine vu2 [0,1,4] (fun x:Nat×List Int=>[(5,.asl 15),(6,.one (.raw (.int .i64 x.1))),(15,.arr [] (.ints .i64 x.2) none)])
  (fun x=>x.1<=a.length/\x.2.length=a.length+b.length/\digits x.2/\z2e x.2 (x.1+b.length)/\num x.2=num (a.take x.1)*num b)
  (fun x=>a.length-x.1) (0,List.replicate ((a.length:Int)+b.length).toNat 0)
  ⟨Nat.zero_le _,by simp;omega,digits.rep _,(z2e.rep _).mono (Nat.zero_le _),by simp [num,yxl]⟩ ?_ ?_
 . refine rg ?_;exact StLe.weaken (by repeat' first | exact .nil | refine .cons (by first | exact .refl _ | exact .any _) ?_) rfl
 rintro ⟨i,o⟩ ⟨hi,ho,hdo,hz,hn⟩;simp only at hi ho hdo hz hn;refine rg ?_;refine zs6 (fun h=>?_) (fun h=>?_)
 . refine rg ?_;have hai:=ha.getD i;refine vu2 [0,1,4,5,6] (fun x:Nat×List Int×Int=>[(7,.one (.raw (.int .i64 x.2.2))),(8,.one (.raw (.int .i64 x.1))),(15,.arr [] (.ints .i64 x.2.1) none)])
    (fun x=>x.1<=b.length+1/\x.2.1.length=a.length+b.length/\digits x.2.1/\z2e x.2.1 (i+max x.1 b.length)/\(0<=x.2.2/\x.2.2<=1048575)/\(b.length<x.1->x.2.2=0)/\
      num x.2.1+1048576 ^ (i+x.1)*x.2.2=num (a.take i)*num b+1048576 ^ i*(a.getD i 0*num (b.take x.1)))
    (fun x=>b.length+1-x.1) (0,o,0)
    ⟨Nat.zero_le _,ho,hdo,hz.mono (by simp),by simp,by simp,by simp [num,hn]⟩ ?_ ?_
   . refine rg ?_;exact StLe.weaken (by repeat' first | exact .nil | refine .cons (by first | exact .refl _ | exact .any _) ?_) rfl
   rintro ⟨k,o',c⟩ ⟨hk,ho',hdo',hz',hc,hc0,hn'⟩;simp only at hk ho' hdo' hz' hc hc0 hn';refine rg ?_;refine xjd [0,1,4,5,6,7,8,15] (fun _:Unit=>[]) (fun _=>k<b.length\/0<c) ?_ ?_
   . refine rg ?_;refine v0c (fun h1=>?_) (fun h1=>?_)
     . conv=>simp (maxSteps:=2000000) (disch:=omega) only [go_sem,Nat.reduceAdd,Nat.reduceSub,Nat.reduceMul,Int.reduceToNat,Nat.reduceEqDiff,Nat.reduceBEq,Nat.reduceBneDiff,h1]
       refine zs6 (fun h3=>?_) (fun h3=>?_)
       . refine rg ?_;exact ⟨(),.inr h3,StLe.weaken (by repeat' first | exact .nil | refine .cons (by first | exact .refl _ | exact .any _) ?_) rfl⟩
       . have hc1:c=0:=by omega
         rw [xk8 (l:=b) (i:=k) (by omega),hc1,Int.mul_zero,Int.add_zero] at hn';refine rg ?_;refine ⟨(i+1,o'),⟨by dsimp only;omega,ho',hdo',?_,?_⟩,by dsimp only;omega,StLe.weaken (by repeat' first | exact .nil | refine .cons (by first | exact .refl _ | exact .any _) ?_) rfl⟩
         . dsimp only;exact hz'.mono (by omega)
         . dsimp only;rw [hn',xxw]
           grind
     . have h1':=decide_eq_true h1
       conv=>simp (maxSteps:=2000000) (disch:=omega) only [go_sem,Nat.reduceAdd,Nat.reduceSub,Nat.reduceMul,Int.reduceToNat,Nat.reduceEqDiff,Nat.reduceBEq,Nat.reduceBneDiff,h1']
       exact ⟨(),.inl (by omega),StLe.weaken (by repeat' first | exact .nil | refine .cons (by first | exact .refl _ | exact .any _) ?_) rfl⟩
   rintro _ hgo
   have hkb:k<=b.length:=by
    rcases Nat.lt_or_ge b.length k with h | h
    . have:=hc0 h;omega
    . exact h
   have hbk:=hb.getD k;have hok:=hdo'.getD (i+k);have hprod:0<=a.getD i 0*b.getD k 0/\a.getD i 0*b.getD k 0<=1048575*1048575:=⟨Int.mul_nonneg hai.1 hbk.1,Int.mul_le_mul hai.2 hbk.2 hbk.1 (by decide)⟩
   have eik:((i:Int)+k).toNat=i+k:=by omega
   have ho0:b.length<=k->o'.getD (i+k) 0=0/\b.getD k 0=0:=fun h=>⟨hz' _ (by omega),wgh h⟩
   conv=>simp (maxSteps:=2000000) (disch:=omega) only [go_sem,Nat.reduceAdd,Nat.reduceSub,Nat.reduceMul,Int.reduceToNat,Nat.reduceEqDiff,Nat.reduceBEq,Nat.reduceBneDiff,eik]
   refine vmb (z23 b k (by omega) (by omega)) ?_
   conv=>simp (maxSteps:=2000000) (disch:=omega) only [go_sem,Nat.reduceAdd,Nat.reduceSub,Nat.reduceMul,Int.reduceToNat,Nat.reduceEqDiff,Nat.reduceBEq,Nat.reduceBneDiff,eik]
   refine indk (by kernel_rfl) ?_
   conv=>simp (maxSteps:=2000000) (disch:=omega) only [go_sem,Nat.reduceAdd,Nat.reduceSub,Nat.reduceMul,Int.reduceToNat,Nat.reduceEqDiff,Nat.reduceBEq,Nat.reduceBneDiff,eik]
   have hc0':b.length<=k->(o'.getD (i+k) 0+a.getD i 0*b.getD k 0+c) / 1048576=0:=fun h=>by
    obtain ⟨e1,e2⟩:=ho0 h;rw [e1,e2];omega
   generalize hs:o'.getD (i+k) 0+a.getD i 0*b.getD k 0+c=s at *;have hm:s.tmod 1048576=s % 1048576:=Int.tmod_eq_emod_of_nonneg (by omega);have hq:s.tdiv 1048576=s / 1048576:=Int.tdiv_eq_ediv_of_nonneg (by omega);have h2:=w35 (o:=o') (i:=i+k) (by omega) s
   conv=>simp (maxSteps:=2000000) (disch:=omega) only [go_sem,Nat.reduceAdd,Nat.reduceSub,Nat.reduceMul,Int.reduceToNat,Nat.reduceEqDiff,Nat.reduceBEq,Nat.reduceBneDiff,hm,hq,eik]
   refine ⟨(k+1,o'.set (i+k) (s % 1048576),s / 1048576),
    ⟨by dsimp only;omega,by simpa using ho',hdo'.set _ (by omega),?_,by dsimp only;omega,fun h=>hc0' (by dsimp only at h;omega),?_⟩,by dsimp only;omega,?_⟩
   . dsimp only
     rcases Nat.lt_or_ge k b.length with h | h
     . rw [show max (k+1) b.length=max k b.length by omega];exact hz'.xem _ (by omega)
     . rw [show i+max (k+1) b.length=i+max k b.length+1 by omega,show i+k=i+max k b.length by omega];exact hz'.set _
   . dsimp only;rw [xxw,show i+(k+1)=i+k+1 by omega,h2,<-hs,Int.pow_add];rw [Int.pow_add] at hn'
     grind
   . exact StLe.weaken (by repeat' first | exact .nil | refine .cons (by first | exact .refl _ | exact .any _) ?_) rfl
 . have hia:i=a.length:=by omega
   subst hia;rw [List.take_length] at hn;refine rg ?_;refine vmb (xge o (by omega)) ?_;refine rg ?_;exact ⟨_,rfl,by rw [yps hdo hn];exact .one (.refl _)⟩
theorem xf4 {x:Int} (h:0<=x/\x<=1048575):xcd [x]=dig x.toNat:=yps (digits.cons h digits.nil) (by simp [num])
theorem vjl (x y:Nat) (hy:y≠0) (la:(dig x).length<=536870912) (lb:(dig y).length<=536870912) :
 zkh prog 147 [.one (.ints .i64 (dig x)),.one (.ints .i64 (dig y))] (.tup [.one (.ints .i64 (dig (x / y))),.one (.ints .i64 (dig (x % y)))]):=by
 have hnx:=v41 x;have ha:=xw9 x;have hny:=v41 y;have hb:=xw9 y;generalize dig x=a at *
 refine zkh.run [(6,[.lit]),(16,[.frz 14])] Go.Proofs.Tryz.func147 rfl rfl ?_;conv=>simp (maxSteps:=2000000) (disch:=omega) only [go_sem,Nat.reduceAdd,Nat.reduceSub,Nat.reduceMul,Int.reduceToNat,Nat.reduceEqDiff,Nat.reduceBEq,Nat.reduceBneDiff,Go.Proofs.Tryz.f147,List.replicate]
 refine vu2 [0,1] (fun z:Nat×List Int×Nat=>[(6,.asl 14),(7,.one (.ints .i64 (dig z.2.2))),(8,.one (.raw (.int .i64 ((z.1:Int)-1)))),(14,.arr [] (.ints .i64 z.2.1) none)])
  (fun z=>z.1<=a.length/\z.2.1.length=a.length/\digits z.2.1/\z.2.2<y/\num (a.drop z.1)=y*num (z.2.1.drop z.1)+z.2.2) (fun z=>z.1) (a.length,List.replicate (a.length:Int).toNat 0,0)
  ⟨Nat.le_refl _,by simp,digits.rep _,Nat.pos_of_ne_zero hy,by simp [num]⟩ ?_ ?_
 . conv=>simp (maxSteps:=2000000) (disch:=omega) only [go_sem,Nat.reduceAdd,Nat.reduceSub,Nat.reduceMul,Int.reduceToNat,Nat.reduceEqDiff,Nat.reduceBEq,Nat.reduceBneDiff,vpc]
   exact StLe.weaken (by repeat' first | exact .nil | refine .cons (by first | exact .refl _ | exact .any _ | exact .one (.z1e _)) ?_) rfl
 rintro ⟨n,q,R⟩ ⟨hn,hq,hdq,hR,he⟩;simp only at hn hq hdq hR he;have hlR:(dig R).length<=536870912:=Nat.le_trans (zui (by omega)) lb;refine rg ?_;refine zs6 (fun h=>?_) (fun h=>?_)
 . obtain ⟨i,rfl⟩:∃ i,n=i+1:=⟨n-1,by omega⟩
   have ei:((i+1:Nat):Int)-1=(i:Nat):=by omega
   have hai:=ha.getD i;obtain ⟨S,hS⟩:∃ S:Nat,(S:Int)=a.getD i 0+1048576*R:=⟨(a.getD i 0+1048576*R).toNat,by omega⟩
   have hSl:xcd (a.getD i 0::dig R)=dig S:=by
    have:=yps (L:=a.getD i 0::dig R) (n:=S) (digits.cons hai (xw9 R)) (by simp only [num,v41];omega)
    rwa [Int.toNat_natCast] at this
   have hlS:(dig S).length<=536870913:=by
    rw [<-hSl];refine Nat.le_trans (wyb _) ?_;simp only [List.length_cons];omega
   have hSy:(S:Int)<1048576*y:=by omega
   conv=>simp (maxSteps:=2000000) (disch:=omega) only [go_sem,Nat.reduceAdd,Nat.reduceSub,Nat.reduceMul,Int.reduceToNat,Nat.reduceEqDiff,Nat.reduceBEq,Nat.reduceBneDiff,ei]
   refine vmb (xge (a.getD i 0::dig R) (by simp only [List.length_cons];omega)) ?_;rw [hSl]
   conv=>simp (maxSteps:=2000000) (disch:=omega) only [go_sem,Nat.reduceAdd,Nat.reduceSub,Nat.reduceMul,Int.reduceToNat,Nat.reduceEqDiff,Nat.reduceBEq,Nat.reduceBneDiff,ei]
   refine vu2 [0,1,6,7,8] (fun z:Int×Int=>[(9,.one (.raw (.int .i64 z.1))),(10,.one (.raw (.int .i64 z.2)))])
    (fun z=>0<=z.1/\z.1<z.2/\z.2<=1048576/\z.1*y<=S/\S<z.2*y) (fun z=>(z.2-z.1).toNat) (0,1048576) ⟨by simp,by decide,by simp,by simp,by simp;omega⟩ ?_ ?_
   . refine rg ?_;exact StLe.weaken (by repeat' first | exact .nil | refine .cons (by first | exact .refl _ | exact .any _) ?_) rfl
   rintro ⟨lo,hi⟩ ⟨h0,h1,h2,h3,h4⟩;simp only at h0 h1 h2 h3 h4;refine rg ?_;refine zs6 (fun h5=>?_) (fun h5=>?_)
   . have hm2:(lo+hi).tdiv 2=(lo+hi) / 2:=Int.tdiv_eq_ediv_of_nonneg (by omega)
     conv=>simp (maxSteps:=2000000) (disch:=omega) only [go_sem,Nat.reduceAdd,Nat.reduceSub,Nat.reduceMul,Int.reduceToNat,Nat.reduceEqDiff,Nat.reduceBEq,Nat.reduceBneDiff,hm2]
     generalize hmid:(lo+hi) / 2=mid at *;obtain ⟨m,hm⟩:∃ m:Nat,(m:Int)=mid:=⟨mid.toNat,by omega⟩
     have hT:(num (dig y)*num [mid]).toNat=y*m:=by rw [hny];simp only [num];rw [<-hm,Int.mul_zero,Int.add_zero,<-Int.natCast_mul];rfl
     have hlT:(dig (y*m)).length<=1073741824:=by
      have:=yhd y m
      have:(dig m).length<=4:=wbp (by omega)
      omega
     refine vmb (wqn (dig y) [mid] hb (digits.cons (by omega) digits.nil) (by omega) (by simp)) ?_;rw [hT];refine rg ?_;refine vmb (vgx (dig S) (dig (y*m)) (xw9 _) (xw9 _) (by omega) (by omega)) ?_;rw [v41,v41]
     have hym:((y*m:Nat):Int)=mid*y:=by rw [Int.natCast_mul,hm,Int.mul_comm]
     rw [hym];refine rg ?_;refine zs6 (fun h6=>?_) (fun h6=>?_)
     . refine rg ?_;exact ⟨(lo,mid),⟨h0,by dsimp only;omega,by dsimp only;omega,h3,h6⟩,by dsimp only;omega,StLe.weaken (by repeat' first | exact .nil | refine .cons (by first | exact .refl _ | exact .any _) ?_) rfl⟩
     . refine rg ?_;exact ⟨(mid,hi),⟨by dsimp only;omega,by dsimp only;omega,h2,by dsimp only;omega,h4⟩,by dsimp only;omega,StLe.weaken (by repeat' first | exact .nil | refine .cons (by first | exact .refl _ | exact .any _) ?_) rfl⟩
   . have hlo:hi=lo+1:=by omega
     subst hlo;obtain ⟨l,hl⟩:∃ l:Nat,(l:Int)=lo:=⟨lo.toNat,by omega⟩
     have hlo1:lo.toNat=l:=by omega
     have hT:(num (dig y)*num (dig l)).toNat=y*l:=by rw [hny,v41,<-Int.natCast_mul];rfl
     have hyl:((y*l:Nat):Int)=lo*y:=by rw [Int.natCast_mul,hl,Int.mul_comm]
     have hll:(dig l).length<=4:=wbp (by omega);rw [Int.add_mul,Int.one_mul] at h4
     conv=>simp (maxSteps:=2000000) (disch:=omega) only [go_sem,Nat.reduceAdd,Nat.reduceSub,Nat.reduceMul,Int.reduceToNat,Nat.reduceEqDiff,Nat.reduceBEq,Nat.reduceBneDiff,ei]
     refine vmb (xge [lo] (by simp)) ?_;rw [xf4 (by omega),hlo1]
     conv=>simp (maxSteps:=2000000) (disch:=omega) only [go_sem,Nat.reduceAdd,Nat.reduceSub,Nat.reduceMul,Int.reduceToNat,Nat.reduceEqDiff,Nat.reduceBEq,Nat.reduceBneDiff,ei]
     refine vmb (wqn (dig y) (dig l) hb (xw9 _) (by omega) (by omega)) ?_;rw [hT]
     conv=>simp (maxSteps:=2000000) (disch:=omega) only [go_sem,Nat.reduceAdd,Nat.reduceSub,Nat.reduceMul,Int.reduceToNat,Nat.reduceEqDiff,Nat.reduceBEq,Nat.reduceBneDiff,ei]
     refine vmb (wt3 S (y*l) (by omega) (by omega)) ?_
     conv=>simp (maxSteps:=2000000) (disch:=omega) only [go_sem,Nat.reduceAdd,Nat.reduceSub,Nat.reduceMul,Int.reduceToNat,Nat.reduceEqDiff,Nat.reduceBEq,Nat.reduceBneDiff,ei]
     refine ⟨(i,q.set i lo,S-y*l),⟨by dsimp only;omega,by simpa using hq,hdq.set _ (by omega),by dsimp only;omega,?_⟩,by dsimp only;omega,StLe.weaken (by repeat' first | exact .nil | refine .cons (by first | exact .refl _ | exact .any _) ?_) rfl⟩;dsimp only;rw [v6v _ (by omega),yre,he];simp only [num];rw [Int.natCast_sub (by omega),hyl,hS]
     grind
 . have h0:n=0:=by omega
   subst h0;simp only [List.drop_zero] at he;rw [hnx] at he;have hq0:=num_nonneg hdq;obtain ⟨Q,hQ⟩:∃ Q:Nat,(Q:Int)=num q:=⟨(num q).toNat,by omega⟩;rw [<-hQ] at he
   have hxx:x=y*Q+R:=by rw [<-Int.natCast_mul] at he;omega
   have e1:x / y=Q:=by rw [hxx,Nat.mul_add_div (by omega),Nat.div_eq_of_lt hR];omega
   have e2:x % y=R:=by rw [hxx,Nat.mul_add_mod,Nat.mod_eq_of_lt hR]
   have e3:xcd q=dig Q:=by have:=yps hdq hQ.symm;rwa [Int.toNat_natCast] at this
   rw [e1,e2];refine rg ?_;refine vmb (xge q (by omega)) ?_;rw [e3];refine rg ?_;exact ⟨_,rfl,.tup (.cons (.refl _) (.cons (.refl _) .nil))⟩
theorem vqk (s:Int) (L:List Int) (hL:L.length<=1099511627776):zkh prog 96 [.agg [.raw (.int .i64 s),.ints .i64 L]] (.one (.raw (.bool (decide (xej s L))))):=by
 obtain ⟨r,hr⟩:∃ r,r=decide (xej s L):=⟨_,rfl⟩;rw [<-hr]
 have bad:¬xej s L->false=r:=fun h=>by rw [hr,decide_eq_false h]
 refine zkh.run [] Go.Proofs.Tryz.func96 rfl rfl ?_;conv=>simp (maxSteps:=2000000) (disch:=omega) only [go_sem,Nat.reduceAdd,Nat.reduceSub,Nat.reduceMul,Int.reduceToNat,Nat.reduceEqDiff,Nat.reduceBEq,Nat.reduceBneDiff,Go.Proofs.Tryz.f96,List.replicate]
 refine vu2 [] (fun i:Nat=>[(3,.one (.raw (.int .i64 i)))])
  (fun i=>i<=L.length/\digits (L.take i)) (fun i=>L.length-i) 0 ⟨Nat.zero_le _,by simp [digits]⟩ ?_ ?_
 . refine rg ?_;exact StLe.weaken (by repeat' first | exact .nil | refine .cons (by first | exact .refl _ | exact .any _) ?_) rfl
 rintro i ⟨hi,hd⟩;refine rg ?_;refine zs6 (fun h=>?_) (fun h=>?_)
 . have hi':i<L.length:=by omega
   have hget:L.getD i 0=L[i]:=by simp [hi']
   have hmem:L[i]∈L:=List.getElem_mem hi'
   have hbad:¬(0<=L.getD i 0/\L.getD i 0<=1048575)->false=r:=fun hn=>bad (fun hr=>hn (by rw [hget];exact hr.1 _ hmem))
   refine rg ?_;refine v0c (fun h1=>?_) (fun h1=>?_)
   . conv=>simp (maxSteps:=2000000) (disch:=omega) only [go_sem,Nat.reduceAdd,Nat.reduceSub,Nat.reduceMul,Int.reduceToNat,Nat.reduceEqDiff,Nat.reduceBEq,Nat.reduceBneDiff,h1]
     refine zs6 (fun h2=>?_) (fun h2=>?_)
     . refine rg ?_;exact ⟨_,rfl,by rw [hbad (by omega)];exact .one (.refl _)⟩
     . refine rg ?_;refine ⟨i+1,⟨by omega,?_⟩,by omega,StLe.weaken (by repeat' first | exact .nil | refine .cons (by first | exact .refl _ | exact .any _) ?_) rfl⟩;intro x hx;rw [List.take_add_one,List.mem_append] at hx
       rcases hx with hx | hx
       . exact hd x hx
       . simp [hi'] at hx;subst hx;rw [<-hget];omega
   . have h1':=decide_eq_true h1
     conv=>simp (maxSteps:=2000000) (disch:=omega) only [go_sem,Nat.reduceAdd,Nat.reduceSub,Nat.reduceMul,Int.reduceToNat,Nat.reduceEqDiff,Nat.reduceBEq,Nat.reduceBneDiff,h1']
     exact ⟨_,rfl,by rw [hbad (by omega)];exact .one (.refl _)⟩
 . have hi':i=L.length:=by omega
   have hdig:digits L:=by rw [hi',List.take_length] at hd;exact hd
   refine rg ?_;refine v0c (fun h1=>?_) (fun h1=>?_)
   . conv=>simp (maxSteps:=2000000) (disch:=omega) only [go_sem,Nat.reduceAdd,Nat.reduceSub,Nat.reduceMul,Int.reduceToNat,Nat.reduceEqDiff,Nat.reduceBEq,Nat.reduceBneDiff,h1]
     refine v0c (fun h2=>?_) (fun h2=>?_)
     . by_cases h3:(L.length:Int)=0
       . have hnil:L=[]:=by have:L.length=0:=(by omega);simpa using this
         have h3':=decide_eq_true h3;by_cases h4:s=0
         . have h4':=decide_eq_true h4
           have e:true=r:=by rw [hr,decide_eq_true (show xej s L from ⟨hdig,.inl ⟨hnil,h4⟩⟩)]
           conv=>simp (maxSteps:=2000000) (disch:=omega) only [go_sem,Nat.reduceAdd,Nat.reduceSub,Nat.reduceMul,Int.reduceToNat,Nat.reduceEqDiff,Nat.reduceBEq,Nat.reduceBneDiff,h2,h3',h4']
           exact ⟨_,rfl,by rw [e];exact .one (.refl _)⟩
         . have h4':=decide_eq_false h4
           conv=>simp (maxSteps:=2000000) (disch:=omega) only [go_sem,Nat.reduceAdd,Nat.reduceSub,Nat.reduceMul,Int.reduceToNat,Nat.reduceEqDiff,Nat.reduceBEq,Nat.reduceBneDiff,h2,h3',h4']
           exact ⟨_,rfl,by rw [bad (fun hb=>by rcases hb.2 with h | h;exact h4 h.2;exact h.1 hnil)];exact .one (.refl _)⟩
       . have h3':=decide_eq_false h3
         have hne:L≠[]:=fun e=>h3 (by rw [e];rfl)
         have hpos:0<L.length:=List.length_pos_iff.2 hne;by_cases h4:s=0
         . have h4':=decide_eq_true h4
           conv=>simp (maxSteps:=2000000) (disch:=omega) only [go_sem,Nat.reduceAdd,Nat.reduceSub,Nat.reduceMul,Int.reduceToNat,Nat.reduceEqDiff,Nat.reduceBEq,Nat.reduceBneDiff,h2,h3',h4']
           exact ⟨_,rfl,by rw [bad (fun hb=>by rcases hb.2 with h | h;exact hne h.1;omega)];exact .one (.refl _)⟩
         . have h4':=decide_eq_false h4
           have hlast:decide (L.getD (L.length-1) 0≠0)=r:=by
            rw [hr];apply decide_eq_decide.2;simp only [xej];constructor
            . exact fun h4=>⟨hdig,.inr ⟨hne,by omega,h4⟩⟩
            . rintro ⟨_,⟨h4,_⟩ | ⟨_,_,h4⟩⟩
              . exact absurd h4 hne
              . exact h4
           have e:((L.length:Int)-1).toNat=L.length-1:=by omega
           conv=>simp (maxSteps:=2000000) (disch:=omega) only [go_sem,Nat.reduceAdd,Nat.reduceSub,Nat.reduceMul,Int.reduceToNat,Nat.reduceEqDiff,Nat.reduceBEq,Nat.reduceBneDiff,h2,h3',h4',e]
           exact ⟨_,rfl,by rw [hlast];exact .one (.refl _)⟩
     . have h2':=decide_eq_true h2
       conv=>simp (maxSteps:=2000000) (disch:=omega) only [go_sem,Nat.reduceAdd,Nat.reduceSub,Nat.reduceMul,Int.reduceToNat,Nat.reduceEqDiff,Nat.reduceBEq,Nat.reduceBneDiff,h2']
       exact ⟨_,rfl,by rw [bad (fun hb=>by rcases hb.2 with h | h<;>omega)];exact .one (.refl _)⟩
   . have h1':=decide_eq_true h1
     conv=>simp (maxSteps:=2000000) (disch:=omega) only [go_sem,Nat.reduceAdd,Nat.reduceSub,Nat.reduceMul,Int.reduceToNat,Nat.reduceEqDiff,Nat.reduceBEq,Nat.reduceBneDiff,h1']
     exact ⟨_,rfl,by rw [bad (fun hb=>by rcases hb.2 with h | h<;>omega)];exact .one (.refl _)⟩
theorem yo8 (z:Int) (hz:okZ z):zkh prog 96 [.agg [.raw (.int .i64 (sg z)),.ints .i64 (dig z.natAbs)]] (.one (.raw (.bool true))):=by
 have h:=vqk (sg z) (dig z.natAbs) (by omega);rw [decide_eq_true (w9h z)] at h;exact h
theorem v3z (x y:Int) (hx:okZ x) (hy:okZ y) :
 zkh prog 97 [.agg [.raw (.int .i64 (sg x)),.ints .i64 (dig x.natAbs)],.agg [.raw (.int .i64 (sg y)),.ints .i64 (dig y.natAbs)]]
  (.tup [.agg [.raw (.int .i64 (sg (Int.gcd x y:Int))),.ints .i64 (dig (Int.gcd x y:Int).natAbs)],.one (.raw (.int .i64 0))]):=by
 refine zkh.run [] Go.Proofs.Tryz.func97 rfl rfl ?_;conv=>simp (maxSteps:=2000000) (disch:=omega) only [go_sem,Nat.reduceAdd,Nat.reduceSub,Nat.reduceMul,Int.reduceToNat,Nat.reduceEqDiff,Nat.reduceBEq,Nat.reduceBneDiff,Go.Proofs.Tryz.f97,List.replicate]
 refine vmb (yo8 x hx) ?_;refine rg ?_;refine vmb (yo8 y hy) ?_;refine rg ?_;refine vu2 [5] (fun p:Nat×Nat=>[(6,.one (.ints .i64 (dig p.1))),(7,.one (.ints .i64 (dig p.2)))])
  (fun p=>Nat.gcd p.1 p.2=Int.gcd x y/\(dig p.1).length<=268435456/\(dig p.2).length<=268435456) (fun p=>p.2) (x.natAbs,y.natAbs) ⟨rfl,hx,hy⟩ ?_ ?_
 . refine rg ?_;exact StLe.weaken (by repeat' first | exact .nil | refine .cons (by first | exact .refl _ | exact .any _) ?_) rfl
 rintro ⟨m,n⟩ ⟨hg,hm,hn⟩;simp only at hg hm hn;refine rg ?_;refine zs6 (fun h=>?_) (fun h=>?_)
 . have hn0:n≠0:=fun e=>by rw [e,vpc] at h;simp at h
   refine rg ?_;refine vmb (vjl m n hn0 (by omega) (by omega)) ?_;refine rg ?_;refine ⟨(n,m % n),⟨?_,hn,Nat.le_trans (zui (Nat.mod_le _ _)) hm⟩,Nat.mod_lt _ (by omega),StLe.weaken (by repeat' first | exact .nil | refine .cons (by first | exact .refl _ | exact .any _) ?_) rfl⟩;dsimp only;rw [<-hg,Nat.gcd_comm n,<-Nat.gcd_rec,Nat.gcd_comm]
 . have hn0:n=0:=z4e.1 (List.eq_nil_of_length_eq_zero (by omega));subst hn0;rw [Nat.gcd_zero_right] at hg
   have e:(Int.gcd x y:Int).natAbs=m:=by rw [<-hg];rfl
   have hs:=w79 1 (Int.gcd x y:Int) (by rw [e];omega) (.inl ⟨rfl,by omega⟩);rw [e] at hs ⊢;refine rg ?_;refine vmb hs ?_;refine rg ?_;exact ⟨_,rfl,.tup (.cons (.refl _) (.cons (.refl _) .nil))⟩
theorem y6f (x y:Int) (hx:okZ x) (hy:okZ y) (hy0:0<y) :
 zkh prog 142 [.agg [.raw (.int .i64 (sg x)),.ints .i64 (dig x.natAbs)],.agg [.raw (.int .i64 (sg y)),.ints .i64 (dig y.natAbs)]]
  (.tup [.agg [.raw (.int .i64 (sg (x / y))),.ints .i64 (dig (x / y).natAbs)],.agg [.raw (.int .i64 (sg (x % y))),.ints .i64 (dig (x % y).natAbs)],.one (.raw (.int .i64 0))]):=by
 have sx:=vcl x;have sy:=zak hy0;have hn:=Nat.div_add_mod x.natAbs y.natAbs;have hr:=Nat.mod_lt x.natAbs (show 0<y.natAbs by omega);have hqx:=Nat.div_le_self x.natAbs y.natAbs;have hrx:=Nat.mod_le x.natAbs y.natAbs;have hlq:=zui hqx;have hlr:=zui hrx;have hcd:=vjl x.natAbs y.natAbs (by omega) (by omega) (by omega);generalize hQ:x.natAbs / y.natAbs=Q at *;generalize hR:x.natAbs % y.natAbs=R at *
 have hyQ:((y.natAbs*Q:Nat):Int)=y*Q:=by rw [Int.natCast_mul];congr 1;omega
 have eR:=v41 R;have eQ:=v41 Q;have ey:=vg4 y;have hlQ1:=wgr Q 1
 have h1l:(dig 1).length=1:=by rw [vii (by decide),vpc];rfl
 refine zkh.run [] Go.Proofs.Tryz.func142 rfl rfl ?_;conv=>simp (maxSteps:=2000000) (disch:=omega) only [go_sem,Nat.reduceAdd,Nat.reduceSub,Nat.reduceMul,Int.reduceToNat,Nat.reduceEqDiff,Nat.reduceBEq,Nat.reduceBneDiff,Go.Proofs.Tryz.f142,List.replicate]
 refine vmb (yo8 x hx) ?_;refine rg ?_;refine vmb (yo8 y hy) ?_;refine rg ?_;refine zs6 (fun h=>absurd h (by omega)) (fun _=>?_);refine rg ?_;refine vmb hcd ?_
 have done:∀(s:Int),s=sg x->(0<=x\/R=0)->((s=1/\0<=x / y)\/(s = -1/\x / y<=0)\/x / y=0)/\((sg x=1/\0<=x % y)\/(sg x = -1/\x % y<=0)\/x % y=0)/\(x / y).natAbs=Q/\(x % y).natAbs=R:=fun s hs h=>by
  rcases h with h | h
  . obtain ⟨k1,k2⟩:=z10 (x:=x) (y:=y) (q:=(Q:Int)) (r:=(R:Int)) (by omega) (by omega) (by omega)
    have hQ0:x=0->Q=0/\R=0:=fun e=>by subst e;simp at hqx hrx;exact ⟨hqx,hrx⟩
    rw [k1,k2,hs]
    refine ⟨?_,?_,by omega,by omega⟩<;>omega
  . rcases Int.lt_or_le x 0 with h0 | h0
    . obtain ⟨k1,k2⟩:=z10 (x:=x) (y:=y) (q:=-(Q:Int)) (r:=0) (by
       have:y * -(Q:Int) = -(y*Q):=by grind
       omega) (by omega) (by omega)
      rw [k1,k2,hs]
      refine ⟨?_,?_,by omega,by omega⟩<;>omega
    . obtain ⟨k1,k2⟩:=z10 (x:=x) (y:=y) (q:=(Q:Int)) (r:=(R:Int)) (by omega) (by omega) (by omega)
      have hQ0:x=0->Q=0/\R=0:=fun e=>by subst e;simp at hqx hrx;exact ⟨hqx,hrx⟩
      rw [k1,k2,hs]
      refine ⟨?_,?_,by omega,by omega⟩<;>omega
 have plain:(0<=x\/R=0)->zkh prog 143 [.one (.raw (.int .i64 (sg x))),.one (.ints .i64 (dig Q))] (.agg [.raw (.int .i64 (sg (x / y))),.ints .i64 (dig (x / y).natAbs)])/\
  zkh prog 143 [.one (.raw (.int .i64 (sg x))),.one (.ints .i64 (dig R))] (.agg [.raw (.int .i64 (sg (x % y))),.ints .i64 (dig (x % y).natAbs)]):=fun h=>by
  obtain ⟨d1,d2,m1,m2⟩:=done _ rfl h;have hs1:=w79 (sg x) (x / y) (by rw [m1];omega) d1;have hs2:=w79 (sg x) (x % y) (by rw [m2];omega) d2;rw [m1] at hs1 ⊢;rw [m2] at hs2 ⊢;exact ⟨hs1,hs2⟩
 conv=>simp (maxSteps:=2000000) (disch:=omega) only [go_sem,Nat.reduceAdd,Nat.reduceSub,Nat.reduceMul,Int.reduceToNat,Nat.reduceEqDiff,Nat.reduceBEq,Nat.reduceBneDiff,sy,Int.mul_one]
 refine v0c (fun h1=>?_) (fun h1=>?_)
 . have hx0:x<0:=by omega
   conv=>simp (maxSteps:=2000000) (disch:=omega) only [go_sem,Nat.reduceAdd,Nat.reduceSub,Nat.reduceMul,Int.reduceToNat,Nat.reduceEqDiff,Nat.reduceBEq,Nat.reduceBneDiff,h1,sy,Int.mul_one]
   refine zs6 (fun h2=>?_) (fun h2=>?_)
   . have hR0:R=0:=z4e.1 (List.eq_nil_of_length_eq_zero (by omega));obtain ⟨hs1,hs2⟩:=plain (.inr hR0)
     conv=>simp (maxSteps:=2000000) (disch:=omega) only [go_sem,Nat.reduceAdd,Nat.reduceSub,Nat.reduceMul,Int.reduceToNat,Nat.reduceEqDiff,Nat.reduceBEq,Nat.reduceBneDiff,sy,Int.mul_one]
     refine vmb hs1 ?_;refine rg ?_;refine vmb hs2 ?_;refine rg ?_;refine indk (by kernel_rfl) ?_;refine rg ?_;exact ⟨_,rfl,.tup (.cons (.refl _) (.cons (.refl _) (.cons (.refl _) .nil)))⟩
   . have hR0:R≠0:=fun e=>by rw [e,vpc] at h2;simp at h2
     obtain ⟨k1,k2⟩:=z10 (x:=x) (y:=y) (q:=-((Q:Int)+1)) (r:=y-R) (by
      have:y * -((Q:Int)+1) = -(y*Q)-y:=by grind
      omega) (by omega) (by omega)
     have m1:(x / y).natAbs=Q+1:=by rw [k1];omega
     have m2:(x % y).natAbs=y.natAbs-R:=by rw [k2];omega
     have m3:(num (dig Q)+num [1]).toNat=Q+1:=by rw [eQ];simp [num]
     have hA:=xe1 (dig Q) [1] (xw9 _) (digits.cons (by decide) digits.nil) (by omega) (by simp);rw [m3,<-m1] at hA;have hS:=wt3 y.natAbs R (by omega) (by omega);rw [<-m2] at hS;have hs1:=w79 (-1) (x / y) (by rw [m1];omega) (by rw [k1];omega);have hs2:=w79 1 (x % y) (by rw [m2];have:=zui (show y.natAbs-R<=y.natAbs by omega);omega) (by rw [k2];omega)
     conv=>simp (maxSteps:=2000000) (disch:=omega) only [go_sem,Nat.reduceAdd,Nat.reduceSub,Nat.reduceMul,Int.reduceToNat,Nat.reduceEqDiff,Nat.reduceBEq,Nat.reduceBneDiff,sy,Int.mul_one]
     refine vmb hA ?_;refine rg ?_;refine vmb hs1 ?_
     conv=>simp (maxSteps:=2000000) (disch:=omega) only [go_sem,Nat.reduceAdd,Nat.reduceSub,Nat.reduceMul,Int.reduceToNat,Nat.reduceEqDiff,Nat.reduceBEq,Nat.reduceBneDiff,sy]
     refine vmb hS ?_;refine rg ?_;refine vmb hs2 ?_;refine rg ?_;refine indk (by kernel_rfl) ?_;refine rg ?_;exact ⟨_,rfl,.tup (.cons (.refl _) (.cons (.refl _) (.cons (.refl _) .nil)))⟩
 . have h1':=decide_eq_true h1;obtain ⟨hs1,hs2⟩:=plain (.inl (by omega))
   conv=>simp (maxSteps:=2000000) (disch:=omega) only [go_sem,Nat.reduceAdd,Nat.reduceSub,Nat.reduceMul,Int.reduceToNat,Nat.reduceEqDiff,Nat.reduceBEq,Nat.reduceBneDiff,h1',sy,Int.mul_one]
   refine vmb hs1 ?_;refine rg ?_;refine vmb hs2 ?_;refine rg ?_;refine indk (by kernel_rfl) ?_;refine rg ?_;exact ⟨_,rfl,.tup (.cons (.refl _) (.cons (.refl _) (.cons (.refl _) .nil)))⟩
theorem rOf (n:Int) (hn:inI n):zkh prog 93 [.one (.raw (.int .i64 n))] (.agg [.raw (.int .i64 (sg n)),.ints .i64 (dig n.natAbs)]):=by
 unfold inI at hn
 refine zkh.run [(6,[.join]),(11,[.join])] Go.Proofs.Tryz.func93 rfl rfl ?_;conv=>simp (maxSteps:=2000000) (disch:=omega) only [go_sem,Nat.reduceAdd,Nat.reduceSub,Nat.reduceMul,Int.reduceToNat,Nat.reduceEqDiff,Nat.reduceBEq,Nat.reduceBneDiff,Go.Proofs.Tryz.f93,List.replicate]
 refine zs6 (fun h0=>?_) (fun h0=>?_)
 . subst h0;refine rg ?_;exact ⟨_,rfl,by rw [show (0:Int).natAbs=0 from rfl,vpc];exact .one (.agg (.cons (.refl _) (.cons (.yns _) .nil)))⟩
 refine rg ?_;refine xjd [0] (fun s:Int=>[(3,.one (.raw (.int .i64 s)))]) (fun s=>(s=1/\0<=n)\/(s = -1/\n<0)) ?_ ?_
 . refine rg ?_;refine zs6 (fun h=>?_) (fun h=>?_)
   . refine rg ?_;exact ⟨-1,.inr ⟨rfl,h⟩,StLe.weaken (by repeat' first | exact .nil | refine .cons (by first | exact .refl _ | exact .any _) ?_) rfl⟩
   . refine rg ?_;exact ⟨1,.inl ⟨rfl,by omega⟩,StLe.weaken (by repeat' first | exact .nil | refine .cons (by first | exact .refl _ | exact .any _) ?_) rfl⟩
 rintro s hs
 have hsN:n=s*(n.natAbs:Int):=by rcases hs with ⟨rfl,h⟩ | ⟨rfl,h⟩<;>omega
 have hN:(n.natAbs:Int)<=9223372036854775808:=by omega
 have hss:s=1\/s = -1:=by rcases hs with h | h;exact .inl h.1;exact .inr h.1
 have hmod:∀ u:Int,0<=u->(s*u).tmod 1048576=s*(u % 1048576)/\(s*u).tdiv 1048576=s*(u / 1048576):=fun u hu=>by
  rcases hss with rfl | rfl
  . rw [Int.one_mul,Int.one_mul,Int.one_mul];exact ⟨Int.tmod_eq_emod_of_nonneg hu,Int.tdiv_eq_ediv_of_nonneg hu⟩
  . rw [Int.neg_mul,Int.neg_mul,Int.neg_mul,Int.one_mul,Int.one_mul,Int.one_mul,Int.neg_tmod,Int.neg_tdiv];exact ⟨by rw [Int.tmod_eq_emod_of_nonneg hu],by rw [Int.tdiv_eq_ediv_of_nonneg hu]⟩
 refine rg ?_;refine vu2 [3] (fun x:Nat×List Int×Int=>[(0,.one (.raw (.int .i64 (s*x.2.2)))),(4,.one (.tok 22 (.ints .i64 x.2.1)))])
  (fun x=>x.2.1.length=x.1/\x.1<=4/\digits x.2.1/\0<=x.2.2/\num x.2.1+1048576 ^ x.1*x.2.2=n.natAbs) (fun x=>x.2.2.toNat) (0,[],n.natAbs)
  ⟨rfl,Nat.zero_le _,digits.nil,by simp,by simp [num]⟩ ?_ ?_
 . refine StLe.trans (StLe.tokI 4 22 (.ints .i64 []) rfl rfl rfl) ?_;refine rg ?_;rw [<-hsN];exact StLe.weaken (by repeat' first | exact .nil | refine .cons (by first | exact .refl _ | exact .any _) ?_) rfl
 rintro ⟨k,l,u⟩ ⟨hl,hk,hd,hu,he⟩;simp only at hl hk hd hu he;have hl0:=num_nonneg hd;have hp:=xun k
 have huN:u<=n.natAbs:=by
  have:=Int.mul_le_mul_of_nonneg_right (show (1:Int)<=1048576 ^ k by omega) hu
  omega
 refine rg ?_;refine zs6 (fun h=>?_) (fun h=>?_)
 . have hu0:u≠0:=fun e=>h (by rw [e,Int.mul_zero])
   have hk3:k<=3:=by
    rcases Nat.lt_or_ge k 4 with h4 | h4
    . omega
    . have h1:=y3u h4;have h2:=Int.mul_le_mul_of_nonneg_left (show (1:Int)<=u by omega) (Int.le_of_lt hp)
      have h3:(1048576:Int) ^ 4=1208925819614629174706176:=by decide
      omega
   obtain ⟨e1,e2⟩:=hmod u hu
   have hm:0<=u % 1048576/\u % 1048576<=1048575:=by omega
   have hq:0<=u / 1048576/\u / 1048576<=9223372036854775807:=by omega
   have hsm:-9223372036854775808<=s*(u / 1048576)/\s*(u / 1048576)<=9223372036854775807:=by rcases hss with rfl | rfl<;>omega
   have hsr:-1048575<=s*(u % 1048576)/\s*(u % 1048576)<=1048575:=by rcases hss with rfl | rfl<;>omega
   conv=>simp (maxSteps:=2000000) (disch:=omega) only [go_sem,Nat.reduceAdd,Nat.reduceSub,Nat.reduceMul,Int.reduceToNat,Nat.reduceEqDiff,Nat.reduceBEq,Nat.reduceBneDiff,e1]
   refine xjd [0,3,4] (fun _:Unit=>[(5,.one (.raw (.int .i64 (u % 1048576))))]) (fun _=>True) ?_ ?_
   . refine rg ?_;refine zs6 (fun h2=>?_) (fun h2=>?_)
     . refine rg ?_;rw [show 0-s*(u % 1048576)=u % 1048576 by rcases hss with rfl | rfl<;>omega];exact ⟨(),StLe.weaken (by repeat' first | exact .nil | refine .cons (by first | exact .refl _ | exact .any _) ?_) rfl⟩
     . refine rg ?_;rw [show s*(u % 1048576)=u % 1048576 by rcases hss with rfl | rfl<;>omega];exact ⟨(),StLe.weaken (by repeat' first | exact .nil | refine .cons (by first | exact .refl _ | exact .any _) ?_) rfl⟩
   rintro _ _
   conv=>simp (maxSteps:=2000000) (disch:=omega) only [go_sem,Nat.reduceAdd,Nat.reduceSub,Nat.reduceMul,Int.reduceToNat,Nat.reduceEqDiff,Nat.reduceBEq,Nat.reduceBneDiff,e2]
   refine ⟨(k+1,l++[u % 1048576],u / 1048576),⟨by simp [hl],by dsimp only;omega,hd.append (digits.cons (by omega) digits.nil),by dsimp only;omega,?_⟩,by dsimp only;omega,StLe.weaken (by repeat' first | exact .nil | refine .cons (by first | exact .refl _ | exact .any _) ?_) rfl⟩;dsimp only;rw [zmp,hl,Int.pow_succ];have h:=Int.emod_add_mul_ediv u 1048576;generalize (1048576:Int) ^ k=P at *;generalize u % 1048576=r at *;generalize u / 1048576=q at *
   grind
 . have hu0:u=0:=by rcases hss with rfl | rfl<;>omega
   rw [hu0,Int.mul_zero,Int.add_zero] at he;have e:=yps hd he;rw [Int.toNat_natCast] at e;have hsg:=x1j s l (by omega);unfold bigC at hsg;rw [e,<-weo,zvc (by omega)] at hsg;unfold zC at hsg;refine rg ?_;refine vmb hsg ?_;refine rg ?_;exact ⟨_,rfl,.one (.refl _)⟩
end Go.Slot.T
