/- The proof, part P10: Bk, Bl, Bm, Bn, Ld, Bo, Le, Fa, Lf, Bp, Fb, Fc, Fd, Ig. -/
import Derived.Test.YtmegdbbbllffkaaGreatP9
import Derived.Test.YtmegdbbbllffkaaGreatP8
namespace Go.Slot.T
open Go Go.RowKit Go.Slot
open Go.Proofs.Tryz (prog)
set_option maxRecDepth 10000
set_option maxHeartbeats 8000000
theorem y0i (a b:List Int) (Uf Vf:Nat->List Int) (hUf:∀ s:Nat,Uf s=dig (num a*(s:Int)).toNat) (hVf:∀ s:Nat,Vf s=dig (num b*(s:Int)).toNat) (ha:digits a) (na:norm a) (hb:digits b) (nb:norm b) (la:a.length<=1073741824) (lb:2<=b.length) (hle:num b<=num a) :
 yn2 prog 118 [.one (.ints .i64 a),.one (.ints .i64 b)] (.tup [.one (.ints .i64 (dig (num a / num b).toNat)),.one (.ints .i64 (dig (num a % num b).toNat))]):=by
 have hord:¬ord (num a) (num b)<0:=by unfold ord;rw [if_neg (by omega)];split<;>decide
 have hbp:=norm.pos hb nb (fun e=>by rw [e] at lb;simp at lb);have hlab:b.length<=a.length:=Nat.le_of_not_lt (fun h=>by have:=yck ha na hb nb h;omega);refine yn2.run [(12,[.frz 60]),(22,[.join]),(23,[.frz 56,.frz 75])] Go.Proofs.Tryz.func118 rfl rfl ?_;simp only [Go.Proofs.Tryz.f118];refine rgR ?_;refine v1h (xxj a b ha na hb nb (by omega) (by omega)) ?_;refine rg ?_;refine z08 (fun h=>absurd h hord) (fun _=>?_);refine rg ?_;refine z08 (fun h=>absurd h (by omega)) (fun h=>?_)
 have htop:1<=b.getD (b.length-1) 0/\b.getD (b.length-1) 0<=1048575:=by
  have h1:=hb.getD (b.length-1);have h2:=nb (fun e=>by rw [e] at lb;simp at lb);omega
 have eb:((b.length:Int)-1).toNat=b.length-1:=by omega
 refine rg ?_;refine vxs [0,1] (fun s:Nat=>[(8,.one (.raw (.int .i64 (s:Int))))])
  (fun s=>1<=s/\s<=1048575) (fun s=>1048576-s) 1
  (by omega) ?_ ?_
 . refine rg ?_;exact StLe.weaken (by repeat' first | exact .nil | refine .cons (by first | exact .refl _ | exact .any _) ?_) rfl
 rintro s ⟨hs1,hs2⟩;refine rg1 @eb ?_;have hprod:0<=b.getD (b.length-1) 0*(s:Int)/\b.getD (b.length-1) 0*(s:Int)<=1048575*1048575:=⟨Int.mul_nonneg (by omega) (by omega),Int.mul_le_mul htop.2 (by omega) (by omega) (by decide)⟩;refine rg1 @eb ?_;refine z08 (fun h1=>?_) (fun h1=>?_)
 . have hs:(s:Int)<524288:=by
    have:=Int.mul_le_mul_of_nonneg_right htop.1 (show (0:Int)<=s by omega)
    omega
   refine rg ?_;exact ⟨2*s,by omega,by omega,by simp only [go_sem,Int.natCast_mul,Int.mul_comm];exact StLe.weaken (by repeat' first | exact .nil | refine .cons (by first | exact .refl _ | exact .any _) ?_) rfl⟩
 refine rg ?_;have hds:digits [(s:Int)]:=digits.cons (by omega) digits.nil
 have hns:num [(s:Int)]=s:=by simp [num]
 refine v1h (y5t a [(s:Int)] ha hds (by omega) (by simp)) ?_;have hna0:0<=num a*s:=Int.mul_nonneg (by omega) (by omega);have hnb0:0<num b*s:=Int.mul_pos hbp (by omega);rw [hns];have hU:=hUf s;have hV:=hVf s
 have hUd:digits (Uf s):=by rw [hU];exact wo6 _
 have hVd:digits (Vf s):=by rw [hV];exact wo6 _
 have hUn:num (Uf s)=num a*s:=by rw [hU,yn8];omega
 have hVn:num (Vf s)=num b*s:=by rw [hV,yn8];omega
 have hVnorm:norm (Vf s):=by rw [hV];exact yrd _
 have hxs:∀ x:Int,0<=x->x<=x*s:=fun x hx=>by
  have:=Int.mul_le_mul_of_nonneg_left (show (1:Int)<=s by omega) hx
  rwa [Int.mul_one] at this
 have haU:a.length<=(Uf s).length:=by
  have e:=congrArg List.length (yke ha na);rw [hU,e];refine wxv ?_
  have:=hxs (num a) (by omega)
  omega
 have hbV:b.length<=(Vf s).length:=by
  have e:=congrArg List.length (yke hb nb);rw [hV,e];refine wxv ?_
  have:=hxs (num b) (by omega)
  omega
 have hVU:(Vf s).length<=(Uf s).length:=by
  rw [hU,hV];refine wxv ?_
  have:num b*s<=num a*s:=Int.mul_le_mul_of_nonneg_right hle (by omega)
  omega
 have hUl:(Uf s).length<=1073741825:=by
  have h1:(Uf s).length<=a.length+1:=by
   rw [hU];apply vwv;have h1:=xxq ha;have h2:num a*(s:Int)<=num a*1048576:=Int.mul_le_mul_of_nonneg_left (by omega) (by omega)
   have h3:((1048576 ^ (a.length+1):Nat):Int)=1048576 ^ a.length*1048576:=by rw [Nat.pow_succ];simp
   omega
  omega
 rw [<-hU];refine rg ?_;refine v1h (y5t b [(s:Int)] hb hds (by omega) (by simp)) ?_;rw [hns,<-hV];refine rg ?_;refine z08 (fun h2=>absurd h2 (by simp;omega)) (fun h2=>?_);obtain ⟨u,hu⟩:∃ u,u=(Uf s)++[0]:=⟨_,rfl⟩;rw [<-hu]
 have hud:digits u:=by rw [hu];exact hUd.append (digits.cons (by decide) digits.nil)
 have hun:num u=num a*s:=by rw [hu,xtv];simp [num,hUn]
 have hul:u.length=(Uf s).length+1:=by rw [hu];simp
 have hVne:(Vf s)≠[]:=fun e=>by
  have:=congrArg List.length e
  simp only [List.length_nil] at this;omega
 have hV0:0<num (Vf s):=norm.pos hVd hVnorm hVne;obtain ⟨m,hm⟩:∃ m,u.length=m+(Vf s).length:=⟨u.length-(Vf s).length,by omega⟩
 have hm1:((u.length:Int)-(Vf s).length).toNat=m:=by omega
 have hult:num u<num (Vf s)*1048576 ^ m:=by
  rw [hun,<-hUn];have h3:=xxq hUd;have h4:=zpk hVd hVnorm hVne;have h5:=Int.mul_le_mul_of_nonneg_right h4 (Int.le_of_lt (zou m))
  have e:(Uf s).length=(Vf s).length-1+m:=by omega
  rw [e,Int.pow_add] at h3;omega
 have hord2:u.length<=1073741826:=by omega
 clear hu h2;refine rg1 @hm1 ?_;refine vxs [8,9,10,11,12] (fun x:Nat×List Int×List Int=>[(13,.one (.raw (.int .i64 ((x.1:Int)-1)))),(56,.arr [] (.ints .i64 x.2.1) none),(75,.arr [] (.ints .i64 x.2.2) none)])
  (fun x=>x.1<=m/\x.2.1.length=u.length/\digits x.2.1/\x.2.2.length=m/\digits x.2.2/\num a*s=num (Vf s)*(1048576 ^ x.1*num (x.2.2.drop x.1))+num x.2.1/\num x.2.1<num (Vf s)*1048576 ^ x.1)
  (fun x=>x.1) (m,u,List.replicate m 0)
  ⟨Nat.le_refl _,rfl,hud,by simp,digits.rep _,by simp [num,hun],hult⟩ ?_ ?_
 . refine rg ?_;exact StLe.weaken (by repeat' first | exact .nil | refine .cons (by first | exact .refl _ | exact .any _) ?_) rfl
 rintro ⟨j,w,q⟩ ⟨hj,hw,hwd,hq,hqd,he,hlt⟩;simp only at hj hw hwd hq hqd he hlt;refine rg ?_;refine z08 (fun h3=>?_) (fun h3=>?_)
 . obtain ⟨i,rfl⟩:∃ i,j=i+1:=⟨j-1,by omega⟩
   have ei:((i+1:Nat):Int)-1=(i:Nat):=by omega
   have e1:((i:Int)+(Vf s).length).toNat=i+(Vf s).length:=by omega
   have e2:((i:Int)+(Vf s).length-1).toNat=i+((Vf s).length-1):=by omega
   have e3:(((Vf s).length:Int)-1).toNat=(Vf s).length-1:=by omega
   have d1:=hwd.getD (i+(Vf s).length);have d2:=hwd.getD (i+((Vf s).length-1));have d3:=hVd.getD ((Vf s).length-1);have d4:=hVnorm hVne
   conv=>simp (maxSteps:=2000000) (disch:=omega) only [go_sem,Nat.reduceAdd,Nat.reduceSub,Nat.reduceMul,Int.reduceToNat,Nat.reduceEqDiff,Nat.reduceBEq,Nat.reduceBneDiff,ei,e1,e2,e3,yzv,or20]
   refine indk (by kernel_rfl) ?_;obtain ⟨T,hT⟩:∃ T,T=w.getD (i+(Vf s).length) 0*1048576+w.getD (i+((Vf s).length-1)) 0:=⟨_,rfl⟩;obtain ⟨v1,hv1⟩:∃ v1,v1=(Vf s).getD ((Vf s).length-1) 0:=⟨_,rfl⟩;rw [<-hT];rw [<-hv1] at d3 d4
   have hT0:0<=T/\T<1099511627776:=by omega
   conv=>simp (maxSteps:=2000000) (disch:=omega) only [go_sem,Nat.reduceAdd,Nat.reduceSub,Nat.reduceMul,Int.reduceToNat,Nat.reduceEqDiff,Nat.reduceBEq,Nat.reduceBneDiff,ei,e1,e2,e3,<-hv1]
   have hq0:T.tdiv v1=T / v1:=Int.tdiv_eq_ediv_of_nonneg hT0.1;have hm0:T.tmod v1=T % v1:=Int.tmod_eq_emod_of_nonneg hT0.1;have hq1:0<=T / v1:=Int.ediv_nonneg hT0.1 (by omega);have hq2:T / v1<=T:=Int.ediv_le_self _ hT0.1;have hm1':0<=T % v1:=Int.emod_nonneg _ (by omega);have hm2:T % v1<v1:=Int.emod_lt_of_pos _ (by omega);have hdm:=Int.emod_add_mul_ediv T v1;rw [hq0,hm0]
   conv=>simp (maxSteps:=2000000) (disch:=omega) only [go_sem,Nat.reduceAdd,Nat.reduceSub,Nat.reduceMul,Int.reduceToNat,Nat.reduceEqDiff,Nat.reduceBEq,Nat.reduceBneDiff,ei,e1,e2,e3,<-hv1]
   refine indk (by kernel_rfl) ?_;refine rg ?_
   have hn2:2<=(Vf s).length:=by omega
   have e4:((i:Int)+(Vf s).length-2).toNat=i+((Vf s).length-2):=by omega
   have e5:(((Vf s).length:Int)-2).toNat=(Vf s).length-2:=by omega
   have e6:((i:Int)+(Vf s).length+1).toNat=i+((Vf s).length+1):=by omega
   have hin:i+((Vf s).length+1)<=w.length:=by omega
   have hWlen:((w.drop i).take ((Vf s).length+1)).length=(Vf s).length+1:=by simp;omega
   obtain ⟨u2,hu2⟩:∃ u2,u2=w.getD (i+((Vf s).length-2)) 0:=⟨_,rfl⟩;obtain ⟨v2,hv2⟩:∃ v2,v2=(Vf s).getD ((Vf s).length-2) 0:=⟨_,rfl⟩;have hW:=v2f _ (Vf s).length hn2 hWlen;rw [xkt (by omega),xkt (by omega),xkt (by omega),<-hT,<-hu2] at hW;have hVt:=xob (Vf s) (Vf s).length hn2 rfl;rw [<-hv1,<-hv2] at hVt;have hWd:digits ((w.drop i).take ((Vf s).length+1)):=(hwd.drop i).take _;have hw0:=xxq (hWd.take ((Vf s).length-2));have hw1:=num_nonneg (hWd.take ((Vf s).length-2));have hv0:=xxq (hVd.take ((Vf s).length-2));have hv0':=num_nonneg (hVd.take ((Vf s).length-2));rw [List.length_take,hWlen,Nat.min_eq_left (by omega)] at hw0;rw [List.length_take,Nat.min_eq_left (by omega)] at hv0;have hP:=zou ((Vf s).length-2);have hW0:=num_nonneg hWd;have du:=hwd.getD (i+((Vf s).length-2));have dv:=hVd.getD ((Vf s).length-2);rw [<-hu2] at du;rw [<-hv2] at dv;obtain ⟨W,hWW⟩:∃ W,W=num ((w.drop i).take ((Vf s).length+1)):=⟨_,rfl⟩;rw [<-hWW] at hW hW0;refine zu4 [8,9,10,11,12,13] (fun g:Int=>[(15,.one (.raw (.int .i64 g)))])
    (fun g=>0<=g/\g<=1048575/\W<(g+1)*num (Vf s)/\(g-1)*num (Vf s)<=W) ?_ ?_
   . refine rg ?_
     have hinit:W<(T / v1+1)*num (Vf s):=by
      refine y59 hP hW hw0 du.2 hVt hv0' dv.1 ?_ hq1
      have:(T / v1+1)*v1=v1*(T / v1)+v1:=by grind
      omega
     refine vxs [8,9,10,11,12,13,14] (fun x:Int×Int=>[(15,.one (.raw (.int .i64 x.1))),(16,.one (.raw (.int .i64 x.2)))])
      (fun x=>0<=x.1/\T=x.1*v1+x.2/\W<(x.1+1)*num (Vf s)/\0<=x.2/\x.1<=T)
      (fun x=>x.1.toNat) (T / v1,T % v1) ⟨hq1,by dsimp only;rw [Int.mul_comm];omega,hinit,hm1',hq2⟩ ?_ ?_
     . refine rg ?_;exact StLe.weaken (by repeat' first | exact .nil | refine .cons (by first | exact .refl _ | exact .any _) ?_) rfl
     rintro ⟨g,r⟩ ⟨hg0,hgT,hgW,hr0,hgT2⟩;simp only at hg0 hgT hgW hr0 hgT2;have hgv:0<=g*v1:=Int.mul_nonneg hg0 (by omega)
     have hrT:r<=T:=by omega
     refine rg ?_
     have hfin:g<=1048575->(1048576<=r\/g*v2<=r*1048576+u2)->(g-1)*num (Vf s)<=W:=fun hg1 hc=>
      vpk hP hW hw1 du.1 hVt hv0 (by omega) dv hV0 hW0 hg0 hg1 hgT hc
     have hdec:W<g*num (Vf s)->0<g/\T=(g-1)*v1+(r+v1)/\W<(g-1+1)*num (Vf s):=fun h=>by
      refine ⟨?_,?_,?_⟩
      . rcases Int.lt_or_le 0 g with h' | h'
        . exact h'
        . have:g=0:=by omega
          subst this;omega
      . rw [hgT];grind
      . rw [show g-1+1=g by omega];exact h
     refine xjr (fun h4=>?_) (fun h4=>?_)
     . refine rg1 @h4 ?_;refine z4u (fun h5=>?_) (fun h5=>?_)
       . have hgv2:0<=g*v2/\g*v2<=1048575*1048575:=⟨Int.mul_nonneg hg0 dv.1,Int.mul_le_mul (by omega) dv.2 dv.1 (by decide)⟩
         conv=>simp (maxSteps:=2000000) (disch:=omega) only [go_sem,Nat.reduceAdd,Nat.reduceSub,Nat.reduceMul,Int.reduceToNat,Nat.reduceEqDiff,Nat.reduceBEq,Nat.reduceBneDiff,h4,h5,ei,e1,e4,e5,<-hv2,<-hu2,yzv,or20]
         refine indk (by kernel_rfl) ?_;refine rg ?_;refine z08 (fun h6=>?_) (fun h6=>?_)
         . obtain ⟨g1,g2,g3⟩:=hdec (wi4 hP hW hw0 hVt hv0' hg0 hgT h6)
           conv=>simp (maxSteps:=2000000) (disch:=omega) only [go_sem,Nat.reduceAdd,Nat.reduceSub,Nat.reduceMul,Int.reduceToNat,Nat.reduceEqDiff,Nat.reduceBEq,Nat.reduceBneDiff,e3,<-hv1]
           exact ⟨(g-1,r+v1),⟨by dsimp only;omega,g2,g3,by dsimp only;omega,by dsimp only;omega⟩,by dsimp only;omega,StLe.weaken (by repeat' first | exact .nil | refine .cons (by first | exact .refl _ | exact .any _) ?_) rfl⟩
         . refine rg ?_;exact ⟨g,⟨hg0,by omega,hgW,hfin (by omega) (.inr (by omega))⟩,StLe.weaken (by repeat' first | exact .nil | refine .cons (by first | exact .refl _ | exact .any _) ?_) rfl⟩
       . refine rg2 @h4 @h5 ?_;refine indk (by kernel_rfl) ?_;refine rg2 @h4 @h5 ?_;exact ⟨g,⟨hg0,by omega,hgW,hfin (by omega) (.inl (by omega))⟩,StLe.weaken (by repeat' first | exact .nil | refine .cons (by first | exact .refl _ | exact .any _) ?_) rfl⟩
     . have hWB:W<num (Vf s)*1048576:=by
        have h7:=vhw w i ((Vf s).length+1) hin;rw [<-hWW] at h7;have h8:=Int.mul_nonneg (Int.le_of_lt (zou (i+((Vf s).length+1)))) (num_nonneg (hwd.drop (i+((Vf s).length+1))));have h9:=num_nonneg (hwd.take i);rw [Int.pow_succ] at hlt;refine Int.lt_of_mul_lt_mul_left (a:=1048576 ^ i) ?_ (Int.le_of_lt (zou i))
        have:(1048576:Int) ^ i*(num (Vf s)*1048576)=num (Vf s)*(1048576 ^ i*1048576):=by grind
        omega
       have hlow:W<g*num (Vf s):=by
        have:=Int.mul_le_mul_of_nonneg_right h4 (Int.le_of_lt hV0)
        omega
       obtain ⟨g1,g2,g3⟩:=hdec hlow;refine rg1 @h4 ?_;refine indk (by kernel_rfl) ?_
       conv=>simp (maxSteps:=2000000) (disch:=omega) only [go_sem,Nat.reduceAdd,Nat.reduceSub,Nat.reduceMul,Int.reduceToNat,Nat.reduceEqDiff,Nat.reduceBEq,Nat.reduceBneDiff,h4,e3,<-hv1]
       exact ⟨(g-1,r+v1),⟨by dsimp only;omega,g2,g3,by dsimp only;omega,by dsimp only;omega⟩,by dsimp only;omega,StLe.weaken (by repeat' first | exact .nil | refine .cons (by first | exact .refl _ | exact .any _) ?_) rfl⟩
   . intro g hg;have hg:0<=g/\g<=1048575/\W<(g+1)*num (Vf s)/\(g-1)*num (Vf s)<=W:=hg;have hg0:=hg.1;have hg1:=hg.2.1;have hgW:=hg.2.2.1;have hgl:=hg.2.2.2;have hsp:=xu8 hgl hgW hV0 hW0 ⟨hg0,hg1⟩;refine rg1 @e6 ?_;rw [show i+((Vf s).length+1)-i=(Vf s).length+1 by omega];refine ownk (y1l w (Vf s) i ((Vf s).length+1) g hwd hVd (by omega) hin (by omega) ⟨hg0,hg1⟩ (by rw [<-hWW];exact hgl)) ?_;rw [<-hWW];generalize settled W (num (Vf s)) g=G at *;obtain ⟨hG0,hG1,hG2,hG3⟩:=hsp;obtain ⟨D,hD⟩:∃ D,D=fixd ((Vf s).length+1) (W-G*num (Vf s)):=⟨_,rfl⟩
     have hDl:D.length=(Vf s).length+1:=by rw [hD];exact wpd _ _
     have hDd:digits D:=by rw [hD];exact xvy _ _
     have hGV:(G+1)*num (Vf s)=G*num (Vf s)+num (Vf s):=by grind
     have hDn:num D=W-G*num (Vf s):=by
      rw [hD];refine x8e _ _ (by omega) ?_;have h7:=xxq hVd;have h8:=wqr (show (Vf s).length<=(Vf s).length+1 by omega);omega
     rw [<-hD];refine rg1 @hDl ?_;have h7:=vhw w i ((Vf s).length+1) hin;have h8:=y3m w D i ((Vf s).length+1) hin hDl;rw [<-hWW] at h7;rw [hDn] at h8;have hA0:=num_nonneg (hwd.take i);have hA1:=xxq (hwd.take i);rw [List.length_take,Nat.min_eq_left (by omega)] at hA1
     have hX0:num (w.drop (i+((Vf s).length+1)))=0:=by
      have hX:=num_nonneg (hwd.drop (i+((Vf s).length+1)))
      rcases Int.lt_or_le 0 (num (w.drop (i+((Vf s).length+1)))) with h9 | h9
      . have k1:=Int.mul_le_mul_of_nonneg_left (show (1:Int)<=num (w.drop (i+((Vf s).length+1))) by omega) (Int.le_of_lt (zou (i+((Vf s).length+1))));have k2:=Int.mul_nonneg (Int.le_of_lt (zou i)) hW0;have k3:=Int.mul_lt_mul_of_pos_right (xxq hVd) (zou (i+1))
        have k4:(1048576:Int) ^ (Vf s).length*1048576 ^ (i+1)=1048576 ^ (i+((Vf s).length+1)):=by rw [<-Int.pow_add];congr 1;omega
        omega
      . omega
     rw [hX0,Int.mul_zero,Int.add_zero] at h7 h8;refine ⟨(i,w.take i++D++w.drop (i+((Vf s).length+1)),q.set i G),⟨by dsimp only;omega,?_,((hwd.take i).append hDd).append (hwd.drop _),by simpa using hq,hqd.set i ⟨hG0,hG1⟩,?_,?_⟩,by dsimp only;omega,StLe.weaken (by repeat' first | exact .nil | refine .cons (by first | exact .refl _ | exact .any _) ?_) rfl⟩
     . dsimp only;rw [List.length_append,List.length_append,List.length_take,List.length_drop,hDl];omega
     . dsimp only;rw [x7k G (by omega),h8,he,h7,Int.pow_succ];simp only [num]
       grind
     . dsimp only;rw [h8];have k1:=Int.mul_le_mul_of_nonneg_left (show W-G*num (Vf s)<=num (Vf s)-1 by omega) (Int.le_of_lt (zou i))
       have k2:(1048576:Int) ^ i*(num (Vf s)-1)=num (Vf s)*1048576 ^ i-1048576 ^ i:=by grind
       omega
 . have h0:j=0:=by omega
   subst h0;simp only [Int.pow_zero,Int.one_mul,List.drop_zero,Int.mul_one] at he hlt;refine rg ?_;refine v1h (xam w (by omega)) ?_;rw [xrr hwd rfl];have hwn:=num_nonneg hwd;have hqn:=num_nonneg hqd
   have e7:num (dig (num w).toNat)=num w:=by rw [yn8];omega
   have hlw:(dig (num w).toNat).length<=w.length:=by rw [<-z00 hwd];exact zhu w
   refine rg ?_;refine v1h (yak (dig (num w).toNat) s (wo6 _) (by omega) (by omega)) ?_;rw [e7];refine rg ?_;refine v1h (xam q (by omega)) ?_;rw [xrr hqd rfl];refine rg ?_;refine ⟨_,rfl,?_⟩;rw [hVn] at he hlt;obtain ⟨hq',hr'⟩:=ws7 (show (0:Int)<s by omega) hbp he hwn hlt;rw [hq',hr'];exact .tup (.cons (.refl _) (.cons (.refl _) .nil))
theorem xv2 (a b:List Int) (ha:digits a) (na:norm a) (hb:digits b) (nb:norm b) (la:a.length<=1073741824) (lb:2<=b.length) (hle:num b<=num a) :
 yn2 prog 118 [.one (.ints .i64 a),.one (.ints .i64 b)] (.tup [.one (.ints .i64 (dig (num a / num b).toNat)),.one (.ints .i64 (dig (num a % num b).toNat))]):=
 y0i a b (fun s=>dig (num a*(s:Int)).toNat) (fun s=>dig (num b*(s:Int)).toNat) (fun _=>rfl) (fun _=>rfl) ha na hb nb la lb hle
end Go.Slot.T
namespace Go.Slot.T
open Go Go.RowKit Go.Slot
open Go.Proofs.Tryz (prog)
set_option maxRecDepth 10000
set_option maxHeartbeats 4000000
abbrev okZ (z:Int):Prop:=(dig z.natAbs).length<=268435456
theorem zcq (z:Int) (hz:okZ z):yn2 prog 70 [.agg [.raw (.int .i64 (sg z)),.ints .i64 (dig z.natAbs)]] (.one (.raw (.bool true))):=by
 have h:=xz2 (sg z) (dig z.natAbs) (by omega);rw [decide_eq_true (xpw z)] at h;exact h
theorem yr5 (s:Int) (L:List Int) (hL:L.length<=268435456) (h:¬xhn s L):yn2 prog 70 [.agg [.raw (.int .i64 s),.ints .i64 L]] (.one (.raw (.bool false))):=by
 have h':=xz2 s L (by omega);rw [decide_eq_false h] at h';exact h'
theorem vgq (s z:Int) (hz:(dig z.natAbs).length<=1073741824) (h:(s=1/\0<=z)\/(s = -1/\z<=0)\/z=0) :
 yn2 prog 95 [.one (.raw (.int .i64 s)),.one (.ints .i64 (dig z.natAbs))] (.agg [.raw (.int .i64 (sg z)),.ints .i64 (dig z.natAbs)]):=by
 have h':=y7y s (dig z.natAbs) (by omega);unfold bigC at h';rw [vam h] at h';exact h'
theorem ypp (z:Int):yn2 prog 117 [.one (.raw (.bool true)),.agg [.raw (.int .i64 (sg z)),.ints .i64 (dig z.natAbs)]]
 (.tup [.agg [.raw (.int .i64 (sg z)),.ints .i64 (dig z.natAbs)],.one (.raw (.int .i64 0))]):=z8n true (sg z) (dig z.natAbs)
theorem x7n (x y:Int) (hx:okZ x) (hy:okZ y) :
 yn2 prog 68 [.agg [.raw (.int .i64 (sg x)),.ints .i64 (dig x.natAbs)],.agg [.raw (.int .i64 (sg y)),.ints .i64 (dig y.natAbs)]] (.one (.raw (.int .i64 (ord x y)))):=by
 have sx:=wzq x;have sy:=wzq y;refine yn2.run [] Go.Proofs.Tryz.func68 rfl rfl ?_;simp only [Go.Proofs.Tryz.f68];refine rgR ?_;refine v1h (zcq x hx) ?_;refine rg ?_;refine v1h (zcq y hy) ?_;refine rg ?_;refine z08 (fun h=>?_) (fun h=>?_)
 . refine rg ?_;refine v1h (cCmp _ _) ?_;refine rg ?_;exact ⟨_,rfl,by rw [y79 x y h];exact .one (.refl _)⟩
 . have h:sg x=sg y:=by omega
   have ho:-1<=ord (num (dig x.natAbs)) (num (dig y.natAbs))/\ord (num (dig x.natAbs)) (num (dig y.natAbs))<=1:=by unfold ord;repeat' split<;>omega
   have hm:=zn8 x y h
   have ho':-1<=ord x y/\ord x y<=1:=by unfold ord;repeat' split<;>omega
   refine rg ?_;refine v1h (xxj _ _ (wo6 _) (yrd _) (wo6 _) (yrd _) (by omega) (by omega)) ?_;refine rg1 @hm ?_;refine indk (by kernel_rfl) ?_;refine rg ?_;exact ⟨_,rfl,.one (.refl _)⟩
theorem yvd (x:Int) (hx:okZ x) :
 yn2 prog 93 [.agg [.raw (.int .i64 (sg x)),.ints .i64 (dig x.natAbs)]] (.agg [.raw (.int .i64 (sg (-x))),.ints .i64 (dig (-x).natAbs)]):=by
 have sx:=wzq x
 have e:(-x).natAbs=x.natAbs:=by omega
 have hs:=vgq (0-sg x) (-x) (by rw [e];omega) (by omega);rw [e] at hs ⊢;refine yn2.run [] Go.Proofs.Tryz.func93 rfl rfl ?_;simp only [Go.Proofs.Tryz.f93];refine rgR ?_;refine v1h (zcq x hx) ?_;refine rg ?_;refine v1h (yud _ (by omega)) ?_;refine rg ?_;refine v1h hs ?_;refine rg ?_;refine indk (by kernel_rfl) ?_;refine rg ?_;exact ⟨_,rfl,.one (.refl _)⟩
theorem cOr (x y:Int):yn2 prog 189 [.one (.ints .i64 [x,y])] (.one (.raw (.int .i64 (if x≠0 then x else y)))):=by
 refine yn2.run [] Go.Proofs.Tryz.func189 rfl rfl ?_;simp only [Go.Proofs.Tryz.f189];refine rgR ?_;refine vxs [3,6,7] (fun i:Nat=>[(8,.one (.raw (.int .i64 i)))])
  (fun i=>i=0\/(i=1/\x=0)\/(i=2/\x=0/\y=0)) (fun i=>2-i) 0 (.inl rfl) ?_ ?_
 . refine rg ?_;exact StLe.weaken (by repeat' first | exact .nil | refine .cons (by first | exact .refl _ | exact .any _) ?_) rfl
 rintro i (rfl | ⟨rfl,hx⟩ | ⟨rfl,hx,hy⟩)
 . refine rg ?_;refine z08 (fun _=>?_) (fun h=>absurd (by decide) h);refine rg ?_;refine z08 (fun h1=>?_) (fun h1=>?_)
   . have h1:x≠0:=h1;refine rg ?_;exact ⟨_,rfl,.one (.refl _)⟩
   . have h1:x=0:=by simpa using h1
     refine rg ?_;exact ⟨1,.inr (.inl ⟨rfl,h1⟩),by decide,StLe.weaken (by repeat' first | exact .nil | refine .cons (by first | exact .refl _ | exact .any _) ?_) rfl⟩
 . refine rg ?_;refine z08 (fun _=>?_) (fun h=>absurd (by decide) h);refine rg ?_;refine z08 (fun h1=>?_) (fun h1=>?_)
   . refine rg ?_;exact ⟨_,rfl,.one (.refl _)⟩
   . have h1:y=0:=by simpa using h1
     refine rg ?_;exact ⟨2,.inr (.inr ⟨rfl,hx,h1⟩),by decide,StLe.weaken (by repeat' first | exact .nil | refine .cons (by first | exact .refl _ | exact .any _) ?_) rfl⟩
 . refine rg ?_;refine z08 (fun h=>absurd h (by decide)) (fun _=>?_);refine rg ?_;exact ⟨_,rfl,by rw [hy];exact .one (.refl _)⟩
theorem vwl (L M:List Int) (lL:L.length<=1073741824) (_lM:M.length<=1073741824) :
 yn2 prog 143 [.one (.ints .i64 L),.one (.ints .i64 M)] (.one (.raw (.bool (decide (L=M))))):=by
 refine yn2.run [] Go.Proofs.Tryz.func143 rfl rfl ?_;simp only [Go.Proofs.Tryz.f143];refine rgR ?_;refine z08 (fun h=>?_) (fun h=>?_)
 . refine rg ?_;exact ⟨_,rfl,by rw [decide_eq_false (fun e=>h (by rw [e]))];exact .one (.refl _)⟩
 . have hl:L.length=M.length:=by omega
   refine rg ?_;refine vxs [0,1,11,12] (fun i:Nat=>[(13,.one (.raw (.int .i64 i)))])
    (fun i=>i<=L.length/\L.take i=M.take i) (fun i=>L.length-i) 0 ⟨Nat.zero_le _,rfl⟩ ?_ ?_
   . refine rg ?_;exact StLe.weaken (by repeat' first | exact .nil | refine .cons (by first | exact .refl _ | exact .any _) ?_) rfl
   rintro i ⟨hi,he⟩;refine rg ?_;refine z08 (fun h1=>?_) (fun h1=>?_)
   . have hg:∀(l:List Int),i<l.length->l.take (i+1)=l.take i++[l.getD i 0]:=fun l h=>by
      rw [List.take_add_one];simp [h]
     refine rg ?_;refine indk (by kernel_rfl) ?_;refine rg ?_;refine z08 (fun h2=>?_) (fun h2=>?_)
     . refine rg ?_;exact ⟨_,rfl,by rw [decide_eq_false (fun e=>h2 (by rw [e]))];exact .one (.refl _)⟩
     . have h2:L.getD i 0=M.getD i 0:=by omega
       refine rg ?_;refine ⟨i+1,⟨by omega,?_⟩,by omega,StLe.weaken (by repeat' first | exact .nil | refine .cons (by first | exact .refl _ | exact .any _) ?_) rfl⟩;rw [hg L (by omega),hg M (by omega),he,h2]
   . have hi:i=L.length:=by omega
     subst hi;rw [List.take_length,hl,List.take_length] at he;refine rg ?_;exact ⟨_,rfl,by rw [decide_eq_true he];exact .one (.refl _)⟩
theorem yfl (s:Int) (L:List Int) (s':Int) (M:List Int) (lL:L.length<=1073741824) (lM:M.length<=1073741824) :
 yn2 prog 92 [.agg [.raw (.int .i64 s),.ints .i64 L],.agg [.raw (.int .i64 s'),.ints .i64 M]] (.one (.raw (.bool (decide (s=s'/\L=M))))):=by
 obtain ⟨r,hr⟩:∃ r,r=decide (s=s'/\L=M):=⟨_,rfl⟩;rw [<-hr];refine yn2.run [] Go.Proofs.Tryz.func92 rfl rfl ?_;simp only [Go.Proofs.Tryz.f92];refine rgR ?_;refine z4u (fun h=>?_) (fun h=>?_)
 . refine rg1 @h ?_;refine v1h (vwl L M lL lM) ?_;refine rg1 @h ?_;exact ⟨_,rfl,by rw [hr,show decide (s=s'/\L=M)=decide (L=M) from decide_eq_decide.2 ⟨fun e=>e.2,fun e=>⟨h,e⟩⟩];exact .one (.refl _)⟩
 . refine rg1 @h ?_;exact ⟨_,rfl,by rw [hr,decide_eq_false (fun e=>h e.1)];exact .one (.refl _)⟩
theorem zm6 (x y:Int) (hx:okZ x) (hy:okZ y) :
 yn2 prog 136 [.agg [.raw (.int .i64 (sg x)),.ints .i64 (dig x.natAbs)],.agg [.raw (.int .i64 (sg y)),.ints .i64 (dig y.natAbs)]]
  (.tup [.agg [.raw (.int .i64 (sg (x+y))),.ints .i64 (dig (x+y).natAbs)],.one (.raw (.int .i64 0))]):=by
 have sx:=wzq x;have sy:=wzq y;have hl:=zzg x y;have ex:=zeb x;have ey:=zeb y
 have hp:sg x*sg y=1\/sg x*sg y=0\/sg x*sg y = -1:=by
  rcases sx with ⟨_,e⟩ | ⟨_,e⟩ | ⟨_,e⟩<;>rcases sy with ⟨_,e'⟩ | ⟨_,e'⟩ | ⟨_,e'⟩<;>rw [e,e']<;>decide
 refine yn2.run [] Go.Proofs.Tryz.func136 rfl rfl ?_;simp only [Go.Proofs.Tryz.f136];refine rgR ?_;refine v1h (zcq x hx) ?_;refine rg ?_;refine v1h (zcq y hy) ?_;refine rg ?_;refine z08 (fun h=>?_) (fun h=>?_)
 . have hs:(0<=x/\0<=y)\/(x<=0/\y<=0):=by
    rcases sx with ⟨h1,e⟩ | ⟨h1,e⟩ | ⟨h1,e⟩<;>rcases sy with ⟨h2,e'⟩ | ⟨h2,e'⟩ | ⟨h2,e'⟩<;>rw [e,e'] at h<;>first | omega | exact absurd h (by decide)
   refine rg ?_;refine v1h (cOr _ _) ?_;refine rg ?_;refine v1h (wu3 _ _ (wo6 _) (wo6 _) (by omega) (by omega)) ?_;rw [ex,ey,show ((x.natAbs:Int)+y.natAbs).toNat=(x+y).natAbs by omega];refine rg ?_;refine v1h (vgq _ (x+y) (by omega) (by split<;>omega)) ?_;refine rg ?_;refine v1h (ypp (x+y)) ?_;refine rg ?_;refine indk (by kernel_rfl) ?_;refine rg ?_;exact ⟨_,rfl,.one (.refl _)⟩
 . have hs:(x<0/\0<y)\/(0<x/\y<0):=by
    rcases sx with ⟨h1,e⟩ | ⟨h1,e⟩ | ⟨h1,e⟩<;>rcases sy with ⟨h2,e'⟩ | ⟨h2,e'⟩ | ⟨h2,e'⟩<;>rw [e,e'] at h<;>first | omega | exact absurd (by decide) h
   refine rg ?_;refine v1h (xxj _ _ (wo6 _) (yrd _) (wo6 _) (yrd _) (by omega) (by omega)) ?_;refine rg ?_;refine z08 (fun h1=>?_) (fun h1=>?_)
   . have h2:x.natAbs<y.natAbs:=by
      rw [ex,ey] at h1;unfold ord at h1;repeat' split at h1<;>omega
     refine rg ?_;refine v1h (viv _ _ (wo6 _) (wo6 _) (by omega) (wxv (by omega)) (by omega)) ?_;rw [ex,ey,show ((y.natAbs:Int)-x.natAbs).toNat=(x+y).natAbs by omega];refine rg ?_;refine v1h (vgq _ (x+y) (by omega) (by omega)) ?_;refine rg ?_;refine v1h (ypp (x+y)) ?_;refine rg ?_;refine indk (by kernel_rfl) ?_;refine rg ?_;exact ⟨_,rfl,.one (.refl _)⟩
   . have h2:y.natAbs<=x.natAbs:=by
      rw [ex,ey] at h1;unfold ord at h1;repeat' split at h1<;>omega
     refine rg ?_;refine v1h (viv _ _ (wo6 _) (wo6 _) (by omega) (wxv (by omega)) (by omega)) ?_;rw [ex,ey,show ((x.natAbs:Int)-y.natAbs).toNat=(x+y).natAbs by omega];refine rg ?_;refine v1h (vgq _ (x+y) (by omega) (by omega)) ?_;refine rg ?_;refine v1h (ypp (x+y)) ?_;refine rg ?_;refine indk (by kernel_rfl) ?_;refine rg ?_;exact ⟨_,rfl,.one (.refl _)⟩
theorem vda (x y:Int):sg x*sg y=sg (x*y):=by
 rcases wzq x with ⟨h1,e⟩ | ⟨h1,e⟩ | ⟨h1,e⟩<;>rcases wzq y with ⟨h2,e'⟩ | ⟨h2,e'⟩ | ⟨h2,e'⟩<;>rw [e,e']
 . rw [zgv (Int.mul_pos_of_neg_of_neg h1 h2)];rfl
 . subst h2;simp [vap]
 . rw [xxz (Int.mul_neg_of_neg_of_pos h1 h2)];rfl
 . subst h1;simp [vap]
 . subst h1;simp [vap]
 . subst h1;simp [vap]
 . rw [xxz (Int.mul_neg_of_pos_of_neg h1 h2)];rfl
 . subst h2;simp [vap]
 . rw [zgv (Int.mul_pos h1 h2)];rfl
theorem wqt (z:Int):(sg z=1/\0<=z)\/(sg z = -1/\z<=0)\/z=0:=by
 rcases wzq z with ⟨h,e⟩ | ⟨h,e⟩ | ⟨h,e⟩<;>omega
theorem zf2 (x y:Int) (hx:okZ x) (hy:okZ y) :
 yn2 prog 116 [.agg [.raw (.int .i64 (sg x)),.ints .i64 (dig x.natAbs)],.agg [.raw (.int .i64 (sg y)),.ints .i64 (dig y.natAbs)]]
  (.tup [.agg [.raw (.int .i64 (sg (x*y))),.ints .i64 (dig (x*y).natAbs)],.one (.raw (.int .i64 0))]):=by
 have hl:=wm8 x y;have ex:=zeb x;have ey:=zeb y;have hs:=vda x y;have hs1:=wzq (x*y);refine yn2.run [] Go.Proofs.Tryz.func116 rfl rfl ?_;simp only [Go.Proofs.Tryz.f116];refine rgR ?_;refine v1h (zcq x hx) ?_;refine rg ?_;refine v1h (zcq y hy) ?_;refine rg ?_;refine v1h ((y5t _ _ (wo6 _) (wo6 _) (by omega) (by omega)).le .own) ?_;rw [ex,ey,show ((x.natAbs:Int)*y.natAbs).toNat=(x*y).natAbs by rw [Int.natAbs_mul,<-Int.natCast_mul];rfl];refine rg1 @hs ?_;refine v1h (vgq _ (x*y) (by omega) (wqt _)) ?_;refine rg ?_;refine v1h (ypp (x*y)) ?_;refine rg ?_;refine indk (by kernel_rfl) ?_;refine rg ?_;exact ⟨_,rfl,.one (.refl _)⟩
theorem cDiv (a b:Nat) (la:(dig a).length<=1073741824) (hl:(dig b).length<=1073741824) (hb:b≠0) :
 yn2 prog 118 [.one (.ints .i64 (dig a)),.one (.ints .i64 (dig b))] (.tup [.one (.ints .i64 (dig (a / b))),.one (.ints .i64 (dig (a % b)))]):=by
 have ea:=yn8 a;have eb:=yn8 b
 have e1:(num (dig a) / num (dig b)).toNat=a / b:=by rw [ea,eb];exact Int.toNat_natCast _
 have e2:(num (dig a) % num (dig b)).toNat=a % b:=by rw [ea,eb];exact Int.toNat_natCast _
 rw [<-e1,<-e2]
 rcases Nat.lt_or_ge a b with h | h
 . exact xjz _ _ (wo6 _) (yrd _) (wo6 _) (yrd _) la hl (by omega)
 . rcases Nat.lt_or_ge (dig b).length 2 with h1 | h1
   . have h0:(dig b).length≠0:=fun e=>hb (zrh.1 (List.eq_nil_of_length_eq_zero e))
     exact vkh _ _ (wo6 _) (yrd _) (wo6 _) (yrd _) la (by omega) (by omega)
   . exact xv2 _ _ (wo6 _) (yrd _) (wo6 _) (yrd _) la h1 (by omega)
theorem vjt (x y:Int) (hx:okZ x) (hy:okZ y) (hy0:0<y) :
 yn2 prog 94 [.agg [.raw (.int .i64 (sg x)),.ints .i64 (dig x.natAbs)],.agg [.raw (.int .i64 (sg y)),.ints .i64 (dig y.natAbs)]]
  (.tup [.agg [.raw (.int .i64 (sg (x / y))),.ints .i64 (dig (x / y).natAbs)],.agg [.raw (.int .i64 (sg (x % y))),.ints .i64 (dig (x % y).natAbs)],.one (.raw (.int .i64 0))]):=by
 have sx:=wzq x;have sy:=zgv hy0;have hn:=Nat.div_add_mod x.natAbs y.natAbs;have hr:=Nat.mod_lt x.natAbs (show 0<y.natAbs by omega);have hqx:=Nat.div_le_self x.natAbs y.natAbs;have hrx:=Nat.mod_le x.natAbs y.natAbs;have hlq:=wxv hqx;have hlr:=wxv hrx;generalize hQ:x.natAbs / y.natAbs=Q at *;generalize hR:x.natAbs % y.natAbs=R at *
 have hyQ:((y.natAbs*Q:Nat):Int)=y*Q:=by rw [Int.natCast_mul];congr 1;omega
 have eR:=yn8 R;have eQ:=yn8 Q;have ey:=zeb y;have hlQ1:=z4z Q 1
 have h1l:(dig 1).length=1:=by rw [yzy (by decide),ylp];rfl
 have hcd:=cDiv x.natAbs y.natAbs (by omega) (by omega) (by omega);rw [hQ,hR] at hcd;refine yn2.run [] Go.Proofs.Tryz.func94 rfl rfl ?_;simp only [Go.Proofs.Tryz.f94];refine rgR ?_;refine v1h (zcq x hx) ?_;refine rg ?_;refine v1h (zcq y hy) ?_;refine rg ?_;refine z08 (fun h=>absurd h (by omega)) (fun _=>?_);refine rg ?_;refine v1h hcd ?_
 conv=>simp (maxSteps:=2000000) (disch:=omega) only [go_sem,Nat.reduceAdd,Nat.reduceSub,Nat.reduceMul,Int.reduceToNat,Nat.reduceEqDiff,Nat.reduceBEq,Nat.reduceBneDiff,sy,Int.mul_one]
 refine z4u (fun h1=>?_) (fun h1=>?_)
 . have hx0:x<0:=by omega
   conv=>simp (maxSteps:=2000000) (disch:=omega) only [go_sem,Nat.reduceAdd,Nat.reduceSub,Nat.reduceMul,Int.reduceToNat,Nat.reduceEqDiff,Nat.reduceBEq,Nat.reduceBneDiff,h1,sy,Int.mul_one]
   refine z08 (fun h2=>?_) (fun h2=>?_)
   . have hR0:R≠0:=fun e=>by rw [e,ylp] at h2;simp at h2
     obtain ⟨k1,k2⟩:=v03 (x:=x) (y:=y) (q:=-((Q:Int)+1)) (r:=y-R) (by
      have:y * -((Q:Int)+1) = -(y*Q)-y:=by grind
      omega) (by omega) (by omega)
     have m1:(x / y).natAbs=Q+1:=by rw [k1];omega
     have m2:(x % y).natAbs=y.natAbs-R:=by rw [k2];omega
     have m3:(num (dig Q)+num [1]).toNat=Q+1:=by rw [eQ];simp [num]
     have m4:(num (dig y.natAbs)-num (dig R)).toNat=y.natAbs-R:=by rw [ey,eR];omega
     have hA:=wu3 (dig Q) [1] (wo6 _) (digits.cons (by decide) digits.nil) (by omega) (by simp);rw [m3,<-m1] at hA;have hS:=viv (dig y.natAbs) (dig R) (wo6 _) (wo6 _) (by omega) (wxv (by omega)) (by omega);rw [m4,<-m2] at hS;have hs1:=vgq (-1) (x / y) (by rw [m1];omega) (by rw [k1];omega);have hs2:=vgq 1 (x % y) (by rw [m2];have:=wxv (show y.natAbs-R<=y.natAbs by omega);omega) (by rw [k2];omega);refine rg ?_;refine v1h hA ?_;refine rg ?_;refine v1h hs1 ?_;refine rg ?_;refine v1h hS ?_;refine rg ?_;refine v1h hs2 ?_;refine rg ?_;refine indk (by kernel_rfl) ?_;refine rg ?_;exact ⟨_,rfl,.one (.refl _)⟩
   . have hR0:R=0:=zrh.1 (List.eq_nil_of_length_eq_zero (by omega))
     obtain ⟨k1,k2⟩:=v03 (x:=x) (y:=y) (q:=-(Q:Int)) (r:=0) (by
      have:y * -(Q:Int) = -(y*Q):=by grind
      omega) (by omega) (by omega)
     have m1:(x / y).natAbs=Q:=by rw [k1];omega
     have m2:(x % y).natAbs=R:=by rw [k2];omega
     have hs1:=vgq (sg x) (x / y) (by rw [m1];omega) (by rw [k1];omega);have hs2:=vgq (sg x) (x % y) (by rw [m2];omega) (by rw [k2];omega);rw [<-m1,<-m2]
     conv=>simp (maxSteps:=2000000) (disch:=omega) only [go_sem,Nat.reduceAdd,Nat.reduceSub,Nat.reduceMul,Int.reduceToNat,Nat.reduceEqDiff,Nat.reduceBEq,Nat.reduceBneDiff,sy,Int.mul_one]
     refine v1h hs1 ?_;refine rg ?_;refine v1h hs2 ?_;refine rg ?_;refine indk (by kernel_rfl) ?_;refine rg ?_;exact ⟨_,rfl,.one (.refl _)⟩
 . have hx0:0<=x:=by omega
   obtain ⟨k1,k2⟩:=v03 (x:=x) (y:=y) (q:=(Q:Int)) (r:=(R:Int)) (by omega) (by omega) (by omega)
   have m1:(x / y).natAbs=Q:=by rw [k1];omega
   have m2:(x % y).natAbs=R:=by rw [k2];omega
   have hQ0:x=0->Q=0/\R=0:=fun e=>by subst e;simp at hqx hrx;exact ⟨hqx,hrx⟩
   have hs1:=vgq (sg x) (x / y) (by rw [m1];omega) (by rw [k1];omega);have hs2:=vgq (sg x) (x % y) (by rw [m2];omega) (by rw [k2];omega);rw [<-m1,<-m2]
   conv=>simp (maxSteps:=2000000) (disch:=omega) only [go_sem,Nat.reduceAdd,Nat.reduceSub,Nat.reduceMul,Int.reduceToNat,Nat.reduceEqDiff,Nat.reduceBEq,Nat.reduceBneDiff,h1,sy,Int.mul_one]
   refine v1h hs1 ?_;refine rg ?_;refine v1h hs2 ?_;refine rg ?_;refine indk (by kernel_rfl) ?_;refine rg ?_;exact ⟨_,rfl,.one (.refl _)⟩
theorem xuv (x y:Int) (hx:okZ x) (hy:okZ y) :
 yn2 prog 71 [.agg [.raw (.int .i64 (sg x)),.ints .i64 (dig x.natAbs)],.agg [.raw (.int .i64 (sg y)),.ints .i64 (dig y.natAbs)]]
  (.tup [.agg [.raw (.int .i64 (sg (Int.gcd x y:Int))),.ints .i64 (dig (Int.gcd x y:Int).natAbs)],.one (.raw (.int .i64 0))]):=by
 refine yn2.run [] Go.Proofs.Tryz.func71 rfl rfl ?_;simp only [Go.Proofs.Tryz.f71];refine rgR ?_;refine v1h (zcq x hx) ?_;refine rg ?_;refine v1h (zcq y hy) ?_;refine rg ?_;refine v1h (yud _ (by omega)) ?_;refine rg ?_;refine indk (by kernel_rfl) ?_;refine rg ?_;refine vxs [5] (fun p:Nat×Nat=>[(6,.one (.ints .i64 (dig p.1))),(7,.one (.ints .i64 (dig p.2)))])
  (fun p=>Nat.gcd p.1 p.2=Int.gcd x y/\(dig p.1).length<=268435456/\(dig p.2).length<=268435456) (fun p=>p.2) (x.natAbs,y.natAbs) ⟨rfl,hx,hy⟩ ?_ ?_
 . refine rg ?_;exact StLe.weaken (by repeat' first | exact .nil | refine .cons (by first | exact .refl _ | exact .any _) ?_) rfl
 rintro ⟨m,n⟩ ⟨hg,hm,hn⟩;simp only at hg hm hn;refine rg ?_;refine z08 (fun h=>?_) (fun h=>?_)
 . have hn0:n≠0:=fun e=>by rw [e,ylp] at h;simp at h
   refine rg ?_;refine v1h (cDiv m n (by omega) (by omega) hn0) ?_;refine rg ?_;refine ⟨(n,m % n),⟨?_,hn,Nat.le_trans (wxv (Nat.mod_le _ _)) hm⟩,Nat.mod_lt _ (by omega),StLe.weaken (by repeat' first | exact .nil | refine .cons (by first | exact .refl _ | exact .any _) ?_) rfl⟩;dsimp only;rw [<-hg,Nat.gcd_comm n,<-Nat.gcd_rec,Nat.gcd_comm]
 . have hn0:n=0:=zrh.1 (List.eq_nil_of_length_eq_zero (by omega));subst hn0;rw [Nat.gcd_zero_right] at hg
   have e:(Int.gcd x y:Int).natAbs=m:=by rw [<-hg];rfl
   have hs:=vgq 1 (Int.gcd x y:Int) (by rw [e];omega) (.inl ⟨rfl,by omega⟩);rw [e] at hs ⊢;have hc:=z8n true (sg (Int.gcd x y:Int)) (dig m);refine rg ?_;refine v1h (yud _ (by omega)) ?_;refine rg ?_;refine v1h hs ?_;refine rg ?_;refine v1h hc ?_;refine rg1 @bigC.eq_def ?_;exact ⟨_,rfl,.one (.refl _)⟩
end Go.Slot.T
namespace Go.Slot
open Go Go.RowKit
theorem wu64 {n:Int} (h:0<=n/\n<=18446744073709551615):IntKind.u64.wrap n=n:=by
 unfold IntKind.wrap;simp [IntKind.bits,IntKind.signed];omega
theorem ydz {i:Nat} (h:i<=3):(i=0/\(1048576:Int) ^ i=1)\/(i=1/\(1048576:Int) ^ i=1048576)\/(i=2/\(1048576:Int) ^ i=1099511627776)\/(i=3/\(1048576:Int) ^ i=1152921504606846976):=by
 have:i=0\/i=1\/i=2\/i=3:=by omega
 rcases this with rfl | rfl | rfl | rfl
 . exact .inl ⟨rfl,by decide⟩
 . exact .inr (.inl ⟨rfl,by decide⟩)
 . exact .inr (.inr (.inl ⟨rfl,by decide⟩))
 . exact .inr (.inr (.inr ⟨rfl,by decide⟩))
theorem shlB {d:Int} {i:Nat} (hi:i<=3) (h0:0<=d) (h1:d*1048576 ^ i<=18446744073709551615):ishl .u64 d (20*(i:Int))=d*1048576 ^ i:=by
 unfold ishl
 have:(2:Int) ^ (min (20*(i:Int)).toNat IntKind.u64.bits)=1048576 ^ i:=by
  rcases ydz hi with ⟨rfl,e⟩ | ⟨rfl,e⟩ | ⟨rfl,e⟩ | ⟨rfl,e⟩<;>rw [e]<;>decide
 rw [this];exact wu64 ⟨Int.mul_nonneg h0 (Int.le_of_lt (zou i)),h1⟩
theorem orB {u d:Int} {i:Nat} (hi:i<=3) (hu:0<=u/\u<1048576 ^ i) (h0:0<=d) (h1:d*1048576 ^ i+u<=18446744073709551615):ior .u64 u (d*1048576 ^ i)=u+d*1048576 ^ i:=by
 unfold ior
 have key:∀(k:Nat) (x y:Nat),x<2 ^ k->y*2 ^ k+x<2 ^ 64->(BitVec.ofInt 64 (x:Int) |||BitVec.ofInt 64 ((y*2 ^ k:Nat):Int)).toNat=y*2 ^ k+x:=fun k x y hx hy=>by
  rw [BitVec.toNat_or,BitVec.toNat_ofInt,BitVec.toNat_ofInt]
  have e1:(((x:Int)) % ((2 ^ 64:Nat):Int)).toNat=x:=by omega
  have e2:((((y*2 ^ k:Nat)):Int) % ((2 ^ 64:Nat):Int)).toNat=y <<< k:=by rw [Nat.shiftLeft_eq];omega
  rw [e1,e2,Nat.or_comm,<-Nat.shiftLeft_add_eq_or_of_lt hx,Nat.shiftLeft_eq]
 obtain ⟨x,rfl⟩:=Int.eq_ofNat_of_zero_le hu.1;obtain ⟨y,rfl⟩:=Int.eq_ofNat_of_zero_le h0
 have main:∀ k:Nat,(1048576:Int) ^ i=((2 ^ k:Nat):Int)->IntKind.u64.wrap ((BitVec.ofInt IntKind.u64.bits (x:Int) |||BitVec.ofInt IntKind.u64.bits ((y:Int)*1048576 ^ i)).toNat:Int)=(x:Int)+(y:Int)*1048576 ^ i:=fun k e=>by
  rw [e] at h1 hu ⊢
  have h2:(y:Int)*((2 ^ k:Nat):Int)=((y*2 ^ k:Nat):Int):=by rw [Int.natCast_mul]
  rw [h2] at h1 ⊢;have h3:=key k x y (by omega) (by omega);rw [show IntKind.u64.bits=64 from rfl,h3,wu64 (by omega)];omega
 rcases ydz hi with ⟨rfl,e⟩ | ⟨rfl,e⟩ | ⟨rfl,e⟩ | ⟨rfl,e⟩
 . exact main 0 (by rw [e];rfl)
 . exact main 20 (by rw [e];rfl)
 . exact main 40 (by rw [e];rfl)
 . exact main 60 (by rw [e];rfl)
theorem ymf {n:Int} (h:9223372036854775808<=n/\n<=18446744073709551615):IntKind.i64.wrap n=n-18446744073709551616:=by rw [IntKind.wrap_i64];omega
theorem yij {n:Int} (h:-18446744073709551616<=n/\n<0):IntKind.u64.wrap n=n+18446744073709551616:=by
 unfold IntKind.wrap;simp [IntKind.bits,IntKind.signed];omega
attribute [go_sem] wu64
end Go.Slot
namespace Go.Slot.T
open Go Go.RowKit Go.Slot
open Go.Proofs.Tryz (prog)
set_option maxRecDepth 10000
set_option maxHeartbeats 4000000
def inI (z:Int):Prop:=-9223372036854775808<=z/\z<=9223372036854775807
instance (z:Int):Decidable (inI z):=inferInstanceAs (Decidable (_/\_))
theorem cInt (z:Int) (hz:okZ z):yn2 prog 119 [.agg [.raw (.int .i64 (sg z)),.ints .i64 (dig z.natAbs)]]
 (.tup [.one (.raw (.int .i64 (if inI z then z else 0))),.one (.raw (.bool (decide (inI z))))]):=by
 have hs:=wzq z;have hn:=zeb z;have hd:=wo6 z.natAbs
 obtain ⟨r,hr⟩:∃ r,r=if inI z then z else 0:=⟨_,rfl⟩
 obtain ⟨ok,hok⟩:∃ ok,ok=decide (inI z):=⟨_,rfl⟩;rw [<-hr,<-hok]
 have bad:¬inI z->r=0/\ok=false:=fun h=>by rw [hr,hok,if_neg h,decide_eq_false h];exact ⟨rfl,rfl⟩
 have good:inI z->r=z/\ok=true:=fun h=>by rw [hr,hok,if_pos h,decide_eq_true h];exact ⟨rfl,rfl⟩
 clear hr hok;refine yn2.run [] Go.Proofs.Tryz.func119 rfl rfl ?_;simp only [Go.Proofs.Tryz.f119];refine rgR ?_;refine v1h (zcq z hz) ?_;refine rg ?_;refine z08 (fun hbig=>?_) (fun hbig=>?_)
 . refine rg ?_
   obtain ⟨e1,e2⟩:=bad (fun h=>by
    have:(dig z.natAbs).length<=4:=vwv (by unfold inI at h;omega)
    omega)
   exact ⟨_,rfl,by rw [e1,e2];exact .one (.refl _)⟩
 have htop:(dig z.natAbs).length=4->(dig z.natAbs).getD 3 0<=8\/¬inI z:=fun h4=>by
  rcases Int.lt_or_le 8 ((dig z.natAbs).getD 3 0) with h | h
  . right
    intro hi;have h1:=w4d (dig z.natAbs) 3;rw [zvp (by omega),hn] at h1;have h2:=num_nonneg (hd.take 3);unfold inI at hi;omega
  . exact .inl h
 refine rg ?_;refine vxs [1,2,3,17,18] (fun x:Nat×Int=>[(4,.one (.raw (.int .u64 x.2))),(19,.one (.raw (.int .i64 x.1)))])
  (fun x=>x.1<=(dig z.natAbs).length/\x.2=num ((dig z.natAbs).take x.1)/\(x.1=4->(dig z.natAbs).getD 3 0<=8)) (fun x=>(dig z.natAbs).length-x.1) (0,0)
  ⟨Nat.zero_le _,by simp [num],by simp⟩ ?_ ?_
 . refine rg ?_;exact StLe.weaken (by repeat' first | exact .nil | refine .cons (by first | exact .refl _ | exact .any _) ?_) rfl
 rintro ⟨i,u⟩ ⟨hi,hu,h4⟩;simp only at hi hu h4;have hu0:=num_nonneg (hd.take i);have hu1:=xxq (hd.take i);rw [List.length_take,Nat.min_eq_left hi,<-hu] at hu1;rw [<-hu] at hu0;refine rg ?_;refine z08 (fun h=>?_) (fun h=>?_)
 . have hdi:=hd.getD i
   have hi3:i<=3:=by omega
   have hdB:i≠3\/(dig z.natAbs).getD i 0<=8->(dig z.natAbs).getD i 0*1048576 ^ i+u<=18446744073709551615:=fun h8=>by
    rcases ydz hi3 with ⟨h9,e⟩ | ⟨h9,e⟩ | ⟨h9,e⟩ | ⟨h9,e⟩<;>rw [e] at hu1 ⊢<;>omega
   have hdB0:0<=(dig z.natAbs).getD i 0*1048576 ^ i:=Int.mul_nonneg hdi.1 (Int.le_of_lt (zou i))
   have hstep:u+(dig z.natAbs).getD i 0*1048576 ^ i=num ((dig z.natAbs).take (i+1)):=by rw [w4d,hu,Int.mul_comm]
   refine rg ?_;refine z4u (fun h5=>?_) (fun h5=>?_)
   . have h5':=decide_eq_true h5;refine rg1 @h5' ?_;refine z08 (fun h6=>?_) (fun h6=>?_)
     . have i3:i=3:=by omega
       subst i3
       have hni:¬inI z:=by
        rcases htop (by omega) with h7 | h7
        . omega
        . exact h7
       obtain ⟨e1,e2⟩:=bad hni;refine rg ?_;exact ⟨_,rfl,by rw [e1,e2];exact .one (.refl _)⟩
     . have hdB:=hdB (.inr (by omega));refine rg2 @shlB @orB ?_
       have h8:i+1=4->(dig z.natAbs).getD 3 0<=8:=fun e=>by
        have i3:i=3:=by omega
        subst i3;omega
       exact ⟨(i+1,u+(dig z.natAbs).getD i 0*1048576 ^ i),⟨by dsimp only;omega,hstep,h8⟩,by dsimp only;omega,StLe.weaken (by repeat' first | exact .nil | refine .cons (by first | exact .refl _ | exact .any _) ?_) rfl⟩
   . have hdB:=hdB (.inl (by omega));refine rg3 @h5 @shlB @orB ?_;exact ⟨(i+1,u+(dig z.natAbs).getD i 0*1048576 ^ i),⟨by dsimp only;omega,hstep,fun (e:i+1=4)=>by omega⟩,by dsimp only;omega,StLe.weaken (by repeat' first | exact .nil | refine .cons (by first | exact .refl _ | exact .any _) ?_) rfl⟩
 . have hil:i=(dig z.natAbs).length:=by omega
   rw [hil,List.take_length,hn] at hu
   have hub:u<=10376293541461622784:=by
    have:i<=4:=by omega
    rcases Nat.lt_or_ge i 4 with h7 | h7
    . rcases ydz (show i<=3 by omega) with ⟨h9,e⟩ | ⟨h9,e⟩ | ⟨h9,e⟩ | ⟨h9,e⟩<;>rw [e] at hu1<;>omega
    . have h8:=w4d (dig z.natAbs) 3;rw [zvp (by omega),hn] at h8;have h9:=xxq (hd.take 3)
      have h10:((dig z.natAbs).take 3).length=3:=by simp;omega
      rw [h10] at h9
      have:=h4 (by omega)
      have h11:(1048576:Int) ^ 3=1152921504606846976:=by decide
      rw [h11] at h9 h8;omega
   refine rg ?_;refine z4u (fun h5=>?_) (fun h5=>?_)
   . refine rg1 @h5 ?_;refine z08 (fun h6=>?_) (fun h6=>?_)
     . obtain ⟨e1,e2⟩:=good (by unfold inI;omega);refine rg2 @yij @ymf ?_;refine ⟨_,rfl,?_⟩;rw [e1,e2,show 0-u+18446744073709551616-18446744073709551616=z by omega];exact .one (.refl _)
     . obtain ⟨e1,e2⟩:=bad (by unfold inI;omega);refine rg ?_;refine z4u (fun h7=>absurd h7 (by omega)) (fun h7=>?_);refine rg1 @h7 ?_;exact ⟨_,rfl,by rw [e1,e2];exact .one (.refl _)⟩
   . refine rg1 @h5 ?_;refine z4u (fun h7=>?_) (fun h7=>absurd (by omega) h7);refine rg1 @h7 ?_;refine z08 (fun h6=>?_) (fun h6=>?_)
     . obtain ⟨e1,e2⟩:=good (by unfold inI;omega);refine rg ?_;refine ⟨_,rfl,?_⟩;rw [e1,e2,show u=z by omega];exact .one (.refl _)
     . obtain ⟨e1,e2⟩:=bad (by unfold inI;omega);refine rg ?_;exact ⟨_,rfl,by rw [e1,e2];exact .one (.refl _)⟩
theorem cOne (z:Int) (hz:okZ z):yn2 prog 72 [.agg [.raw (.int .i64 (sg z)),.ints .i64 (dig z.natAbs)]] (.one (.raw (.bool (decide (z=1))))):=by
 obtain ⟨r,hr⟩:∃ r,r=decide (z=1):=⟨_,rfl⟩;rw [<-hr];have hc:=cInt z hz;by_cases hi:inI z
 . rw [if_pos hi,decide_eq_true hi] at hc;refine yn2.run [] Go.Proofs.Tryz.func72 rfl rfl ?_;simp only [Go.Proofs.Tryz.f72];refine rgR ?_;refine v1h hc ?_;refine rg ?_;exact ⟨_,rfl,by rw [hr];exact .one (.refl _)⟩
 . rw [if_neg hi,decide_eq_false hi] at hc;refine yn2.run [] Go.Proofs.Tryz.func72 rfl rfl ?_;simp only [Go.Proofs.Tryz.f72];refine rgR ?_;refine v1h hc ?_;refine rg ?_;exact ⟨_,rfl,by rw [hr,decide_eq_false (fun e=>hi (by unfold inI;omega))];exact .one (.refl _)⟩
end Go.Slot.T
namespace Go.Slot
open Go Go.RowKit
theorem yqs (z:Int):sg z*num (dig z.natAbs)=z:=by
 rw [zeb]
 rcases wzq z with ⟨h,e⟩ | ⟨h,e⟩ | ⟨h,e⟩<;>rw [e]<;>omega
def xm9 (s:Int) (L:List Int) (t:Int) (M:List Int):Prop:=xhn s L/\xhn t M/\t=1/\Int.gcd (s*num L) (t*num M)=1
instance (s:Int) (L:List Int) (t:Int) (M:List Int):Decidable (xm9 s L t M):=inferInstanceAs (Decidable (_/\_))
theorem v0e (s:Int) (L:List Int) (t:Int) (M:List Int):xm9 s L t M↔∃ r:Rat,s=sg r.num/\L=dig r.num.natAbs/\t=1/\M=dig r.den:=by
 constructor
 . rintro ⟨h1,h2,h3,h4⟩;obtain ⟨x,rfl,rfl⟩:=(wa6 _ _).1 h1;obtain ⟨y,h5,rfl⟩:=(wa6 _ _).1 h2;rw [h5,yqs,yqs] at h4
   have hy:0<y:=by rcases wzq y with ⟨h,e⟩ | ⟨h,e⟩ | ⟨h,e⟩<;>omega
   refine ⟨⟨x,y.natAbs,by omega,h4⟩,rfl,rfl,h3,rfl⟩
 . rintro ⟨r,rfl,rfl,rfl,rfl⟩;have hd:0<r.den:=Nat.pos_of_ne_zero r.den_nz;have hs:(1:Int)=sg (r.den:Int):=(zgv (by omega)).symm
   have h2:xhn 1 (dig r.den):=by
    have:=xpw (r.den:Int)
    rw [<-hs] at this;exact this
   refine ⟨xpw _,h2,rfl,?_⟩;rw [yqs,yn8,Int.one_mul];exact r.reduced
end Go.Slot
namespace Go.Slot.T
open Go Go.RowKit Go.Slot
open Go.Proofs.Tryz (prog)
set_option maxRecDepth 10000
set_option maxHeartbeats 4000000
theorem yc8 (s:Int) (L:List Int) (t:Int) (M:List Int) (hL:L.length<=268435456) (hM:M.length<=268435456) :
 yn2 prog 44 [.agg [.raw (.int .i64 s),.ints .i64 L,.raw (.int .i64 t),.ints .i64 M]] (.one (.raw (.bool (decide (xm9 s L t M))))):=by
 obtain ⟨r,hr⟩:∃ r,r=decide (xm9 s L t M):=⟨_,rfl⟩;rw [<-hr]
 have bad:¬xm9 s L t M->r=false:=fun h=>by rw [hr,decide_eq_false h]
 by_cases h1:xhn s L
 . obtain ⟨x,rfl,rfl⟩:=(wa6 _ _).1 h1;by_cases h2:xhn t M
   . obtain ⟨y,rfl,rfl⟩:=(wa6 _ _).1 h2;refine yn2.run [] Go.Proofs.Tryz.func44 rfl rfl ?_;simp only [Go.Proofs.Tryz.f44];refine rgR ?_;refine v1h (zcq x hL) ?_;refine rg ?_;refine v1h (zcq y hM) ?_;refine rg ?_;refine z08 (fun h3=>?_) (fun h3=>?_)
     . have e:=bad (fun h=>h3 h.2.2.1);subst e;refine rg ?_;exact ⟨_,rfl,.one (.refl _)⟩
     . have h3:sg y=1:=by omega
       have hgl:(dig (Int.gcd x y:Int).natAbs).length<=268435456:=by
        have:(Int.gcd x y:Int).natAbs<=y.natAbs:=by
         have hy:0<y.natAbs:=by rcases wzq y with ⟨h,e⟩ | ⟨h,e⟩ | ⟨h,e⟩<;>omega
         exact Nat.le_of_dvd hy (Nat.gcd_dvd_right _ _)
        exact Nat.le_trans (wxv this) hM
       have e:r=decide ((Int.gcd x y:Int)=1):=by
        rw [hr];apply decide_eq_decide.2;unfold xm9;rw [yqs,yqs];constructor
        . exact fun h=>by have:=h.2.2.2;omega
        . exact fun h=>⟨h1,h2,h3,by omega⟩
       subst e;refine rg ?_;refine v1h (xuv x y hL hM) ?_;refine rg ?_;refine v1h (cOne _ hgl) ?_;refine rg ?_;exact ⟨_,rfl,.one (.refl _)⟩
   . have e:=bad (fun h=>h2 h.2.1);subst e;refine yn2.run [] Go.Proofs.Tryz.func44 rfl rfl ?_;simp only [Go.Proofs.Tryz.f44];refine rgR ?_;refine v1h (zcq x hL) ?_;refine rg ?_;refine v1h (yr5 t M hM h2) ?_;refine rg ?_;exact ⟨_,rfl,.one (.refl _)⟩
 . have e:=bad (fun h=>h1 h.1);subst e;refine yn2.run [] Go.Proofs.Tryz.func44 rfl rfl ?_;simp only [Go.Proofs.Tryz.f44];refine rgR ?_;refine v1h (yr5 s L hL h1) ?_;refine rg ?_;exact ⟨_,rfl,.one (.refl _)⟩
end Go.Slot.T
namespace Go.Slot
open Go Go.RowKit
variable {g:Rat->Rat->Rat}
structure Fc where
 s:Int
 L:List Int
 t:Int
 M:List Int
namespace Fc
def C (f:Fc):List Cell:=[.raw (.int .i64 f.s),.ints .i64 f.L,.raw (.int .i64 f.t),.ints .i64 f.M]
theorem C_eq {f:Fc}:f.C=[.raw (.int .i64 f.s),.ints .i64 f.L,.raw (.int .i64 f.t),.ints .i64 f.M]:=_root_.id rfl
def ok (f:Fc):Prop:=xm9 f.s f.L f.t f.M
instance (f:Fc):Decidable f.ok:=inferInstanceAs (Decidable (xm9 _ _ _ _))
def of (r:Rat):Fc:=⟨sg r.num,dig r.num.natAbs,1,dig r.den⟩
def zero:Fc:=⟨0,[],0,[]⟩
def val (f:Fc):Rat:=mkRat (f.s*num f.L) (num f.M).toNat
def sz (f:Fc):Nat:=max f.L.length f.M.length
theorem zav (r:Rat):(of r).ok:=(v0e _ _ _ _).2 ⟨r,rfl,rfl,rfl,rfl⟩
theorem w2h (r:Rat):(of r).val=r:=by
 show mkRat (sg r.num*num (dig r.num.natAbs)) (num (dig r.den)).toNat=r;rw [yqs,yn8,Int.toNat_natCast,Rat.mkRat_self]
theorem ylb {f:Fc} (h:f.ok):f=of f.val:=by
 obtain ⟨r,h1,h2,h3,h4⟩:=(v0e _ _ _ _).1 h
 have:f=of r:=by cases f;simp only [of] at *;subst h1 h2 h3 h4;rfl
 rw [this,w2h]
theorem xst {f:Fc} (h:f.ok):∃ r,f=of r:=⟨_,ylb h⟩
theorem y2b {x y:Rat} (h:of x=of y):x=y:=by rw [<-w2h x,h,w2h]
theorem vc1:¬zero.ok:=fun h=>by have:=h.2.2.1;simp [zero] at this
def op2 (g:Rat->Rat->Rat) (a b:Fc):Fc:=if a.ok/\b.ok then of (g a.val b.val) else zero
def op1 (g:Rat->Rat) (a:Fc):Fc:=if a.ok then of (g a.val) else zero
def er (p:Prop) [Decidable p]:Int:=if p then 0 else 1
def add:=op2 (· + ·)
def sub:=op2 (· - ·)
def mul:=op2 (· * ·)
def neg:=op1 (fun x=>-x)
def ordQ (x y:Rat):Int:=if x<y then -1 else if y<x then 1 else 0
def cmp (a b:Fc):Int:=if a.ok/\b.ok then ordQ a.val b.val else 0
def sign (a:Fc):Int:=if a.ok then sg a.val.num else 0
theorem ypk (g:Rat->Rat->Rat) (x y:Rat):op2 g (of x) (of y)=of (g x y):=by unfold op2;rw [if_pos ⟨zav x,zav y⟩,w2h,w2h]
theorem zmk {a b:Fc} (h:¬(a.ok/\b.ok)):op2 g a b=zero:=if_neg h
theorem vfs (x y:Rat):add (of x) (of y)=of (x+y):=ypk _ x y
theorem v62 (x y:Rat):sub (of x) (of y)=of (x-y):=ypk _ x y
theorem ymd (x y:Rat):mul (of x) (of y)=of (x*y):=ypk _ x y
theorem x6d (x:Rat):neg (of x)=of (-x):=by unfold neg op1;rw [if_pos (zav x),w2h]
theorem ysh (x y:Rat):cmp (of x) (of y)=ordQ x y:=by unfold cmp;rw [if_pos ⟨zav x,zav y⟩,w2h,w2h]
theorem woz (x:Rat):sign (of x)=sg x.num:=by unfold sign;rw [if_pos (zav x),w2h]
theorem v2c {p:Prop} [Decidable p] (h:p):er p=0:=if_pos h
theorem zab {p:Prop} [Decidable p] (h:¬p):er p=1:=if_neg h
theorem ygb (x y:Rat):(x<y/\ordQ x y = -1)\/(x=y/\ordQ x y=0)\/(y<x/\ordQ x y=1):=by
 unfold ordQ;by_cases h:x<y
 . exact .inl ⟨h,if_pos h⟩
 . by_cases h1:y<x
   . exact .inr (.inr ⟨h1,by rw [if_neg h,if_pos h1]⟩)
   . exact .inr (.inl ⟨Rat.le_antisymm (Rat.not_lt.1 h1) (Rat.not_lt.1 h),by rw [if_neg h,if_neg h1]⟩)
theorem vi3 (x y:Rat):ord (x.num*y.den) (y.num*x.den)=ordQ x y:=by
 unfold ord ordQ;simp only [Rat.lt_iff]
theorem yav (a b:Fc):-1<=cmp a b/\cmp a b<=1:=by
 unfold cmp ordQ;repeat' split
 all_goals omega
theorem xey:zero.sz=0:=rfl
theorem xx5 (x:Rat):(of x).sz=max (dig x.num.natAbs).length (dig x.den).length:=rfl
theorem x60 (n:Int) (d:Nat) (hd:d≠0):(of (mkRat n d)).sz<=max (dig n.natAbs).length (dig d).length:=by
 rw [xx5,Rat.num_mkRat,Rat.den_mkRat,if_neg hd,if_neg hd]
 have h1:(n / (d.gcd n.natAbs:Nat)).natAbs<=n.natAbs:=by
  rw [Int.natAbs_ediv_of_dvd (by rw [<-Int.dvd_natAbs,Int.ofNat_dvd];exact Nat.gcd_dvd_right _ _),Int.natAbs_natCast];exact Nat.div_le_self _ _
 have h2:d / d.gcd n.natAbs<=d:=Nat.div_le_self _ _
 have:=wxv h1
 have:=wxv h2
 omega
theorem va3 (x y:Rat):(of (x+y)).sz<=(of x).sz+(of y).sz+1:=by
 rw [Rat.add_def'];refine Nat.le_trans (x60 _ _ (Nat.mul_ne_zero x.den_nz y.den_nz)) ?_;have h1:=zzg (x.num*y.den) (y.num*x.den);have h2:=wm8 x.num y.den;have h3:=wm8 y.num x.den;have h4:=ysr x.den y.den;rw [Int.natAbs_natCast] at h2 h3;rw [xx5,xx5];omega
theorem wr7 (x:Rat):(of (-x)).sz=(of x).sz:=by
 rw [xx5,xx5,Rat.neg_num,Rat.neg_den,Int.natAbs_neg]
theorem zxl (x y:Rat):(of (x*y)).sz<=(of x).sz+(of y).sz:=by
 rw [Rat.mul_def'];refine Nat.le_trans (x60 _ _ (Nat.mul_ne_zero x.den_nz y.den_nz)) ?_;have h2:=wm8 x.num y.num;have h4:=ysr x.den y.den;rw [xx5,xx5];omega
theorem ypa {n:Nat} (h:∀ x y,(of (g x y)).sz<=(of x).sz+(of y).sz+n) (a b:Fc):(op2 g a b).sz<=a.sz+b.sz+n:=by
 unfold op2
 split
 . rename_i hab;rw [ylb hab.1,ylb hab.2,w2h,w2h];exact h _ _
 . rw [xey];omega
theorem xgg (a b:Fc):(mul a b).sz<=a.sz+b.sz:=ypa (n:=0) zxl a b
end Fc
attribute [go_sem] Fc.C_eq
end Go.Slot
namespace Go.Slot.T
open Go Go.RowKit Go.Slot
open Go.Proofs.Tryz (prog)
set_option maxRecDepth 10000
set_option maxHeartbeats 4000000
variable {r:Rat}
theorem wct {n:Int} (_h:0<=n):iand .u64 n 1048575=n % 1048576:=by
 unfold iand
 have h1:(BitVec.ofInt IntKind.u64.bits n &&&BitVec.ofInt IntKind.u64.bits 1048575).toNat=(n % 1048576).toNat:=by
  show (BitVec.ofInt 64 n &&&BitVec.ofInt 64 1048575).toNat=_;rw [BitVec.toNat_and,BitVec.toNat_ofInt,BitVec.toNat_ofInt]
  have:((1048575:Int) % ((2 ^ 64:Nat):Int)).toNat=2 ^ 20-1:=by decide
  rw [this,Nat.and_two_pow_sub_one_eq_mod];omega
 rw [h1,wu64 (by omega)];omega
theorem v1e (n:Int):ishr .u64 n 20=n / 1048576:=by
 unfold ishr
 have:(2:Int) ^ (min (20:Int).toNat IntKind.u64.bits)=1048576:=by decide
 rw [this,Int.fdiv_eq_ediv_of_nonneg _ (by decide)]
theorem vun {n:Nat} (h:n<=18446744073709551615):(dig n).length<=4:=vwv (Nat.lt_of_le_of_lt h (by decide))
theorem cOf (n:Int) (hn:inI n):yn2 prog 55 [.one (.raw (.int .i64 n))] (.agg [.raw (.int .i64 (sg n)),.ints .i64 (dig n.natAbs)]):=by
 unfold inI at hn;refine yn2.run [(4,[.join])] Go.Proofs.Tryz.func55 rfl rfl ?_;simp only [Go.Proofs.Tryz.f55];refine rgR ?_;refine zu4 [] (fun s:Int=>[(3,.one (.raw (.int .i64 s))),(4,.one (.raw (.int .u64 n.natAbs)))])
  (fun s=>(s=1/\0<=n)\/(s = -1/\n<0)) ?_ ?_
 . by_cases h0:n<0
   . refine rg1 @yij ?_;refine z08 (fun h=>?_) (fun h=>absurd h0 h);refine rg1 @yij ?_;refine ⟨-1,.inr ⟨rfl,h0⟩,?_⟩;rw [show 0-(n+18446744073709551616)+18446744073709551616=((n.natAbs:Nat):Int) by omega];exact StLe.weaken (by repeat' first | exact .nil | refine .cons (by first | exact .refl _ | exact .any _) ?_) rfl
   . refine rg ?_;refine z08 (fun h=>absurd h h0) (fun h=>?_);refine rg ?_;refine ⟨1,.inl ⟨rfl,by omega⟩,?_⟩;rw [show n=((n.natAbs:Nat):Int) by omega];exact StLe.weaken (by repeat' first | exact .nil | refine .cons (by first | exact .refl _ | exact .any _) ?_) rfl
 rintro s hs
 have hN:(n.natAbs:Int)<=9223372036854775808:=by omega
 generalize hNN:n.natAbs=N at *;refine rg ?_;refine vxs [3] (fun x:Nat×List Int×Int=>[(4,.one (.raw (.int .u64 x.2.2))),(5,.one (.tok 21 (.ints .i64 x.2.1)))])
  (fun x=>x.2.1.length=x.1/\x.1<=4/\digits x.2.1/\0<=x.2.2/\num x.2.1+1048576 ^ x.1*x.2.2=N) (fun x=>x.2.2.toNat) (0,[],N)
  ⟨rfl,Nat.zero_le _,digits.nil,by simp,by simp [num]⟩ ?_ ?_
 . refine StLe.trans (StLe.tokI 5 21 (.ints .i64 []) rfl rfl rfl) ?_;refine rg ?_;exact StLe.weaken (by repeat' first | exact .nil | refine .cons (by first | exact .refl _ | exact .any _) ?_) rfl
 rintro ⟨k,l,u⟩ ⟨hl,hk,hd,hu,he⟩;simp only at hl hk hd hu he;have hl0:=num_nonneg hd;have hp:=zou k
 have huN:u<=N:=by
  have:=Int.mul_le_mul_of_nonneg_right (show (1:Int)<=1048576 ^ k by omega) hu
  omega
 refine rg ?_;refine z08 (fun h=>?_) (fun h=>?_)
 . have hk3:k<=3:=by
    rcases Nat.lt_or_ge k 4 with h4 | h4
    . omega
    . have h1:=wqr h4;have h2:=Int.mul_le_mul_of_nonneg_left (show (1:Int)<=u by omega) (Int.le_of_lt hp)
      have h3:(1048576:Int) ^ 4=1208925819614629174706176:=by decide
      omega
   refine rg2 @wct @v1e ?_;refine ⟨(k+1,l++[u % 1048576],u / 1048576),⟨by simp [hl],by dsimp only;omega,hd.append (digits.cons (by omega) digits.nil),by dsimp only;omega,?_⟩,by dsimp only;omega,StLe.weaken (by repeat' first | exact .nil | refine .cons (by first | exact .refl _ | exact .any _) ?_) rfl⟩;dsimp only;rw [xtv,hl,Int.pow_succ];have h:=Int.emod_add_mul_ediv u 1048576;simp only [num];generalize (1048576:Int) ^ k=P at *;generalize u % 1048576=r at *;generalize u / 1048576=q at *
   grind
 . have hu0:u=0:=by omega
   rw [hu0,Int.mul_zero,Int.add_zero] at he;have e:=wai hd he;rw [Int.toNat_natCast,<-hNN] at e;have hdl:(dig N).length<=4:=vun (by omega);have hsg:=y7y s l (by omega);unfold bigC at hsg;rw [e,<-wb6,vam (by omega)] at hsg;unfold zC at hsg;rw [hNN] at hsg;refine rg ?_;refine v1h hsg ?_;refine rg ?_;exact ⟨_,rfl,.one (.refl _)⟩
theorem of_s:(Fc.of r).s=sg r.num:=_root_.id rfl
theorem of_L:(Fc.of r).L=dig r.num.natAbs:=_root_.id rfl
theorem of_t:(Fc.of r).t=1:=_root_.id rfl
theorem of_M:(Fc.of r).M=dig r.den:=_root_.id rfl
theorem v57:Fc.zero.s=0:=_root_.id rfl
theorem yir:Fc.zero.L=[]:=_root_.id rfl
theorem zu6:Fc.zero.t=0:=_root_.id rfl
theorem zz8:Fc.zero.M=[]:=_root_.id rfl
attribute [go_sem] of_s of_L of_t of_M v57 yir zu6 zz8
theorem w2p (r:Rat):sg (r.den:Int)=1:=zgv (by have:=Nat.pos_of_ne_zero r.den_nz;omega)
theorem wwm {d:Nat} (h:d≠0):sg (d:Int)=1:=zgv (by omega)
theorem szL {f:Fc} {n:Nat} (h:f.sz<=n):f.L.length<=n/\f.M.length<=n:=by unfold Fc.sz at h;omega
theorem szO {n:Nat} (h:(Fc.of r).sz<=n):(dig r.num.natAbs).length<=n/\(dig r.den).length<=n:=szL h
theorem wuf (f:Fc) (h:f.sz<=268435456):yn2 prog 44 [.agg f.C] (.one (.raw (.bool (decide f.ok)))):=
 yc8 f.s f.L f.t f.M (szL h).1 (szL h).2
theorem w4o (r:Rat) (h:(Fc.of r).sz<=268435456):yn2 prog 44 [.agg (Fc.of r).C] (.one (.raw (.bool true))):=by
 have:=wuf (Fc.of r) h
 rwa [decide_eq_true (Fc.zav r)] at this
theorem yx8 (f:Fc) (h:f.sz<=268435456) (hb:¬f.ok):yn2 prog 44 [.agg f.C] (.one (.raw (.bool false))):=by
 have:=wuf f h
 rwa [decide_eq_false hb] at this
theorem xxc:AV.Le (.agg [.raw (.int .i64 0),.zc,.raw (.int .i64 0),.zc]) (.agg Fc.zero.C):=.agg (.cons (.refl _) (.cons (.ysc _) (.cons (.refl _) (.cons (.ysc _) .nil))))
theorem xhe (x y:Int) (hx:okZ x) (hy:okZ y) :
 yn2 prog 69 [.agg [.raw (.int .i64 (sg x)),.ints .i64 (dig x.natAbs)],.agg [.raw (.int .i64 (sg y)),.ints .i64 (dig y.natAbs)]]
  (.agg [.raw (.int .i64 (sg (x*y))),.ints .i64 (dig (x*y).natAbs)]):=by
 refine yn2.run [] Go.Proofs.Tryz.func69 rfl rfl ?_;simp only [Go.Proofs.Tryz.f69];refine rgR ?_;refine v1h (zf2 x y hx hy) ?_;refine rg ?_;exact ⟨_,rfl,.one (.refl _)⟩
theorem wvq (x:Int) (d:Nat) (hx:okZ x) (hd:d≠0) (hl:(dig d).length<=268435456) :
 yn2 prog 69 [.agg [.raw (.int .i64 (sg x)),.ints .i64 (dig x.natAbs)],.agg [.raw (.int .i64 1),.ints .i64 (dig d)]]
  (.agg [.raw (.int .i64 (sg (x*d))),.ints .i64 (dig (x*d).natAbs)]):=by
 have:=xhe x (d:Int) hx hl
 rw [wwm hd] at this;exact this
theorem xdb (c d:Nat) (hc0:c≠0) (hd:d≠0) (hc:(dig c).length<=268435456) (hl:(dig d).length<=268435456) :
 yn2 prog 69 [.agg [.raw (.int .i64 1),.ints .i64 (dig c)],.agg [.raw (.int .i64 1),.ints .i64 (dig d)]]
  (.agg [.raw (.int .i64 1),.ints .i64 (dig (c*d))]):=by
 have:=wvq (c:Int) d hc hd hl
 rw [wwm hc0,show (c:Int)*d=((c*d:Nat):Int) from (Int.natCast_mul c d).symm,wwm (Nat.mul_ne_zero hc0 hd)] at this;exact this
theorem zr2 (z:Int) {d:Nat} (hd:d≠0):(mkRat z d).num=z / (Int.gcd z d:Int)/\((mkRat z d).den:Int)=d / (Int.gcd z d:Int)/\0<(Int.gcd z d:Int):=by
 have hg:Int.gcd z d=d.gcd z.natAbs:=by rw [Int.gcd_eq_natAbs_gcd_natAbs,Int.natAbs_natCast,Nat.gcd_comm]
 have hp:0<d.gcd z.natAbs:=Nat.gcd_pos_of_pos_left _ (Nat.pos_of_ne_zero hd);rw [Rat.num_mkRat,Rat.den_mkRat,if_neg hd,if_neg hd,hg];exact ⟨rfl,by rw [Int.natCast_ediv],by omega⟩
theorem xph (z:Int) (d:Nat) (hz:okZ z) (hd:d≠0) (hl:(dig d).length<=268435456) :
 yn2 prog 54 [.agg [.raw (.int .i64 (sg z)),.ints .i64 (dig z.natAbs)],.agg [.raw (.int .i64 1),.ints .i64 (dig d)]]
  (.tup [.agg (Fc.of (mkRat z d)).C,.one (.raw (.int .i64 0))]):=by
 obtain ⟨p1,p2,p3⟩:=zr2 z hd;have hden:=w2p (mkRat z d);rw [p2] at hden
 have hden2:(mkRat z d).den=((d:Int) / (Int.gcd z d:Int)).natAbs:=by omega
 have hgl:okZ (Int.gcd z d:Int):=by
  have:(Int.gcd z d:Int).natAbs<=d:=by
   have:Int.gcd z d ∣ d:=by have:=Int.gcd_dvd_natAbs_right z d;simpa using this
   exact Nat.le_of_dvd (Nat.pos_of_ne_zero hd) this
  exact Nat.le_trans (wxv this) hl
 have hr:=zcq (d:Int) hl;have hg:=xuv z d hz hl;have hd1:=vjt z (Int.gcd z d:Int) hz hgl p3;have hd2:=vjt d (Int.gcd z d:Int) hl hgl p3;rw [wwm hd] at hr hg hd2;rw [hden] at hd2;rw [show ((d:Nat):Int).natAbs=d from rfl] at hr hg hd2
 have hfin:(Fc.of (mkRat z d)).C=[.raw (.int .i64 (sg (z / (Int.gcd z d:Int)))),.ints .i64 (dig (z / (Int.gcd z d:Int)).natAbs),.raw (.int .i64 1),.ints .i64 (dig ((d:Int) / (Int.gcd z d:Int)).natAbs)]:=by
  rw [<-p1,<-hden2];rfl
 rw [hfin];generalize (Int.gcd z d:Int)=g at *;refine yn2.run [] Go.Proofs.Tryz.func54 rfl rfl ?_;simp only [Go.Proofs.Tryz.f54];refine rgR ?_;refine v1h (zcq z hz) ?_;refine rg ?_;refine v1h hr ?_;refine rg ?_;refine z08 (fun h=>absurd h (by decide)) (fun _=>?_);refine rg ?_;refine z08 (fun h=>absurd h (by decide)) (fun _=>?_);refine rg ?_;refine v1h hg ?_;refine rg ?_;refine v1h hd1 ?_;refine rg ?_;refine v1h hd2 ?_;refine rg ?_;exact ⟨_,rfl,.tup (.cons (.refl _) (.cons (.refl _) .nil))⟩
theorem wnb (a b:Fc) (ha:a.sz<=67108864) (hb:b.sz<=67108864) :
 yn2 prog 86 [.agg a.C,.agg b.C] (.tup [.agg (Fc.add a b).C,.one (.raw (.int .i64 (Fc.er (a.ok/\b.ok))))]):=by
 by_cases h1:a.ok
 . by_cases h2:b.ok
   . rw [Fc.v2c ⟨h1,h2⟩];obtain ⟨x,rfl⟩:=Fc.xst h1;obtain ⟨y,rfl⟩:=Fc.xst h2;have lx:=szO ha;have ly:=szO hb;have l1:=wm8 x.num y.den;have l2:=wm8 y.num x.den;have l3:=zzg (x.num*y.den) (y.num*x.den);have l4:=ysr x.den y.den;rw [Int.natAbs_natCast] at l1 l2;rw [Fc.vfs,Rat.add_def'];refine yn2.run [] Go.Proofs.Tryz.func86 rfl rfl ?_;simp only [Go.Proofs.Tryz.f86];refine rgR ?_;refine v1h (w4o x (by omega)) ?_;refine rg ?_;refine v1h (w4o y (by omega)) ?_;refine rg ?_;refine v1h (wvq x.num y.den (by unfold okZ;omega) y.den_nz (by omega)) ?_;refine rg ?_;refine v1h (wvq y.num x.den (by unfold okZ;omega) x.den_nz (by omega)) ?_;refine rg ?_;refine v1h (zm6 (x.num*y.den) (y.num*x.den) (by unfold okZ;omega) (by unfold okZ;omega)) ?_;refine rg ?_;refine indk (by kernel_rfl) ?_;refine rg ?_;refine v1h (xdb x.den y.den x.den_nz y.den_nz (by omega) (by omega)) ?_;refine rg ?_;refine v1h (xph (x.num*y.den+y.num*x.den) (x.den*y.den) (by unfold okZ;omega) (Nat.mul_ne_zero x.den_nz y.den_nz) (by omega)) ?_;refine rg ?_;refine indk (by kernel_rfl) ?_;refine rg ?_;exact ⟨_,rfl,.tup (.cons (.refl _) (.cons (.refl _) .nil))⟩
   . rw [Fc.zab (fun h=>h2 h.2),show Fc.add a b=Fc.zero from Fc.zmk (fun h=>h2 h.2)];obtain ⟨x,rfl⟩:=Fc.xst h1;refine yn2.run [] Go.Proofs.Tryz.func86 rfl rfl ?_;simp only [Go.Proofs.Tryz.f86];refine rgR ?_;refine v1h (w4o x (by omega)) ?_;refine rg ?_;refine v1h (yx8 b (by omega) h2) ?_;refine rg ?_;exact ⟨_,rfl,.tup (.cons xxc (.cons (.refl _) .nil))⟩
 . rw [Fc.zab (fun h=>h1 h.1),show Fc.add a b=Fc.zero from Fc.zmk (fun h=>h1 h.1)];refine yn2.run [] Go.Proofs.Tryz.func86 rfl rfl ?_;simp only [Go.Proofs.Tryz.f86];refine rgR ?_;refine v1h (yx8 a (by omega) h1) ?_;refine rg ?_;exact ⟨_,rfl,.tup (.cons xxc (.cons (.refl _) .nil))⟩
theorem zb4 (a b:Fc) (ha:a.sz<=67108864) (hb:b.sz<=67108864) :
 yn2 prog 139 [.agg a.C,.agg b.C] (.tup [.agg (Fc.sub a b).C,.one (.raw (.int .i64 (Fc.er (a.ok/\b.ok))))]):=by
 by_cases h1:a.ok
 . by_cases h2:b.ok
   . rw [Fc.v2c ⟨h1,h2⟩];obtain ⟨x,rfl⟩:=Fc.xst h1;obtain ⟨y,rfl⟩:=Fc.xst h2;have lx:=szO ha;have ly:=szO hb;have hA:=wnb (Fc.of x) (Fc.of (-y)) ha (by rw [Fc.wr7];exact hb);rw [Fc.v2c ⟨Fc.zav _,Fc.zav _⟩,Fc.vfs,<-Rat.sub_eq_add_neg] at hA;rw [Fc.v62];refine yn2.run [] Go.Proofs.Tryz.func139 rfl rfl ?_;simp only [Go.Proofs.Tryz.f139];refine rgR ?_;refine v1h (w4o x (by omega)) ?_;refine rg ?_;refine v1h (w4o y (by omega)) ?_;refine rg ?_;refine v1h (yvd y.num (by unfold okZ;omega)) ?_;refine rg ?_;refine v1h hA ?_;refine rg ?_;refine indk (by kernel_rfl) ?_;refine rg ?_;exact ⟨_,rfl,.tup (.cons (.refl _) (.cons (.refl _) .nil))⟩
   . rw [Fc.zab (fun h=>h2 h.2),show Fc.sub a b=Fc.zero from Fc.zmk (fun h=>h2 h.2)];obtain ⟨x,rfl⟩:=Fc.xst h1;refine yn2.run [] Go.Proofs.Tryz.func139 rfl rfl ?_;simp only [Go.Proofs.Tryz.f139];refine rgR ?_;refine v1h (w4o x (by omega)) ?_;refine rg ?_;refine v1h (yx8 b (by omega) h2) ?_;refine rg ?_;exact ⟨_,rfl,.tup (.cons xxc (.cons (.refl _) .nil))⟩
 . rw [Fc.zab (fun h=>h1 h.1),show Fc.sub a b=Fc.zero from Fc.zmk (fun h=>h1 h.1)];refine yn2.run [] Go.Proofs.Tryz.func139 rfl rfl ?_;simp only [Go.Proofs.Tryz.f139];refine rgR ?_;refine v1h (yx8 a (by omega) h1) ?_;refine rg ?_;exact ⟨_,rfl,.tup (.cons xxc (.cons (.refl _) .nil))⟩
theorem xxk (a b:Fc) (ha:a.sz<=67108864) (hb:b.sz<=67108864) :
 yn2 prog 85 [.agg a.C,.agg b.C] (.tup [.agg (Fc.mul a b).C,.one (.raw (.int .i64 (Fc.er (a.ok/\b.ok))))]):=by
 by_cases h1:a.ok
 . by_cases h2:b.ok
   . rw [Fc.v2c ⟨h1,h2⟩];obtain ⟨x,rfl⟩:=Fc.xst h1;obtain ⟨y,rfl⟩:=Fc.xst h2;have lx:=szO ha;have ly:=szO hb;have l1:=wm8 x.num y.num;have l4:=ysr x.den y.den;rw [Fc.ymd,Rat.mul_def'];refine yn2.run [] Go.Proofs.Tryz.func85 rfl rfl ?_;simp only [Go.Proofs.Tryz.f85];refine rgR ?_;refine v1h (w4o x (by omega)) ?_;refine rg ?_;refine v1h (w4o y (by omega)) ?_;refine rg ?_;refine v1h (xhe x.num y.num (by unfold okZ;omega) (by unfold okZ;omega)) ?_;refine rg ?_;refine v1h (xdb x.den y.den x.den_nz y.den_nz (by omega) (by omega)) ?_;refine rg ?_;refine v1h (xph (x.num*y.num) (x.den*y.den) (by unfold okZ;omega) (Nat.mul_ne_zero x.den_nz y.den_nz) (by omega)) ?_;refine rg ?_;refine indk (by kernel_rfl) ?_;refine rg ?_;exact ⟨_,rfl,.tup (.cons (.refl _) (.cons (.refl _) .nil))⟩
   . rw [Fc.zab (fun h=>h2 h.2),show Fc.mul a b=Fc.zero from Fc.zmk (fun h=>h2 h.2)];obtain ⟨x,rfl⟩:=Fc.xst h1;refine yn2.run [] Go.Proofs.Tryz.func85 rfl rfl ?_;simp only [Go.Proofs.Tryz.f85];refine rgR ?_;refine v1h (w4o x (by omega)) ?_;refine rg ?_;refine v1h (yx8 b (by omega) h2) ?_;refine rg ?_;exact ⟨_,rfl,.tup (.cons xxc (.cons (.refl _) .nil))⟩
 . rw [Fc.zab (fun h=>h1 h.1),show Fc.mul a b=Fc.zero from Fc.zmk (fun h=>h1 h.1)];refine yn2.run [] Go.Proofs.Tryz.func85 rfl rfl ?_;simp only [Go.Proofs.Tryz.f85];refine rgR ?_;refine v1h (yx8 a (by omega) h1) ?_;refine rg ?_;exact ⟨_,rfl,.tup (.cons xxc (.cons (.refl _) .nil))⟩
theorem zrw (a b:Fc) (ha:a.sz<=67108864) (hb:b.sz<=67108864) :
 yn2 prog 43 [.agg a.C,.agg b.C] (.one (.raw (.int .i64 (Fc.cmp a b)))):=by
 by_cases h1:a.ok
 . by_cases h2:b.ok
   . obtain ⟨x,rfl⟩:=Fc.xst h1;obtain ⟨y,rfl⟩:=Fc.xst h2;have lx:=szO ha;have ly:=szO hb;have l1:=wm8 x.num y.den;have l2:=wm8 y.num x.den;rw [Int.natAbs_natCast] at l1 l2;rw [Fc.ysh,<-Fc.vi3];refine yn2.run [] Go.Proofs.Tryz.func43 rfl rfl ?_;simp only [Go.Proofs.Tryz.f43];refine rgR ?_;refine v1h (w4o x (by omega)) ?_;refine rg ?_;refine v1h (w4o y (by omega)) ?_;refine rg ?_;refine v1h (wvq x.num y.den (by unfold okZ;omega) y.den_nz (by omega)) ?_;refine rg ?_;refine v1h (wvq y.num x.den (by unfold okZ;omega) x.den_nz (by omega)) ?_;refine rg ?_;refine v1h (x7n (x.num*y.den) (y.num*x.den) (by unfold okZ;omega) (by unfold okZ;omega)) ?_;refine rg ?_;refine indk (by kernel_rfl) ?_;refine rg ?_;exact ⟨_,rfl,.one (.refl _)⟩
   . rw [show Fc.cmp a b=0 from if_neg (fun h=>h2 h.2)];obtain ⟨x,rfl⟩:=Fc.xst h1;refine yn2.run [] Go.Proofs.Tryz.func43 rfl rfl ?_;simp only [Go.Proofs.Tryz.f43];refine rgR ?_;refine v1h (w4o x (by omega)) ?_;refine rg ?_;refine v1h (yx8 b (by omega) h2) ?_;refine rg ?_;exact ⟨_,rfl,.one (.refl _)⟩
 . rw [show Fc.cmp a b=0 from if_neg (fun h=>h1 h.1)];refine yn2.run [] Go.Proofs.Tryz.func43 rfl rfl ?_;simp only [Go.Proofs.Tryz.f43];refine rgR ?_;refine v1h (yx8 a (by omega) h1) ?_;refine rg ?_;exact ⟨_,rfl,.one (.refl _)⟩
theorem zkz (x:Int) (hx:okZ x):yn2 prog 104 [.agg [.raw (.int .i64 (sg x)),.ints .i64 (dig x.natAbs)]] (.agg [.raw (.int .i64 (sg x)),.ints .i64 (dig x.natAbs)]):=by
 have hx':okZ (-x):=by unfold okZ;rw [Int.natAbs_neg];exact hx
 have h2:=yvd (-x) hx';rw [Int.neg_neg] at h2;refine yn2.run [] Go.Proofs.Tryz.func104 rfl rfl ?_;simp only [Go.Proofs.Tryz.f104];refine rgR ?_;refine v1h (yvd x hx) ?_;refine rg ?_;refine v1h h2 ?_;refine rg ?_;exact ⟨_,rfl,.one (.refl _)⟩
theorem wt2 (d:Nat) (hd:d≠0) (hl:(dig d).length<=268435456):yn2 prog 104 [.agg [.raw (.int .i64 1),.ints .i64 (dig d)]] (.agg [.raw (.int .i64 1),.ints .i64 (dig d)]):=by
 have:=zkz (d:Int) hl
 rw [wwm hd] at this;exact this
theorem x1w:RLe (.agg [.raw (.int .i64 0),.zc,.raw (.int .i64 0),.zc]) (.agg Fc.zero.C):=.one xxc
theorem wzp (a:Fc) (ha:a.sz<=67108864):yn2 prog 62 [.agg a.C] (.agg (Fc.neg a).C):=by
 by_cases h1:a.ok
 . obtain ⟨x,rfl⟩:=Fc.xst h1;have lx:=szO ha;rw [Fc.x6d];refine yn2.run [] Go.Proofs.Tryz.func62 rfl rfl ?_;simp only [Go.Proofs.Tryz.f62];refine rgR ?_;refine v1h (w4o x (by omega)) ?_;refine rg ?_;refine v1h (yvd x.num (by unfold okZ;omega)) ?_;refine rg ?_;refine v1h (wt2 x.den x.den_nz (by omega)) ?_;refine rg ?_;refine indk (by kernel_rfl) ?_;refine rg ?_;exact ⟨_,rfl,.one (.refl _)⟩
 . rw [show Fc.neg a=Fc.zero from if_neg h1];refine yn2.run [] Go.Proofs.Tryz.func62 rfl rfl ?_;simp only [Go.Proofs.Tryz.f62];refine rgR ?_;refine v1h (yx8 a (by omega) h1) ?_;refine rg ?_;exact ⟨_,rfl,x1w⟩
theorem zdn (a:Fc) (ha:a.sz<=67108864):yn2 prog 231 [.agg a.C] (.one (.raw (.int .i64 (Fc.sign a)))):=by
 by_cases h1:a.ok
 . obtain ⟨x,rfl⟩:=Fc.xst h1;rw [Fc.woz];refine yn2.run [] Go.Proofs.Tryz.func231 rfl rfl ?_;simp only [Go.Proofs.Tryz.f231];refine rgR ?_;refine v1h (w4o x (by omega)) ?_;refine rg ?_;exact ⟨_,rfl,.one (.refl _)⟩
 . rw [show Fc.sign a=0 from if_neg h1];refine yn2.run [] Go.Proofs.Tryz.func231 rfl rfl ?_;simp only [Go.Proofs.Tryz.f231];refine rgR ?_;refine v1h (yx8 a (by omega) h1) ?_;refine rg ?_;exact ⟨_,rfl,.one (.refl _)⟩
instance:DecidableEq Fc:=fun a b=>decidable_of_iff (a.s=b.s/\a.L=b.L/\a.t=b.t/\a.M=b.M) ⟨fun h=>by cases a;cases b;simp at h;simp [h],fun h=>by rw [h];exact ⟨rfl,rfl,rfl,rfl⟩⟩
theorem yf9 (a b:Fc) (ha:a.sz<=67108864) (hb:b.sz<=67108864):yn2 prog 53 [.agg a.C,.agg b.C] (.one (.raw (.bool (decide (a=b))))):=by
 have la:=szL ha;have lb:=szL hb;obtain ⟨r,hr⟩:∃ r,r=decide (a=b):=⟨_,rfl⟩;rw [<-hr];by_cases h:a.s=b.s/\a.L=b.L
 . have h1:=yfl a.s a.L b.s b.L (by omega) (by omega);rw [decide_eq_true h] at h1;have h2:=yfl a.t a.M b.t b.M (by omega) (by omega)
   have e:decide (a.t=b.t/\a.M=b.M)=r:=by
    rw [hr];apply decide_eq_decide.2;constructor
    . intro h';cases a;cases b;simp at h h';simp [h,h']
    . intro h';rw [h'];exact ⟨rfl,rfl⟩
   rw [e] at h2;refine yn2.run [] Go.Proofs.Tryz.func53 rfl rfl ?_;simp only [Go.Proofs.Tryz.f53];refine rgR ?_;refine v1h h1 ?_;refine rg ?_;refine v1h h2 ?_;refine rg ?_;exact ⟨_,rfl,.one (.refl _)⟩
 . have h1:=yfl a.s a.L b.s b.L (by omega) (by omega);rw [decide_eq_false h] at h1
   have e:r=false:=by rw [hr,decide_eq_false (fun e=>h (by rw [e];exact ⟨rfl,rfl⟩))]
   subst e;refine yn2.run [] Go.Proofs.Tryz.func53 rfl rfl ?_;simp only [Go.Proofs.Tryz.f53];refine rgR ?_;refine v1h h1 ?_;refine rg ?_;exact ⟨_,rfl,.one (.refl _)⟩
theorem x4e (n:Int) (hn:inI n):yn2 prog 37 [.one (.raw (.int .i64 n))] (.agg (Fc.of (n:Rat)).C):=by
 have h1:=cOf 1 (by decide);rw [show sg 1=1 from rfl] at h1;refine yn2.run [] Go.Proofs.Tryz.func37 rfl rfl ?_;simp only [Go.Proofs.Tryz.f37];refine rgR ?_;refine v1h (cOf n hn) ?_;refine rg ?_;refine v1h h1 ?_;refine rg ?_;exact ⟨_,rfl,.one (.refl _)⟩
end Go.Slot.T
namespace Go.Hp.T
open Go Go.RowKit Go.Slot Go.Hp Go.Slot.T
open Go.Proofs.Tryz (prog)
set_option maxRecDepth 10000
set_option maxHeartbeats 4000000
variable {Γ:List (Nat×List Cell)}
abbrev zC (z:Int):List Cell:=[.raw (.int .i64 (sg z)),.ints .i64 (dig z.natAbs)]
theorem y67 (z:Int) (d:Nat) (hz:okZ z) (hd:d≠0) (hl:(dig d).length<=268435456):CallsD Γ prog 54 [.agg (zC z),.agg (zC d)] (.tup [.agg (Fc.of (Rat.divInt z d)).C,.one (cI 0)]):=by
 have:=toD (Γ:=Γ) (xph z d hz hd hl)
 rw [Rat.divInt_ofNat];unfold zC;rw [wwm hd];exact this
theorem wfo (z:Int) (d:Nat) (hz:okZ z) (hd:d≠0) (hl:(dig d).length<=268435456):CallsD Γ prog 54 [.agg (zC z),.agg (zC (-(d:Int)))] (.tup [.agg (Fc.of (Rat.divInt z (-(d:Int)))).C,.one (cI 0)]):=by
 have hdd:okZ (-(d:Int)):=by unfold okZ;rw [show (-(d:Int)).natAbs=d by omega];exact hl
 have hzz:okZ (-z):=by unfold okZ at hz ⊢;rw [Int.natAbs_neg];exact hz
 have hdz:okZ (d:Int):=hl;have hs:sg (-(d:Int)) = -1:=xxz (by omega);have hgp:0<(Int.gcd (-z) d:Int):=(zr2 (-z) hd).2.2;obtain ⟨p1,p2,p3⟩:=zr2 (-z) hd;have hden:=w2p (mkRat (-z) d);rw [p2] at hden
 have hgl:okZ (Int.gcd (-z) d:Int):=by
  have:(Int.gcd (-z) d:Int).natAbs<=d:=by
   have:Int.gcd (-z) d ∣ d:=by have:=Int.gcd_dvd_natAbs_right (-z) d;simpa using this
   exact Nat.le_of_dvd (Nat.pos_of_ne_zero hd) this
  exact Nat.le_trans (wxv this) hl
 have hn1:=yvd z hz;have hn2:=yvd (-(d:Int)) hdd;rw [Int.neg_neg,hs,wwm hd] at hn2;have hr:=zcq (-(d:Int)) hdd;rw [hs] at hr;have hg:=xuv (-z) d hzz hdz;have hd1:=vjt (-z) (Int.gcd (-z) d:Int) hzz hgl hgp;have hd2:=vjt d (Int.gcd (-z) d:Int) hdz hgl hgp;rw [wwm hd] at hg hd2;rw [hden] at hd2
 have hden2:(mkRat (-z) d).den=((d:Int) / (Int.gcd (-z) d:Int)).natAbs:=by omega
 have hfin:(Fc.of (Rat.divInt z (-(d:Int)))).C=[.raw (.int .i64 (sg (-z / (Int.gcd (-z) d:Int)))),.ints .i64 (dig (-z / (Int.gcd (-z) d:Int)).natAbs),.raw (.int .i64 1),.ints .i64 (dig ((d:Int) / (Int.gcd (-z) d:Int)).natAbs)]:=by
  rw [Rat.divInt_neg',Rat.divInt_ofNat,<-p1,<-hden2];rfl
 rw [hfin];generalize (Int.gcd (-z) d:Int)=g at *;unfold zC;rw [hs];refine CallsD.run [] Go.Proofs.Tryz.func54 rfl rfl rfl ?_;simp only [Go.Proofs.Tryz.f54];refine hgR ?_
 repeat' ((first | refine hfk ?_ ?_<;>intros | refine hik ?_ | with_reducible first | refine v6l (toD (zcq z hz)) ?_ | refine vgi (toD (zcq z hz)) ?_ | refine v6l (toD hr) ?_ | refine vgi (toD hr) ?_ | refine v6l (toD hn1) ?_ | refine vgi (toD hn1) ?_ | refine v6l (toD hn2) ?_ | refine vgi (toD hn2) ?_ | refine v6l (toD hg) ?_ | refine vgi (toD hg) ?_ | refine v6l (toD hd1) ?_ | refine vgi (toD hd1) ?_ | refine v6l (toD hd2) ?_ | refine vgi (toD hd2) ?_)<;>refine hgS ?_)
 exact RLe.ofEq rfl
theorem yy9 (z q:Int) (hz:okZ z) (hq:q≠0) (hl:okZ q):CallsD Γ prog 54 [.agg (zC z),.agg (zC q)] (.tup [.agg (Fc.of (Rat.divInt z q)).C,.one (cI 0)]):=by
 unfold okZ at hl
 rcases Int.lt_or_gt_of_ne hq with h | h
 . have e:q = -((q.natAbs:Nat):Int):=by omega
   have:=wfo (Γ:=Γ) z q.natAbs hz (by omega) hl
   rw [<-e] at this;exact this
 . have e:((q.natAbs:Nat):Int)=q:=by omega
   have:=y67 (Γ:=Γ) z q.natAbs hz (by omega) hl
   rw [e] at this;exact this
theorem zl0 (p q:Int) (hp:inI p) (hq:inI q) (hq0:q≠0):CallsD Γ prog 27 [.one (cI p),.one (cI q)] (.tup [.agg (Fc.of (Rat.divInt p q)).C,.one (cI 0)]):=by
 have okI:∀ n:Int,inI n->okZ n:=fun n hn=>by
  unfold okZ
  have:=vun (n:=n.natAbs) (by unfold inI at hn;omega)
  omega
 refine CallsD.run [] Go.Proofs.Tryz.func27 rfl rfl rfl ?_;simp only [Go.Proofs.Tryz.f27];refine hgR ?_
 repeat' ((first | refine hfk ?_ ?_<;>intros | refine hik ?_ | with_reducible first | refine v6l (toD (cOf p hp)) ?_ | refine vgi (toD (cOf p hp)) ?_ | refine v6l (toD (cOf q hq)) ?_ | refine vgi (toD (cOf q hq)) ?_ | refine v6l (yy9 p q (okI p hp) hq0 (okI q hq)) ?_ | refine vgi (yy9 p q (okI p hp) hq0 (okI q hq)) ?_)<;>refine hgS ?_)
 exact RLe.ofEq rfl
theorem zgz (x y:Rat):x / y=Rat.divInt (x.num*y.den) (x.den*y.num):=by
 rw [Rat.div_def,Rat.inv_def]
 conv=>lhs;rw [<-Rat.num_divInt_den x]
 rw [Rat.divInt_mul_divInt]
abbrev fQ (x:Rat):List Cell:=[.raw (.int .i64 (sg x.num)),.ints .i64 (dig x.num.natAbs),.raw (.int .i64 1),.ints .i64 (dig x.den)]
abbrev qs (x:Rat):Nat:=(Fc.of x).sz
theorem xib (x:Rat) (h:qs x<=268435456):CallsD Γ prog 44 [.agg (fQ x)] (.one (cB true)):=toD (w4o x h)
theorem qMul (x y:Rat) (hx:qs x<=67108864) (hy:qs y<=67108864):CallsD Γ prog 85 [.agg (fQ x),.agg (fQ y)] (.tup [.agg (fQ (x*y)),.one (cI 0)]):=by
 have:=toD (Γ:=Γ) (xxk (Fc.of x) (Fc.of y) hx hy)
 rw [Fc.ymd,Fc.v2c ⟨Fc.zav x,Fc.zav y⟩] at this;exact this
theorem qInt (n:Int) (hn:inI n):CallsD Γ prog 37 [.one (cI n)] (.agg (fQ (n:Rat))):=toD (x4e n hn)
theorem qOf (p q:Int) (hp:inI p) (hq:inI q) (hq0:q≠0):CallsD Γ prog 27 [.one (cI p),.one (cI q)] (.tup [.agg (fQ (Rat.divInt p q)),.one (cI 0)]):=zl0 p q hp hq hq0
theorem qDiv (x y:Rat) (hy:y≠0) (hx:qs x<=67108864) (hyl:qs y<=67108864):CallsD Γ prog 140 [.agg (fQ x),.agg (fQ y)] (.tup [.agg (fQ (x / y)),.one (cI 0)]):=by
 have lx:=szO hx;have ly:=szO hyl;have l1:=wm8 x.num y.den;have l4:=wm8 (x.den:Int) y.num
 have hyn:y.num≠0:=fun h=>hy (Rat.num_eq_zero.1 h)
 have hsy:sg y.num≠0:=by have:=wzq y.num;omega
 have hD:okZ (x.den:Int):=by unfold okZ;have:=lx.2;simp only [Int.natAbs_natCast];omega
 have hDy:okZ (y.den:Int):=by unfold okZ;have:=ly.2;simp only [Int.natAbs_natCast];omega
 have t1:=xhe x.num y.den (by unfold okZ;omega) hDy;have t2:=xhe (x.den:Int) y.num hD (by unfold okZ;omega);rw [wwm y.den_nz] at t1;rw [wwm x.den_nz] at t2;simp only [Int.natAbs_natCast] at t1 t2;have hden:((x.den:Int)*y.num)≠0:=Int.mul_ne_zero (by have:=x.den_nz;omega) hyn;have hn:=yy9 (Γ:=Γ) (x.num*y.den) (x.den*y.num) (by unfold okZ;simp only [Int.natAbs_natCast] at l1;omega) hden (by unfold okZ;simp only [Int.natAbs_natCast] at l4;omega);rw [zgz];refine CallsD.run [] Go.Proofs.Tryz.func140 rfl rfl rfl ?_;simp only [Go.Proofs.Tryz.f140];refine hgR ?_
 repeat' ((first | refine hfk ?_ ?_<;>intros | refine hik ?_ | with_reducible first | refine hcA ?_ | refine hcB ?_ | refine v6l (xib x (by omega)) ?_ | refine vgi (xib x (by omega)) ?_ | refine v6l (xib y (by omega)) ?_ | refine vgi (xib y (by omega)) ?_ | refine v6l (toD t1) ?_ | refine vgi (toD t1) ?_ | refine v6l (toD t2) ?_ | refine vgi (toD t2) ?_)<;>refine hgS ?_)
 exact RLe.ofEq rfl
end Go.Hp.T
namespace Go.Hp.T
open Go Go.RowKit Go.Slot Go.Hp
set_option maxRecDepth 10000
variable {q b e x:Int} {a f:Rat}
structure Un where
 d:Dm
 f:Rat
abbrev unC (u:Un):List Cell:=[cI u.d.a,cI u.d.b,cI u.d.c,cI u.d.d,cI u.d.e,cI u.d.f,.raw (.int .i64 (sg u.f.num)),.ints .i64 (dig u.f.num.natAbs),.raw (.int .i64 1),.ints .i64 (dig u.f.den)]
abbrev unZ:List Cell:=[cI 0,cI 0,cI 0,cI 0,cI 0,cI 0,cI 0,.zc,cI 0,.zc]
def unO:Option Un->List Cell
 | some u=>unC u
 | none=>unZ
def xkq (b e:Int):Dm:=⟨bif decide (b=0) then e else 0,bif decide (b=1) then e else 0,bif decide (b=2) then e else 0,bif decide (b=3) then e else 0,bif decide (b=4) then e else 0,bif decide (b=5) then e else 0⟩
def unOf (b e p q:Int):Un:=⟨xkq b e,Rat.divInt p q⟩
def symF (s:ByteArray):Option Un:=
 bif seq s ⟨#[103]⟩ then some (unOf 0 1 1 1) else
 bif seq s ⟨#[116]⟩ then some (unOf 0 1 1000000 1) else
 bif seq s ⟨#[109]⟩ then some (unOf 1 1 1 1) else
 bif seq s ⟨#[108]⟩ then some (unOf 1 3 1 1000) else
 bif seq s ⟨#[115]⟩ then some (unOf 2 1 1 1) else
 bif seq s ⟨#[104]⟩ then some (unOf 2 1 3600 1) else
 bif seq s ⟨#[100]⟩ then some (unOf 2 1 86400 1) else
 bif seq s ⟨#[74]⟩ then some (unOf 3 1 1 1) else
 bif seq s ⟨#[87,104]⟩ then some (unOf 3 1 3600 1) else
 bif seq s ⟨#[99,101,110,116]⟩ then some (unOf 4 1 1 1) else
 bif seq s ⟨#[101,117,114]⟩ then some (unOf 4 1 100 1) else
 bif seq s ⟨#[112,99]⟩ then some (unOf 5 1 1 1) else none
def wcs (s:ByteArray) (i:Nat):ByteArray:=s.extract i s.size
def zt0 (s:ByteArray) (i:Nat):ByteArray:=s.extract 0 i
def preF (c:Int):Option (Int×Int):=bif decide (c=107) then some (1000,1) else bif decide (c=77) then some (1000000,1) else bif decide (c=71) then some (1000000000,1) else bif decide (c=109) then some (1,1000) else none
def preO:Option (Int×Int)->Int×Int
 | some p=>p
 | none=>(0,0)
def wem (s:ByteArray):Bool:=seq s ⟨#[103]⟩||seq s ⟨#[109]⟩||seq s ⟨#[108]⟩||seq s ⟨#[115]⟩||seq s ⟨#[74]⟩||seq s ⟨#[87,104]⟩
theorem yxt (s:ByteArray) (i:Nat):(wcs s i).size=s.size-i:=by unfold wcs;simp
theorem v1j (s:ByteArray) (i:Nat) (h:i<=s.size):(zt0 s i).size=i:=by unfold zt0;simp;omega
structure It where
 w:ByteArray
 e:Int
instance:Inhabited It:=⟨⟨⟨#[]⟩,0⟩⟩
def It.C (x:It):List Cell:=[cS x.w,cI x.e]
abbrev itC (x:It):List Cell:=[cS x.w,cI x.e]
theorem It.C_eq (x:It):x.C=itC x:=rfl
attribute [go_sem] It.C_eq
def y6h (s:ByteArray):ByteArray:=wcs s (z1a yio s)
def x6x (s:ByteArray):Bool:=decide (¬(y6h s).size=0)&&decide (50<=x41 (y6h s) 0)&&decide (x41 (y6h s) 0<=57)
def vl9 (s:ByteArray):It:=⟨zt0 s (z1a yio s),bif x6x s then x41 (y6h s) 0-48 else 1⟩
def x9p (s:ByteArray):ByteArray:=bif x6x s then wcs (y6h s) 1 else y6h s
def zr8 (s:ByteArray):Bool:=decide (0<(z1a yio s:Int))
def ykz (s:ByteArray):Option Un:=
 bif (symF s).isSome then symF s else
 bif !(preF (x41 s 0)).isSome||!(symF (wcs s 1)).isSome||!wem (wcs s 1) then none else
 match preF (x41 s 0),symF (wcs s 1) with
 | some p,some u=>some ⟨u.d,u.f*Rat.divInt p.1 p.2⟩
 | _,_=>none
def iter {α:Type} (g:α->α):Nat->α->α
 | 0,a=>a
 | n+1,a=>iter g n (g a)
theorem xp7 {α:Type} (g:α->α):∀(n:Nat) (a:α),iter g (n+1) a=g (iter g n a)
 | 0,_=>rfl
 | n+1,a=>by rw [iter,xp7 g n (g a),iter]
def ymb (a f:Rat) (e:Int):Rat:=bif decide (0<e) then iter (· * f) e.natAbs a else iter (· / f) e.natAbs a
theorem yfd (x y:Rat):qs (x*y)<=qs x+qs y:=Fc.zxl x y
theorem z7q (x:Rat):qs x⁻¹<=qs x+1:=by
 by_cases h:x=0
 . subst h;rw [Rat.inv_zero];exact Nat.le_succ _
 . show (Fc.of x⁻¹).sz<=(Fc.of x).sz+1
   have hn:x.num≠0:=fun e=>h (Rat.num_eq_zero.1 e)
   rw [Fc.xx5,Fc.xx5,Rat.num_inv,Rat.den_inv,if_neg hn]
   have:(x.num.sign*(x.den:Int)).natAbs=x.den:=by
    rw [Int.natAbs_mul,Int.natAbs_sign];simp [hn]
   rw [this];omega
theorem x3y (x y:Rat):qs (x / y)<=qs x+qs y+1:=by
 rw [Rat.div_def]
 have:=yfd x y⁻¹
 have:=z7q y
 omega
def Dm.in03 (d:Dm):Prop:=(0<=d.a/\d.a<=3)/\(0<=d.b/\d.b<=3)/\(0<=d.c/\d.c<=3)/\(0<=d.d/\d.d<=3)/\(0<=d.e/\d.e<=3)/\(0<=d.f/\d.f<=3)
theorem x8s {p:Int} (hp:1<=p/\p<=1000000000) (hq:1<=q/\q<=1000000000):qs (Rat.divInt p q)<=4/\Rat.divInt p q≠0:=by
 obtain ⟨n,rfl⟩:∃ n:Nat,q=n:=⟨q.toNat,by omega⟩;rw [Rat.divInt_ofNat];refine ⟨?_,(Rat.mkRat_ne_zero (by omega)).2 (by omega)⟩
 have:=Fc.x60 p n (by omega)
 have h1:=Slot.T.vun (n:=p.natAbs) (by omega);have h2:=Slot.T.vun (n:=n) (by omega);show (Fc.of _).sz<=4;omega
theorem vgb (he:0<=e/\e<=3):(xkq b e).in03:=by
 have key:∀ p:Bool,0<=(bif p then e else 0)/\(bif p then e else 0)<=3:=fun p=>by cases p<;>simp<;>omega
 exact ⟨key _,key _,key _,key _,key _,key _⟩
theorem zd3 {p:Int} (he:0<=e/\e<=3) (hp:1<=p/\p<=1000000000) (hq:1<=q/\q<=1000000000):(unOf b e p q).d.in03/\qs (unOf b e p q).f<=4/\(unOf b e p q).f≠0:=⟨vgb he,x8s hp hq⟩
theorem xhk {s:ByteArray} {u:Un} (h:symF s=some u):u.d.in03/\qs u.f<=4/\u.f≠0:=by
 unfold symF at h
 repeat' first
  | (cases h;exact zd3 (by omega) (by omega) (by omega))
  | (cases hc:seq s _<;>rw [hc] at h<;>simp only [cond_true,cond_false] at h)
 cases h
theorem zz2 {c:Int} {p:Int×Int} (h:preF c=some p):(1<=p.1/\p.1<=1000000000)/\(1<=p.2/\p.2<=1000000000):=by
 unfold preF at h
 repeat' first
  | (cases h;done)
  | (cases h;simp;done)
  | (cases hc:decide (c=_)<;>rw [hc] at h<;>simp only [cond_true,cond_false] at h)
theorem xk3 {s:ByteArray} {u:Un} (h:ykz s=some u):u.d.in03/\qs u.f<=8/\u.f≠0:=by
 unfold ykz at h
 cases h1:(symF s).isSome with
 | true=>
  rw [h1,cond_true] at h;obtain ⟨a,b,c⟩:=xhk h;exact ⟨a,by omega,c⟩
 | false=>
  rw [h1,cond_false] at h
  cases h2:(!(preF (x41 s 0)).isSome||!(symF (wcs s 1)).isSome||!wem (wcs s 1)) with
  | true=>rw [h2,cond_true] at h;cases h
  | false=>
   rw [h2,cond_false] at h;split at h
   . rename_i p v hp hv
     cases h;obtain ⟨a,b,c⟩:=xhk hv;obtain ⟨d,e⟩:=zz2 hp;obtain ⟨f,g⟩:=x8s d e;refine ⟨a,?_,?_⟩
     . have:=yfd v.f (Rat.divInt p.1 p.2)
       show qs (v.f*_)<=8;omega
     . exact fun h0=>by
        rcases Rat.mul_eq_zero.1 h0 with h0 | h0
        . exact c h0
        . exact g h0
   . cases h
def pw (a f:Rat) (x:Int) (i:Nat):Rat:=bif decide (0<x) then iter (· * f) i a else iter (· / f) i a
theorem wuy (a f:Rat) (x:Int):pw a f x 0=a:=by unfold pw;cases decide (0<x)<;>rfl
theorem xg4 (h:0<x) (i:Nat):pw a f x (i+1)=pw a f x i*f:=by unfold pw;rw [decide_eq_true h];exact xp7 _ _ _
theorem zqi (h:¬0<x) (i:Nat):pw a f x (i+1)=pw a f x i / f:=by unfold pw;rw [decide_eq_false h];exact xp7 _ _ _
theorem zki (a f:Rat) (x:Int):∀ i,qs (pw a f x i)<=qs a+i*(qs f+1)
 | 0=>by rw [wuy];omega
 | i+1=>by
  have ih:=zki a f x i;rw [Nat.add_mul,Nat.one_mul];by_cases h:0<x
  . rw [xg4 h]
    have:=yfd (pw a f x i) f
    omega
  . rw [zqi h]
    have:=x3y (pw a f x i) f
    omega
theorem xbq (a f:Rat) (x:Int):ymb a f x=pw a f x x.natAbs:=rfl
theorem z0m (s:ByteArray):1<=(vl9 s).e/\(vl9 s).e<=9:=by
 unfold vl9
 cases h:x6x s with
 | false=>simp
 | true=>
  simp only [x6x,Bool.and_eq_true,decide_eq_true_eq] at h;simp only [cond_true];omega
theorem x87 (s:ByteArray):(x9p s).size<=s.size:=by
 unfold x9p y6h
 cases x6x s<;>simp only [cond_true,cond_false,yxt]<;>omega
def y5c (c:Int) (x:It):It:=bif decide (c=47) then ⟨x.w,0-x.e⟩ else x
def vhb (s p:ByteArray):Bool:=decide ((p.size:Int)<=s.size)&&seq (zt0 s p.size) p
def ztm (s:ByteArray):ByteArray:=bif vhb s ⟨#[49]⟩ then wcs s 1 else ⟨#[42]⟩++s
def ymw:Nat->ByteArray->List It->Option (List It)
 | 0,_,_=>none
 | n+1,r,acc=>bif decide (r.size=0) then some acc else
  bif !zr8 (wcs r 1)||(decide (¬x41 r 0=42)&&decide (¬x41 r 0=47)) then none else
  ymw n (x9p (wcs r 1)) (acc++[y5c (x41 r 0) (vl9 (wcs r 1))])
def vhi (s:ByteArray):Option (List It):=bif decide (s.size=0) then some [] else bif decide (40<(s.size:Int)) then none else ymw (s.size+2) (ztm s) []
def itO:Option (List It)->List It
 | some l=>l
 | none=>[]
def It.ok (x:It):Prop:=1<=x.w.size/\x.w.size<=1000/\-9<=x.e/\x.e<=9
theorem y7h {r:ByteArray} (h:zr8 r=true) (hr:r.size<=1000) (c:Int):(y5c c (vl9 r)).ok:=by
 have he:=z0m r;have hw:(vl9 r).w.size=z1a yio r:=v1j _ _ (wtz _ _);have hl:=wtz yio r
 have h0:1<=z1a yio r:=by
  have:(0:Int)<(z1a yio r:Int):=by simpa [zr8] using h
  omega
 unfold y5c
 cases decide (c=47)
 . exact ⟨by simp only [cond_false];omega,by simp only [cond_false];omega,by simp only [cond_false];omega,by simp only [cond_false];omega⟩
 . exact ⟨by simp only [cond_true];omega,by simp only [cond_true];omega,by simp only [cond_true];omega,by simp only [cond_true];omega⟩
theorem yev : ∀ (n : Nat) (r : ByteArray) (acc l : List It), ymw n r acc = some l → r.size ≤ 1000 → (∀ x ∈ acc, x.ok) → l.length ≤ acc.length + r.size ∧ ∀ x ∈ l, x.ok
 | 0,_,_,_,h,_,_=>by cases h
 | n + 1, r, acc, l, h, hr, ha => by
  rw [ymw] at h;by_cases h0:r.size=0
  . rw [decide_eq_true h0,cond_true] at h;cases h;exact ⟨by omega,ha⟩
  . rw [decide_eq_false h0, cond_false] at h
    cases hb:(!zr8 (wcs r 1)||(decide (¬x41 r 0=42)&&decide (¬x41 r 0=47))) with
    | true=>rw [hb,cond_true] at h;cases h
    | false=>
     rw [hb,cond_false] at h
     have hok:zr8 (wcs r 1)=true:=by
      cases hc:zr8 (wcs r 1) with
      | true=>rfl
      | false=>rw [hc] at hb;simp at hb
     have hd:=yxt r 1;have hcs:=x87 (wcs r 1)
     obtain ⟨h1,h2⟩:=yev n _ _ _ h (by omega) (fun x hx=>by
      rcases List.mem_append.1 hx with hx | hx
      . exact ha x hx
      . simp at hx;subst hx;exact y7h hok (by omega) _)
     refine ⟨?_,h2⟩;rw [List.length_append,List.length_singleton] at h1;omega
theorem yqi {s : ByteArray} {l : List It} (h : vhi s = some l) : l.length ≤ 41 ∧ ∀ x ∈ l, x.ok := by
 unfold vhi at h;by_cases h0:s.size=0
 . rw [decide_eq_true h0,cond_true] at h;cases h;simp
 . rw [decide_eq_false h0, cond_false] at h;by_cases h1:40<(s.size:Int)
   . rw [decide_eq_true h1,cond_true] at h;cases h
   . rw [decide_eq_false h1,cond_false] at h
     have hsz:(ztm s).size<=s.size+1:=by
      unfold ztm;have h42:(⟨#[42]⟩:ByteArray).size=1:=rfl
      cases vhb s ⟨#[49]⟩
      . simp only [cond_false,ByteArray.size_append];omega
      . simp only [cond_true,yxt];omega
     obtain ⟨a,b⟩:=yev _ _ _ _ h (by omega) (fun x hx=>by cases hx);exact ⟨by simp at a;omega,b⟩
def Dm.acc (x y:Dm) (e:Int):Dm:=⟨x.a+y.a*e,x.b+y.b*e,x.c+y.c*e,x.d+y.d*e,x.e+y.e*e,x.f+y.f*e⟩
def wf3:List It->Un->Option Un
 | [],u=>some u
 | x::l,u=>match ykz x.w with
  | none=>none
  | some v=>wf3 l ⟨u.d.acc v.d x.e,ymb u.f v.f x.e⟩
def zte (s:ByteArray):Option Un×Int:=match vhi s with
 | none=>(none,12)
 | some l=>match wf3 l ⟨Dm.zero,(1:Int)⟩ with
  | none=>(none,11)
  | some u=>bif zmf u.d then (some u,0) else (none,3)
def Dm.le (d:Dm) (n:Int):Prop:=(-n<=d.a/\d.a<=n)/\(-n<=d.b/\d.b<=n)/\(-n<=d.c/\d.c<=n)/\(-n<=d.d/\d.d<=n)/\(-n<=d.e/\d.e<=n)/\(-n<=d.f/\d.f<=n)
theorem yos {a:Int} (ha:0<=a/\a<=3) (he:-9<=e/\e<=9):-27<=a*e/\a*e<=27:=by
 have:a=0\/a=1\/a=2\/a=3:=by omega
 rcases this with rfl | rfl | rfl | rfl<;>omega
theorem Dm.v1r {x y:Dm} {n:Int} (hx:x.le n) (hy:y.in03) (he:-9<=e/\e<=9):(x.acc y e).le (n+27):=by
 obtain ⟨a1,a2,a3,a4,a5,a6⟩:=hx;obtain ⟨b1,b2,b3,b4,b5,b6⟩:=hy;have c1:=yos b1 he;have c2:=yos b2 he;have c3:=yos b3 he;have c4:=yos b4 he;have c5:=yos b5 he;have c6:=yos b6 he;unfold Dm.le Dm.acc;simp only;omega
theorem zn5:qs ((1:Int):Rat)<=1:=by
 show max (dig (1:Nat)).length (dig (1:Nat)).length<=1
 have:=vwv (n:=1) (k:=1) (by decide)
 omega
def dmO:Option Un->Dm
 | some u=>u.d
 | none=>Dm.zero
def fcO (i:Nat):Option Un->Cell
 | some u=>(fQ u.f).getD i .zc
 | none=>[cI 0,.zc,cI 0,.zc].getD i .zc
abbrev unX (o:Option Un):List Cell:=[cI (dmO o).a,cI (dmO o).b,cI (dmO o).c,cI (dmO o).d,cI (dmO o).e,cI (dmO o).f,fcO 0 o,fcO 1 o,fcO 2 o,fcO 3 o]
theorem vtx (o:Option Un):unO o=unX o:=by cases o<;>rfl
end Go.Hp.T
