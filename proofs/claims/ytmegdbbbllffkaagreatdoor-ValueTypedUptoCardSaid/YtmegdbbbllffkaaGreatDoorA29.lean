/- The proof, part A29: Bk, Bl, Bm, Bn, Ld, Bo, Le, Fa. -/
import Derived.Test.YtmegdbbbllffkaaGreatDoorA28
import Derived.Test.YtmegdbbbllffkaaGreatDoorA27
namespace Go.Slot.T
open Go Go.RowKit Go.Slot
open Go.Proofs.Tryz (prog)
set_option maxRecDepth 10000
set_option maxHeartbeats 8000000
theorem y0i (a b:List Int) (Uf Vf:Nat->List Int) (hUf:∀ s:Nat,Uf s=dig (num a*(s:Int)).toNat) (hVf:∀ s:Nat,Vf s=dig (num b*(s:Int)).toNat) (ha:digits a) (na:norm a) (hb:digits b) (nb:norm b) (la:a.length<=1073741824) (lb:2<=b.length) (hle:num b<=num a) :
 yn2 prog 113 [.one (.ints .i64 a),.one (.ints .i64 b)] (.tup [.one (.ints .i64 (dig (num a / num b).toNat)),.one (.ints .i64 (dig (num a % num b).toNat))]):=by
 have hord:¬ord (num a) (num b)<0:=by unfold ord;rw [if_neg (by omega)];split<;>decide
 have hbp:=norm.pos hb nb (fun e=>by rw [e] at lb;simp at lb);have hlab:b.length<=a.length:=Nat.le_of_not_lt (fun h=>by have:=yck ha na hb nb h;omega);refine yn2.run [(12,[.frz 60]),(22,[.join]),(23,[.frz 56,.frz 75])] Go.Proofs.Tryz.func113 rfl rfl ?_;simp only [Go.Proofs.Tryz.f113];refine rgR ?_;refine v1h (xxj a b ha na hb nb (by omega) (by omega)) ?_;refine rg ?_;refine z08 (fun h=>absurd h hord) (fun _=>?_);refine rg ?_;refine z08 (fun h=>absurd h (by omega)) (fun h=>?_)
 have htop:1<=b.getD (b.length-1) 0/\b.getD (b.length-1) 0<=1048575:=by
  have h1:=hb.getD (b.length-1);have h2:=nb (fun e=>by rw [e] at lb;simp at lb);omega
 have eb:((b.length:Int)-1).toNat=b.length-1:=by omega
 refine rg ?_;refine vxs [0,1] (fun s:Nat=>[(8,.one (.raw (.int .i64 (s:Int))))])
  (fun s=>1<=s/\s<=1048575) (fun s=>1048576-s) 1
  (by omega) ?_ ?_
 . refine rg ?_;exact StLe.weaken (by repeat' first | exact .nil | refine .cons (by first | exact .refl _ | exact .any _) ?_) rfl
 rintro s ⟨hs1,hs2⟩;refine rg1 @eb ?_;have hprod:0<=b.getD (b.length-1) 0*(s:Int)/\b.getD (b.length-1) 0*(s:Int)<=1048575*1048575:=⟨Int.mul_nonneg (by omega) (by omega),Int.mul_le_mul htop.2 (by omega) (by omega) (by decide)⟩;refine rg1 @eb ?_;refine z08 (fun h1=>?_) (fun h1=>?_)
 . have hs:(s:Int)<524288:=by
    have:=Int.mul_le_mul_of_nonneg_right htop.1 (show (0:Int)<=s by omega)
    omega
   refine rg ?_;exact ⟨2*s,by omega,by omega,by simp only [go_sem,Int.natCast_mul,Int.mul_comm];exact StLe.weaken (by repeat' first | exact .nil | refine .cons (by first | exact .refl _ | exact .any _) ?_) rfl⟩
 refine rg ?_;have hds:digits [(s:Int)]:=digits.cons (by omega) digits.nil
 have hns:num [(s:Int)]=s:=by simp [num]
 refine v1h (y5t a [(s:Int)] ha hds (by omega) (by simp)) ?_;have hna0:0<=num a*s:=Int.mul_nonneg (by omega) (by omega);have hnb0:0<num b*s:=Int.mul_pos hbp (by omega);rw [hns];have hU:=hUf s;have hV:=hVf s
 have hUd:digits (Uf s):=by rw [hU];exact wo6 _
 have hVd:digits (Vf s):=by rw [hV];exact wo6 _
 have hUn:num (Uf s)=num a*s:=by rw [hU,yn8];omega
 have hVn:num (Vf s)=num b*s:=by rw [hV,yn8];omega
 have hVnorm:norm (Vf s):=by rw [hV];exact yrd _
 have hxs:∀ x:Int,0<=x->x<=x*s:=fun x hx=>by
  have:=Int.mul_le_mul_of_nonneg_left (show (1:Int)<=s by omega) hx
  rwa [Int.mul_one] at this
 have haU:a.length<=(Uf s).length:=by
  have e:=congrArg List.length (yke ha na);rw [hU,e];refine wxv ?_
  have:=hxs (num a) (by omega)
  omega
 have hbV:b.length<=(Vf s).length:=by
  have e:=congrArg List.length (yke hb nb);rw [hV,e];refine wxv ?_
  have:=hxs (num b) (by omega)
  omega
 have hVU:(Vf s).length<=(Uf s).length:=by
  rw [hU,hV];refine wxv ?_
  have:num b*s<=num a*s:=Int.mul_le_mul_of_nonneg_right hle (by omega)
  omega
 have hUl:(Uf s).length<=1073741825:=by
  have h1:(Uf s).length<=a.length+1:=by
   rw [hU];apply vwv;have h1:=xxq ha;have h2:num a*(s:Int)<=num a*1048576:=Int.mul_le_mul_of_nonneg_left (by omega) (by omega)
   have h3:((1048576 ^ (a.length+1):Nat):Int)=1048576 ^ a.length*1048576:=by rw [Nat.pow_succ];simp
   omega
  omega
 rw [<-hU];refine rg ?_;refine v1h (y5t b [(s:Int)] hb hds (by omega) (by simp)) ?_;rw [hns,<-hV];refine rg ?_;refine z08 (fun h2=>absurd h2 (by simp;omega)) (fun h2=>?_);obtain ⟨u,hu⟩:∃ u,u=(Uf s)++[0]:=⟨_,rfl⟩;rw [<-hu]
 have hud:digits u:=by rw [hu];exact hUd.append (digits.cons (by decide) digits.nil)
 have hun:num u=num a*s:=by rw [hu,xtv];simp [num,hUn]
 have hul:u.length=(Uf s).length+1:=by rw [hu];simp
 have hVne:(Vf s)≠[]:=fun e=>by
  have:=congrArg List.length e
  simp only [List.length_nil] at this;omega
 have hV0:0<num (Vf s):=norm.pos hVd hVnorm hVne;obtain ⟨m,hm⟩:∃ m,u.length=m+(Vf s).length:=⟨u.length-(Vf s).length,by omega⟩
 have hm1:((u.length:Int)-(Vf s).length).toNat=m:=by omega
 have hult:num u<num (Vf s)*1048576 ^ m:=by
  rw [hun,<-hUn];have h3:=xxq hUd;have h4:=zpk hVd hVnorm hVne;have h5:=Int.mul_le_mul_of_nonneg_right h4 (Int.le_of_lt (zou m))
  have e:(Uf s).length=(Vf s).length-1+m:=by omega
  rw [e,Int.pow_add] at h3;omega
 have hord2:u.length<=1073741826:=by omega
 clear hu h2;refine rg1 @hm1 ?_;refine vxs [8,9,10,11,12] (fun x:Nat×List Int×List Int=>[(13,.one (.raw (.int .i64 ((x.1:Int)-1)))),(56,.arr [] (.ints .i64 x.2.1) none),(75,.arr [] (.ints .i64 x.2.2) none)])
  (fun x=>x.1<=m/\x.2.1.length=u.length/\digits x.2.1/\x.2.2.length=m/\digits x.2.2/\num a*s=num (Vf s)*(1048576 ^ x.1*num (x.2.2.drop x.1))+num x.2.1/\num x.2.1<num (Vf s)*1048576 ^ x.1)
  (fun x=>x.1) (m,u,List.replicate m 0)
  ⟨Nat.le_refl _,rfl,hud,by simp,digits.rep _,by simp [num,hun],hult⟩ ?_ ?_
 . refine rg ?_;exact StLe.weaken (by repeat' first | exact .nil | refine .cons (by first | exact .refl _ | exact .any _) ?_) rfl
 rintro ⟨j,w,q⟩ ⟨hj,hw,hwd,hq,hqd,he,hlt⟩;simp only at hj hw hwd hq hqd he hlt;refine rg ?_;refine z08 (fun h3=>?_) (fun h3=>?_)
 . obtain ⟨i,rfl⟩:∃ i,j=i+1:=⟨j-1,by omega⟩
   have ei:((i+1:Nat):Int)-1=(i:Nat):=by omega
   have e1:((i:Int)+(Vf s).length).toNat=i+(Vf s).length:=by omega
   have e2:((i:Int)+(Vf s).length-1).toNat=i+((Vf s).length-1):=by omega
   have e3:(((Vf s).length:Int)-1).toNat=(Vf s).length-1:=by omega
   have d1:=hwd.getD (i+(Vf s).length);have d2:=hwd.getD (i+((Vf s).length-1));have d3:=hVd.getD ((Vf s).length-1);have d4:=hVnorm hVne
   conv=>simp (maxSteps:=2000000) (disch:=omega) only [go_sem,Nat.reduceAdd,Nat.reduceSub,Nat.reduceMul,Int.reduceToNat,Nat.reduceEqDiff,Nat.reduceBEq,Nat.reduceBneDiff,ei,e1,e2,e3,yzv,or20]
   refine indk (by kernel_rfl) ?_;obtain ⟨T,hT⟩:∃ T,T=w.getD (i+(Vf s).length) 0*1048576+w.getD (i+((Vf s).length-1)) 0:=⟨_,rfl⟩;obtain ⟨v1,hv1⟩:∃ v1,v1=(Vf s).getD ((Vf s).length-1) 0:=⟨_,rfl⟩;rw [<-hT];rw [<-hv1] at d3 d4
   have hT0:0<=T/\T<1099511627776:=by omega
   conv=>simp (maxSteps:=2000000) (disch:=omega) only [go_sem,Nat.reduceAdd,Nat.reduceSub,Nat.reduceMul,Int.reduceToNat,Nat.reduceEqDiff,Nat.reduceBEq,Nat.reduceBneDiff,ei,e1,e2,e3,<-hv1]
   have hq0:T.tdiv v1=T / v1:=Int.tdiv_eq_ediv_of_nonneg hT0.1;have hm0:T.tmod v1=T % v1:=Int.tmod_eq_emod_of_nonneg hT0.1;have hq1:0<=T / v1:=Int.ediv_nonneg hT0.1 (by omega);have hq2:T / v1<=T:=Int.ediv_le_self _ hT0.1;have hm1':0<=T % v1:=Int.emod_nonneg _ (by omega);have hm2:T % v1<v1:=Int.emod_lt_of_pos _ (by omega);have hdm:=Int.emod_add_mul_ediv T v1;rw [hq0,hm0]
   conv=>simp (maxSteps:=2000000) (disch:=omega) only [go_sem,Nat.reduceAdd,Nat.reduceSub,Nat.reduceMul,Int.reduceToNat,Nat.reduceEqDiff,Nat.reduceBEq,Nat.reduceBneDiff,ei,e1,e2,e3,<-hv1]
   refine indk (by kernel_rfl) ?_;refine rg ?_
   have hn2:2<=(Vf s).length:=by omega
   have e4:((i:Int)+(Vf s).length-2).toNat=i+((Vf s).length-2):=by omega
   have e5:(((Vf s).length:Int)-2).toNat=(Vf s).length-2:=by omega
   have e6:((i:Int)+(Vf s).length+1).toNat=i+((Vf s).length+1):=by omega
   have hin:i+((Vf s).length+1)<=w.length:=by omega
   have hWlen:((w.drop i).take ((Vf s).length+1)).length=(Vf s).length+1:=by simp;omega
   obtain ⟨u2,hu2⟩:∃ u2,u2=w.getD (i+((Vf s).length-2)) 0:=⟨_,rfl⟩;obtain ⟨v2,hv2⟩:∃ v2,v2=(Vf s).getD ((Vf s).length-2) 0:=⟨_,rfl⟩;have hW:=v2e _ (Vf s).length hn2 hWlen;rw [xku (by omega),xku (by omega),xku (by omega),<-hT,<-hu2] at hW;have hVt:=xob (Vf s) (Vf s).length hn2 rfl;rw [<-hv1,<-hv2] at hVt;have hWd:digits ((w.drop i).take ((Vf s).length+1)):=(hwd.drop i).take _;have hw0:=xxq (hWd.take ((Vf s).length-2));have hw1:=num_nonneg (hWd.take ((Vf s).length-2));have hv0:=xxq (hVd.take ((Vf s).length-2));have hv0':=num_nonneg (hVd.take ((Vf s).length-2));rw [List.length_take,hWlen,Nat.min_eq_left (by omega)] at hw0;rw [List.length_take,Nat.min_eq_left (by omega)] at hv0;have hP:=zou ((Vf s).length-2);have hW0:=num_nonneg hWd;have du:=hwd.getD (i+((Vf s).length-2));have dv:=hVd.getD ((Vf s).length-2);rw [<-hu2] at du;rw [<-hv2] at dv;obtain ⟨W,hWW⟩:∃ W,W=num ((w.drop i).take ((Vf s).length+1)):=⟨_,rfl⟩;rw [<-hWW] at hW hW0;refine zu4 [8,9,10,11,12,13] (fun g:Int=>[(15,.one (.raw (.int .i64 g)))])
    (fun g=>0<=g/\g<=1048575/\W<(g+1)*num (Vf s)/\(g-1)*num (Vf s)<=W) ?_ ?_
   . refine rg ?_
     have hinit:W<(T / v1+1)*num (Vf s):=by
      refine y59 hP hW hw0 du.2 hVt hv0' dv.1 ?_ hq1
      have:(T / v1+1)*v1=v1*(T / v1)+v1:=by grind
      omega
     refine vxs [8,9,10,11,12,13,14] (fun x:Int×Int=>[(15,.one (.raw (.int .i64 x.1))),(16,.one (.raw (.int .i64 x.2)))])
      (fun x=>0<=x.1/\T=x.1*v1+x.2/\W<(x.1+1)*num (Vf s)/\0<=x.2/\x.1<=T)
      (fun x=>x.1.toNat) (T / v1,T % v1) ⟨hq1,by dsimp only;rw [Int.mul_comm];omega,hinit,hm1',hq2⟩ ?_ ?_
     . refine rg ?_;exact StLe.weaken (by repeat' first | exact .nil | refine .cons (by first | exact .refl _ | exact .any _) ?_) rfl
     rintro ⟨g,r⟩ ⟨hg0,hgT,hgW,hr0,hgT2⟩;simp only at hg0 hgT hgW hr0 hgT2;have hgv:0<=g*v1:=Int.mul_nonneg hg0 (by omega)
     have hrT:r<=T:=by omega
     refine rg ?_
     have hfin:g<=1048575->(1048576<=r\/g*v2<=r*1048576+u2)->(g-1)*num (Vf s)<=W:=fun hg1 hc=>
      vpk hP hW hw1 du.1 hVt hv0 (by omega) dv hV0 hW0 hg0 hg1 hgT hc
     have hdec:W<g*num (Vf s)->0<g/\T=(g-1)*v1+(r+v1)/\W<(g-1+1)*num (Vf s):=fun h=>by
      refine ⟨?_,?_,?_⟩
      . rcases Int.lt_or_le 0 g with h' | h'
        . exact h'
        . have:g=0:=by omega
          subst this;omega
      . rw [hgT];grind
      . rw [show g-1+1=g by omega];exact h
     refine xjr (fun h4=>?_) (fun h4=>?_)
     . refine rg1 @h4 ?_;refine z4u (fun h5=>?_) (fun h5=>?_)
       . have hgv2:0<=g*v2/\g*v2<=1048575*1048575:=⟨Int.mul_nonneg hg0 dv.1,Int.mul_le_mul (by omega) dv.2 dv.1 (by decide)⟩
         conv=>simp (maxSteps:=2000000) (disch:=omega) only [go_sem,Nat.reduceAdd,Nat.reduceSub,Nat.reduceMul,Int.reduceToNat,Nat.reduceEqDiff,Nat.reduceBEq,Nat.reduceBneDiff,h4,h5,ei,e1,e4,e5,<-hv2,<-hu2,yzv,or20]
         refine indk (by kernel_rfl) ?_;refine rg ?_;refine z08 (fun h6=>?_) (fun h6=>?_)
         . obtain ⟨g1,g2,g3⟩:=hdec (wi4 hP hW hw0 hVt hv0' hg0 hgT h6)
           conv=>simp (maxSteps:=2000000) (disch:=omega) only [go_sem,Nat.reduceAdd,Nat.reduceSub,Nat.reduceMul,Int.reduceToNat,Nat.reduceEqDiff,Nat.reduceBEq,Nat.reduceBneDiff,e3,<-hv1]
           exact ⟨(g-1,r+v1),⟨by dsimp only;omega,g2,g3,by dsimp only;omega,by dsimp only;omega⟩,by dsimp only;omega,StLe.weaken (by repeat' first | exact .nil | refine .cons (by first | exact .refl _ | exact .any _) ?_) rfl⟩
         . refine rg ?_;exact ⟨g,⟨hg0,by omega,hgW,hfin (by omega) (.inr (by omega))⟩,StLe.weaken (by repeat' first | exact .nil | refine .cons (by first | exact .refl _ | exact .any _) ?_) rfl⟩
       . refine rg2 @h4 @h5 ?_;refine indk (by kernel_rfl) ?_;refine rg2 @h4 @h5 ?_;exact ⟨g,⟨hg0,by omega,hgW,hfin (by omega) (.inl (by omega))⟩,StLe.weaken (by repeat' first | exact .nil | refine .cons (by first | exact .refl _ | exact .any _) ?_) rfl⟩
     . have hWB:W<num (Vf s)*1048576:=by
        have h7:=vhw w i ((Vf s).length+1) hin;rw [<-hWW] at h7;have h8:=Int.mul_nonneg (Int.le_of_lt (zou (i+((Vf s).length+1)))) (num_nonneg (hwd.drop (i+((Vf s).length+1))));have h9:=num_nonneg (hwd.take i);rw [Int.pow_succ] at hlt;refine Int.lt_of_mul_lt_mul_left (a:=1048576 ^ i) ?_ (Int.le_of_lt (zou i))
        have:(1048576:Int) ^ i*(num (Vf s)*1048576)=num (Vf s)*(1048576 ^ i*1048576):=by grind
        omega
       have hlow:W<g*num (Vf s):=by
        have:=Int.mul_le_mul_of_nonneg_right h4 (Int.le_of_lt hV0)
        omega
       obtain ⟨g1,g2,g3⟩:=hdec hlow;refine rg1 @h4 ?_;refine indk (by kernel_rfl) ?_
       conv=>simp (maxSteps:=2000000) (disch:=omega) only [go_sem,Nat.reduceAdd,Nat.reduceSub,Nat.reduceMul,Int.reduceToNat,Nat.reduceEqDiff,Nat.reduceBEq,Nat.reduceBneDiff,h4,e3,<-hv1]
       exact ⟨(g-1,r+v1),⟨by dsimp only;omega,g2,g3,by dsimp only;omega,by dsimp only;omega⟩,by dsimp only;omega,StLe.weaken (by repeat' first | exact .nil | refine .cons (by first | exact .refl _ | exact .any _) ?_) rfl⟩
   . intro g hg;have hg:0<=g/\g<=1048575/\W<(g+1)*num (Vf s)/\(g-1)*num (Vf s)<=W:=hg;have hg0:=hg.1;have hg1:=hg.2.1;have hgW:=hg.2.2.1;have hgl:=hg.2.2.2;have hsp:=xu8 hgl hgW hV0 hW0 ⟨hg0,hg1⟩;refine rg1 @e6 ?_;rw [show i+((Vf s).length+1)-i=(Vf s).length+1 by omega];refine ownk (y1l w (Vf s) i ((Vf s).length+1) g hwd hVd (by omega) hin (by omega) ⟨hg0,hg1⟩ (by rw [<-hWW];exact hgl)) ?_;rw [<-hWW];generalize settled W (num (Vf s)) g=G at *;obtain ⟨hG0,hG1,hG2,hG3⟩:=hsp;obtain ⟨D,hD⟩:∃ D,D=fixd ((Vf s).length+1) (W-G*num (Vf s)):=⟨_,rfl⟩
     have hDl:D.length=(Vf s).length+1:=by rw [hD];exact wpd _ _
     have hDd:digits D:=by rw [hD];exact xvy _ _
     have hGV:(G+1)*num (Vf s)=G*num (Vf s)+num (Vf s):=by grind
     have hDn:num D=W-G*num (Vf s):=by
      rw [hD];refine x8e _ _ (by omega) ?_;have h7:=xxq hVd;have h8:=wqr (show (Vf s).length<=(Vf s).length+1 by omega);omega
     rw [<-hD];refine rg1 @hDl ?_;have h7:=vhw w i ((Vf s).length+1) hin;have h8:=y3m w D i ((Vf s).length+1) hin hDl;rw [<-hWW] at h7;rw [hDn] at h8;have hA0:=num_nonneg (hwd.take i);have hA1:=xxq (hwd.take i);rw [List.length_take,Nat.min_eq_left (by omega)] at hA1
     have hX0:num (w.drop (i+((Vf s).length+1)))=0:=by
      have hX:=num_nonneg (hwd.drop (i+((Vf s).length+1)))
      rcases Int.lt_or_le 0 (num (w.drop (i+((Vf s).length+1)))) with h9 | h9
      . have k1:=Int.mul_le_mul_of_nonneg_left (show (1:Int)<=num (w.drop (i+((Vf s).length+1))) by omega) (Int.le_of_lt (zou (i+((Vf s).length+1))));have k2:=Int.mul_nonneg (Int.le_of_lt (zou i)) hW0;have k3:=Int.mul_lt_mul_of_pos_right (xxq hVd) (zou (i+1))
        have k4:(1048576:Int) ^ (Vf s).length*1048576 ^ (i+1)=1048576 ^ (i+((Vf s).length+1)):=by rw [<-Int.pow_add];congr 1;omega
        omega
      . omega
     rw [hX0,Int.mul_zero,Int.add_zero] at h7 h8;refine ⟨(i,w.take i++D++w.drop (i+((Vf s).length+1)),q.set i G),⟨by dsimp only;omega,?_,((hwd.take i).append hDd).append (hwd.drop _),by simpa using hq,hqd.set i ⟨hG0,hG1⟩,?_,?_⟩,by dsimp only;omega,StLe.weaken (by repeat' first | exact .nil | refine .cons (by first | exact .refl _ | exact .any _) ?_) rfl⟩
     . dsimp only;rw [List.length_append,List.length_append,List.length_take,List.length_drop,hDl];omega
     . dsimp only;rw [x7k G (by omega),h8,he,h7,Int.pow_succ];simp only [num]
       grind
     . dsimp only;rw [h8];have k1:=Int.mul_le_mul_of_nonneg_left (show W-G*num (Vf s)<=num (Vf s)-1 by omega) (Int.le_of_lt (zou i))
       have k2:(1048576:Int) ^ i*(num (Vf s)-1)=num (Vf s)*1048576 ^ i-1048576 ^ i:=by grind
       omega
 . have h0:j=0:=by omega
   subst h0;simp only [Int.pow_zero,Int.one_mul,List.drop_zero,Int.mul_one] at he hlt;refine rg ?_;refine v1h (xam w (by omega)) ?_;rw [xrs hwd rfl];have hwn:=num_nonneg hwd;have hqn:=num_nonneg hqd
   have e7:num (dig (num w).toNat)=num w:=by rw [yn8];omega
   have hlw:(dig (num w).toNat).length<=w.length:=by rw [<-zzz hwd];exact zhu w
   refine rg ?_;refine v1h (yak (dig (num w).toNat) s (wo6 _) (by omega) (by omega)) ?_;rw [e7];refine rg ?_;refine v1h (xam q (by omega)) ?_;rw [xrs hqd rfl];refine rg ?_;refine ⟨_,rfl,?_⟩;rw [hVn] at he hlt;obtain ⟨hq',hr'⟩:=ws7 (show (0:Int)<s by omega) hbp he hwn hlt;rw [hq',hr'];exact .tup (.cons (.refl _) (.cons (.refl _) .nil))
theorem xv2 (a b:List Int) (ha:digits a) (na:norm a) (hb:digits b) (nb:norm b) (la:a.length<=1073741824) (lb:2<=b.length) (hle:num b<=num a) :
 yn2 prog 113 [.one (.ints .i64 a),.one (.ints .i64 b)] (.tup [.one (.ints .i64 (dig (num a / num b).toNat)),.one (.ints .i64 (dig (num a % num b).toNat))]):=
 y0i a b (fun s=>dig (num a*(s:Int)).toNat) (fun s=>dig (num b*(s:Int)).toNat) (fun _=>rfl) (fun _=>rfl) ha na hb nb la lb hle
end Go.Slot.T
namespace Go.Slot.T
open Go Go.RowKit Go.Slot
open Go.Proofs.Tryz (prog)
set_option maxRecDepth 10000
set_option maxHeartbeats 4000000
abbrev okZ (z:Int):Prop:=(dig z.natAbs).length<=268435456
theorem zcq (z:Int) (hz:okZ z):yn2 prog 53 [.agg [.raw (.int .i64 (sg z)),.ints .i64 (dig z.natAbs)]] (.one (.raw (.bool true))):=by
 have h:=xz2 (sg z) (dig z.natAbs) (by omega);rw [decide_eq_true (xpw z)] at h;exact h
theorem yr5 (s:Int) (L:List Int) (hL:L.length<=268435456) (h:¬xhn s L):yn2 prog 53 [.agg [.raw (.int .i64 s),.ints .i64 L]] (.one (.raw (.bool false))):=by
 have h':=xz2 s L (by omega);rw [decide_eq_false h] at h';exact h'
theorem vgq (s z:Int) (hz:(dig z.natAbs).length<=1073741824) (h:(s=1/\0<=z)\/(s = -1/\z<=0)\/z=0) :
 yn2 prog 114 [.one (.raw (.int .i64 s)),.one (.ints .i64 (dig z.natAbs))] (.agg [.raw (.int .i64 (sg z)),.ints .i64 (dig z.natAbs)]):=by
 have h':=y7y s (dig z.natAbs) (by omega);unfold bigC at h';rw [vam h] at h';exact h'
theorem ypp (z:Int):yn2 prog 111 [.one (.raw (.bool true)),.agg [.raw (.int .i64 (sg z)),.ints .i64 (dig z.natAbs)]]
 (.tup [.agg [.raw (.int .i64 (sg z)),.ints .i64 (dig z.natAbs)],.one (.raw (.int .i64 0))]):=z8n true (sg z) (dig z.natAbs)
theorem x7n (x y:Int) (hx:okZ x) (hy:okZ y) :
 yn2 prog 174 [.agg [.raw (.int .i64 (sg x)),.ints .i64 (dig x.natAbs)],.agg [.raw (.int .i64 (sg y)),.ints .i64 (dig y.natAbs)]] (.one (.raw (.int .i64 (ord x y)))):=by
 have sx:=wzq x;have sy:=wzq y;refine yn2.run [] Go.Proofs.Tryz.func174 rfl rfl ?_;simp only [Go.Proofs.Tryz.f174];refine rgR ?_;refine v1h (zcq x hx) ?_;refine rg ?_;refine v1h (zcq y hy) ?_;refine rg ?_;refine z08 (fun h=>?_) (fun h=>?_)
 . refine rg ?_;refine v1h (cCmp _ _) ?_;refine rg ?_;exact ⟨_,rfl,by rw [y79 x y h];exact .one (.refl _)⟩
 . have h:sg x=sg y:=by omega
   have ho:-1<=ord (num (dig x.natAbs)) (num (dig y.natAbs))/\ord (num (dig x.natAbs)) (num (dig y.natAbs))<=1:=by unfold ord;repeat' split<;>omega
   have hm:=zn8 x y h
   have ho':-1<=ord x y/\ord x y<=1:=by unfold ord;repeat' split<;>omega
   refine rg ?_;refine v1h (xxj _ _ (wo6 _) (yrd _) (wo6 _) (yrd _) (by omega) (by omega)) ?_;refine rg1 @hm ?_;refine indk (by kernel_rfl) ?_;refine rg ?_;exact ⟨_,rfl,.one (.refl _)⟩
theorem yvd (x:Int) (hx:okZ x) :
 yn2 prog 89 [.agg [.raw (.int .i64 (sg x)),.ints .i64 (dig x.natAbs)]] (.agg [.raw (.int .i64 (sg (-x))),.ints .i64 (dig (-x).natAbs)]):=by
 have sx:=wzq x
 have e:(-x).natAbs=x.natAbs:=by omega
 have hs:=vgq (0-sg x) (-x) (by rw [e];omega) (by omega);rw [e] at hs ⊢;refine yn2.run [] Go.Proofs.Tryz.func89 rfl rfl ?_;simp only [Go.Proofs.Tryz.f89];refine rgR ?_;refine v1h (zcq x hx) ?_;refine rg ?_;refine v1h (yud _ (by omega)) ?_;refine rg ?_;refine v1h hs ?_;refine rg ?_;refine indk (by kernel_rfl) ?_;refine rg ?_;exact ⟨_,rfl,.one (.refl _)⟩
theorem cOr (x y:Int):yn2 prog 172 [.one (.ints .i64 [x,y])] (.one (.raw (.int .i64 (if x≠0 then x else y)))):=by
 refine yn2.run [] Go.Proofs.Tryz.func172 rfl rfl ?_;simp only [Go.Proofs.Tryz.f172];refine rgR ?_;refine vxs [3,6,7] (fun i:Nat=>[(8,.one (.raw (.int .i64 i)))])
  (fun i=>i=0\/(i=1/\x=0)\/(i=2/\x=0/\y=0)) (fun i=>2-i) 0 (.inl rfl) ?_ ?_
 . refine rg ?_;exact StLe.weaken (by repeat' first | exact .nil | refine .cons (by first | exact .refl _ | exact .any _) ?_) rfl
 rintro i (rfl | ⟨rfl,hx⟩ | ⟨rfl,hx,hy⟩)
 . refine rg ?_;refine z08 (fun _=>?_) (fun h=>absurd (by decide) h);refine rg ?_;refine z08 (fun h1=>?_) (fun h1=>?_)
   . have h1:x≠0:=h1;refine rg ?_;exact ⟨_,rfl,.one (.refl _)⟩
   . have h1:x=0:=by simpa using h1
     refine rg ?_;exact ⟨1,.inr (.inl ⟨rfl,h1⟩),by decide,StLe.weaken (by repeat' first | exact .nil | refine .cons (by first | exact .refl _ | exact .any _) ?_) rfl⟩
 . refine rg ?_;refine z08 (fun _=>?_) (fun h=>absurd (by decide) h);refine rg ?_;refine z08 (fun h1=>?_) (fun h1=>?_)
   . refine rg ?_;exact ⟨_,rfl,.one (.refl _)⟩
   . have h1:y=0:=by simpa using h1
     refine rg ?_;exact ⟨2,.inr (.inr ⟨rfl,hx,h1⟩),by decide,StLe.weaken (by repeat' first | exact .nil | refine .cons (by first | exact .refl _ | exact .any _) ?_) rfl⟩
 . refine rg ?_;refine z08 (fun h=>absurd h (by decide)) (fun _=>?_);refine rg ?_;exact ⟨_,rfl,by rw [hy];exact .one (.refl _)⟩
theorem zm6 (x y:Int) (hx:okZ x) (hy:okZ y) :
 yn2 prog 125 [.agg [.raw (.int .i64 (sg x)),.ints .i64 (dig x.natAbs)],.agg [.raw (.int .i64 (sg y)),.ints .i64 (dig y.natAbs)]]
  (.tup [.agg [.raw (.int .i64 (sg (x+y))),.ints .i64 (dig (x+y).natAbs)],.one (.raw (.int .i64 0))]):=by
 have sx:=wzq x;have sy:=wzq y;have hl:=zzg x y;have ex:=zeb x;have ey:=zeb y
 have hp:sg x*sg y=1\/sg x*sg y=0\/sg x*sg y = -1:=by
  rcases sx with ⟨_,e⟩ | ⟨_,e⟩ | ⟨_,e⟩<;>rcases sy with ⟨_,e'⟩ | ⟨_,e'⟩ | ⟨_,e'⟩<;>rw [e,e']<;>decide
 refine yn2.run [] Go.Proofs.Tryz.func125 rfl rfl ?_;simp only [Go.Proofs.Tryz.f125];refine rgR ?_;refine v1h (zcq x hx) ?_;refine rg ?_;refine v1h (zcq y hy) ?_;refine rg ?_;refine z08 (fun h=>?_) (fun h=>?_)
 . have hs:(0<=x/\0<=y)\/(x<=0/\y<=0):=by
    rcases sx with ⟨h1,e⟩ | ⟨h1,e⟩ | ⟨h1,e⟩<;>rcases sy with ⟨h2,e'⟩ | ⟨h2,e'⟩ | ⟨h2,e'⟩<;>rw [e,e'] at h<;>first | omega | exact absurd h (by decide)
   refine rg ?_;refine v1h (cOr _ _) ?_;refine rg ?_;refine v1h (wu3 _ _ (wo6 _) (wo6 _) (by omega) (by omega)) ?_;rw [ex,ey,show ((x.natAbs:Int)+y.natAbs).toNat=(x+y).natAbs by omega];refine rg ?_;refine v1h (vgq _ (x+y) (by omega) (by split<;>omega)) ?_;refine rg ?_;refine v1h (ypp (x+y)) ?_;refine rg ?_;refine indk (by kernel_rfl) ?_;refine rg ?_;exact ⟨_,rfl,.one (.refl _)⟩
 . have hs:(x<0/\0<y)\/(0<x/\y<0):=by
    rcases sx with ⟨h1,e⟩ | ⟨h1,e⟩ | ⟨h1,e⟩<;>rcases sy with ⟨h2,e'⟩ | ⟨h2,e'⟩ | ⟨h2,e'⟩<;>rw [e,e'] at h<;>first | omega | exact absurd (by decide) h
   refine rg ?_;refine v1h (xxj _ _ (wo6 _) (yrd _) (wo6 _) (yrd _) (by omega) (by omega)) ?_;refine rg ?_;refine z08 (fun h1=>?_) (fun h1=>?_)
   . have h2:x.natAbs<y.natAbs:=by
      rw [ex,ey] at h1;unfold ord at h1;repeat' split at h1<;>omega
     refine rg ?_;refine v1h (viv _ _ (wo6 _) (wo6 _) (by omega) (wxv (by omega)) (by omega)) ?_;rw [ex,ey,show ((y.natAbs:Int)-x.natAbs).toNat=(x+y).natAbs by omega];refine rg ?_;refine v1h (vgq _ (x+y) (by omega) (by omega)) ?_;refine rg ?_;refine v1h (ypp (x+y)) ?_;refine rg ?_;refine indk (by kernel_rfl) ?_;refine rg ?_;exact ⟨_,rfl,.one (.refl _)⟩
   . have h2:y.natAbs<=x.natAbs:=by
      rw [ex,ey] at h1;unfold ord at h1;repeat' split at h1<;>omega
     refine rg ?_;refine v1h (viv _ _ (wo6 _) (wo6 _) (by omega) (wxv (by omega)) (by omega)) ?_;rw [ex,ey,show ((x.natAbs:Int)-y.natAbs).toNat=(x+y).natAbs by omega];refine rg ?_;refine v1h (vgq _ (x+y) (by omega) (by omega)) ?_;refine rg ?_;refine v1h (ypp (x+y)) ?_;refine rg ?_;refine indk (by kernel_rfl) ?_;refine rg ?_;exact ⟨_,rfl,.one (.refl _)⟩
theorem vda (x y:Int):sg x*sg y=sg (x*y):=by
 rcases wzq x with ⟨h1,e⟩ | ⟨h1,e⟩ | ⟨h1,e⟩<;>rcases wzq y with ⟨h2,e'⟩ | ⟨h2,e'⟩ | ⟨h2,e'⟩<;>rw [e,e']
 . rw [zgu (Int.mul_pos_of_neg_of_neg h1 h2)];rfl
 . subst h2;simp [vap]
 . rw [xxz (Int.mul_neg_of_neg_of_pos h1 h2)];rfl
 . subst h1;simp [vap]
 . subst h1;simp [vap]
 . subst h1;simp [vap]
 . rw [xxz (Int.mul_neg_of_pos_of_neg h1 h2)];rfl
 . subst h2;simp [vap]
 . rw [zgu (Int.mul_pos h1 h2)];rfl
theorem wqt (z:Int):(sg z=1/\0<=z)\/(sg z = -1/\z<=0)\/z=0:=by
 rcases wzq z with ⟨h,e⟩ | ⟨h,e⟩ | ⟨h,e⟩<;>omega
theorem zf2 (x y:Int) (hx:okZ x) (hy:okZ y) :
 yn2 prog 91 [.agg [.raw (.int .i64 (sg x)),.ints .i64 (dig x.natAbs)],.agg [.raw (.int .i64 (sg y)),.ints .i64 (dig y.natAbs)]]
  (.tup [.agg [.raw (.int .i64 (sg (x*y))),.ints .i64 (dig (x*y).natAbs)],.one (.raw (.int .i64 0))]):=by
 have hl:=wm8 x y;have ex:=zeb x;have ey:=zeb y;have hs:=vda x y;have hs1:=wzq (x*y);refine yn2.run [] Go.Proofs.Tryz.func91 rfl rfl ?_;simp only [Go.Proofs.Tryz.f91];refine rgR ?_;refine v1h (zcq x hx) ?_;refine rg ?_;refine v1h (zcq y hy) ?_;refine rg ?_;refine v1h ((y5t _ _ (wo6 _) (wo6 _) (by omega) (by omega)).le .own) ?_;rw [ex,ey,show ((x.natAbs:Int)*y.natAbs).toNat=(x*y).natAbs by rw [Int.natAbs_mul,<-Int.natCast_mul];rfl];refine rg1 @hs ?_;refine v1h (vgq _ (x*y) (by omega) (wqt _)) ?_;refine rg ?_;refine v1h (ypp (x*y)) ?_;refine rg ?_;refine indk (by kernel_rfl) ?_;refine rg ?_;exact ⟨_,rfl,.one (.refl _)⟩
theorem cDiv (a b:Nat) (la:(dig a).length<=1073741824) (hl:(dig b).length<=1073741824) (hb:b≠0) :
 yn2 prog 113 [.one (.ints .i64 (dig a)),.one (.ints .i64 (dig b))] (.tup [.one (.ints .i64 (dig (a / b))),.one (.ints .i64 (dig (a % b)))]):=by
 have ea:=yn8 a;have eb:=yn8 b
 have e1:(num (dig a) / num (dig b)).toNat=a / b:=by rw [ea,eb];exact Int.toNat_natCast _
 have e2:(num (dig a) % num (dig b)).toNat=a % b:=by rw [ea,eb];exact Int.toNat_natCast _
 rw [<-e1,<-e2]
 rcases Nat.lt_or_ge a b with h | h
 . exact xjz _ _ (wo6 _) (yrd _) (wo6 _) (yrd _) la hl (by omega)
 . rcases Nat.lt_or_ge (dig b).length 2 with h1 | h1
   . have h0:(dig b).length≠0:=fun e=>hb (zrh.1 (List.eq_nil_of_length_eq_zero e))
     exact vkh _ _ (wo6 _) (yrd _) (wo6 _) (yrd _) la (by omega) (by omega)
   . exact xv2 _ _ (wo6 _) (yrd _) (wo6 _) (yrd _) la h1 (by omega)
theorem vjt (x y:Int) (hx:okZ x) (hy:okZ y) (hy0:0<y) :
 yn2 prog 90 [.agg [.raw (.int .i64 (sg x)),.ints .i64 (dig x.natAbs)],.agg [.raw (.int .i64 (sg y)),.ints .i64 (dig y.natAbs)]]
  (.tup [.agg [.raw (.int .i64 (sg (x / y))),.ints .i64 (dig (x / y).natAbs)],.agg [.raw (.int .i64 (sg (x % y))),.ints .i64 (dig (x % y).natAbs)],.one (.raw (.int .i64 0))]):=by
 have sx:=wzq x;have sy:=zgu hy0;have hn:=Nat.div_add_mod x.natAbs y.natAbs;have hr:=Nat.mod_lt x.natAbs (show 0<y.natAbs by omega);have hqx:=Nat.div_le_self x.natAbs y.natAbs;have hrx:=Nat.mod_le x.natAbs y.natAbs;have hlq:=wxv hqx;have hlr:=wxv hrx;generalize hQ:x.natAbs / y.natAbs=Q at *;generalize hR:x.natAbs % y.natAbs=R at *
 have hyQ:((y.natAbs*Q:Nat):Int)=y*Q:=by rw [Int.natCast_mul];congr 1;omega
 have eR:=yn8 R;have eQ:=yn8 Q;have ey:=zeb y;have hlQ1:=z4z Q 1
 have h1l:(dig 1).length=1:=by rw [yzy (by decide),ylp];rfl
 have hcd:=cDiv x.natAbs y.natAbs (by omega) (by omega) (by omega);rw [hQ,hR] at hcd;refine yn2.run [] Go.Proofs.Tryz.func90 rfl rfl ?_;simp only [Go.Proofs.Tryz.f90];refine rgR ?_;refine v1h (zcq x hx) ?_;refine rg ?_;refine v1h (zcq y hy) ?_;refine rg ?_;refine z08 (fun h=>absurd h (by omega)) (fun _=>?_);refine rg ?_;refine v1h hcd ?_
 conv=>simp (maxSteps:=2000000) (disch:=omega) only [go_sem,Nat.reduceAdd,Nat.reduceSub,Nat.reduceMul,Int.reduceToNat,Nat.reduceEqDiff,Nat.reduceBEq,Nat.reduceBneDiff,sy,Int.mul_one]
 refine z4u (fun h1=>?_) (fun h1=>?_)
 . have hx0:x<0:=by omega
   conv=>simp (maxSteps:=2000000) (disch:=omega) only [go_sem,Nat.reduceAdd,Nat.reduceSub,Nat.reduceMul,Int.reduceToNat,Nat.reduceEqDiff,Nat.reduceBEq,Nat.reduceBneDiff,h1,sy,Int.mul_one]
   refine z08 (fun h2=>?_) (fun h2=>?_)
   . have hR0:R≠0:=fun e=>by rw [e,ylp] at h2;simp at h2
     obtain ⟨k1,k2⟩:=v03 (x:=x) (y:=y) (q:=-((Q:Int)+1)) (r:=y-R) (by
      have:y * -((Q:Int)+1) = -(y*Q)-y:=by grind
      omega) (by omega) (by omega)
     have m1:(x / y).natAbs=Q+1:=by rw [k1];omega
     have m2:(x % y).natAbs=y.natAbs-R:=by rw [k2];omega
     have m3:(num (dig Q)+num [1]).toNat=Q+1:=by rw [eQ];simp [num]
     have m4:(num (dig y.natAbs)-num (dig R)).toNat=y.natAbs-R:=by rw [ey,eR];omega
     have hA:=wu3 (dig Q) [1] (wo6 _) (digits.cons (by decide) digits.nil) (by omega) (by simp);rw [m3,<-m1] at hA;have hS:=viv (dig y.natAbs) (dig R) (wo6 _) (wo6 _) (by omega) (wxv (by omega)) (by omega);rw [m4,<-m2] at hS;have hs1:=vgq (-1) (x / y) (by rw [m1];omega) (by rw [k1];omega);have hs2:=vgq 1 (x % y) (by rw [m2];have:=wxv (show y.natAbs-R<=y.natAbs by omega);omega) (by rw [k2];omega);refine rg ?_;refine v1h hA ?_;refine rg ?_;refine v1h hs1 ?_;refine rg ?_;refine v1h hS ?_;refine rg ?_;refine v1h hs2 ?_;refine rg ?_;refine indk (by kernel_rfl) ?_;refine rg ?_;exact ⟨_,rfl,.one (.refl _)⟩
   . have hR0:R=0:=zrh.1 (List.eq_nil_of_length_eq_zero (by omega))
     obtain ⟨k1,k2⟩:=v03 (x:=x) (y:=y) (q:=-(Q:Int)) (r:=0) (by
      have:y * -(Q:Int) = -(y*Q):=by grind
      omega) (by omega) (by omega)
     have m1:(x / y).natAbs=Q:=by rw [k1];omega
     have m2:(x % y).natAbs=R:=by rw [k2];omega
     have hs1:=vgq (sg x) (x / y) (by rw [m1];omega) (by rw [k1];omega);have hs2:=vgq (sg x) (x % y) (by rw [m2];omega) (by rw [k2];omega);rw [<-m1,<-m2]
     conv=>simp (maxSteps:=2000000) (disch:=omega) only [go_sem,Nat.reduceAdd,Nat.reduceSub,Nat.reduceMul,Int.reduceToNat,Nat.reduceEqDiff,Nat.reduceBEq,Nat.reduceBneDiff,sy,Int.mul_one]
     refine v1h hs1 ?_;refine rg ?_;refine v1h hs2 ?_;refine rg ?_;refine indk (by kernel_rfl) ?_;refine rg ?_;exact ⟨_,rfl,.one (.refl _)⟩
 . have hx0:0<=x:=by omega
   obtain ⟨k1,k2⟩:=v03 (x:=x) (y:=y) (q:=(Q:Int)) (r:=(R:Int)) (by omega) (by omega) (by omega)
   have m1:(x / y).natAbs=Q:=by rw [k1];omega
   have m2:(x % y).natAbs=R:=by rw [k2];omega
   have hQ0:x=0->Q=0/\R=0:=fun e=>by subst e;simp at hqx hrx;exact ⟨hqx,hrx⟩
   have hs1:=vgq (sg x) (x / y) (by rw [m1];omega) (by rw [k1];omega);have hs2:=vgq (sg x) (x % y) (by rw [m2];omega) (by rw [k2];omega);rw [<-m1,<-m2]
   conv=>simp (maxSteps:=2000000) (disch:=omega) only [go_sem,Nat.reduceAdd,Nat.reduceSub,Nat.reduceMul,Int.reduceToNat,Nat.reduceEqDiff,Nat.reduceBEq,Nat.reduceBneDiff,h1,sy,Int.mul_one]
   refine v1h hs1 ?_;refine rg ?_;refine v1h hs2 ?_;refine rg ?_;refine indk (by kernel_rfl) ?_;refine rg ?_;exact ⟨_,rfl,.one (.refl _)⟩
theorem xuv (x y:Int) (hx:okZ x) (hy:okZ y) :
 yn2 prog 54 [.agg [.raw (.int .i64 (sg x)),.ints .i64 (dig x.natAbs)],.agg [.raw (.int .i64 (sg y)),.ints .i64 (dig y.natAbs)]]
  (.tup [.agg [.raw (.int .i64 (sg (Int.gcd x y:Int))),.ints .i64 (dig (Int.gcd x y:Int).natAbs)],.one (.raw (.int .i64 0))]):=by
 refine yn2.run [] Go.Proofs.Tryz.func54 rfl rfl ?_;simp only [Go.Proofs.Tryz.f54];refine rgR ?_;refine v1h (zcq x hx) ?_;refine rg ?_;refine v1h (zcq y hy) ?_;refine rg ?_;refine v1h (yud _ (by omega)) ?_;refine rg ?_;refine indk (by kernel_rfl) ?_;refine rg ?_;refine vxs [5] (fun p:Nat×Nat=>[(6,.one (.ints .i64 (dig p.1))),(7,.one (.ints .i64 (dig p.2)))])
  (fun p=>Nat.gcd p.1 p.2=Int.gcd x y/\(dig p.1).length<=268435456/\(dig p.2).length<=268435456) (fun p=>p.2) (x.natAbs,y.natAbs) ⟨rfl,hx,hy⟩ ?_ ?_
 . refine rg ?_;exact StLe.weaken (by repeat' first | exact .nil | refine .cons (by first | exact .refl _ | exact .any _) ?_) rfl
 rintro ⟨m,n⟩ ⟨hg,hm,hn⟩;simp only at hg hm hn;refine rg ?_;refine z08 (fun h=>?_) (fun h=>?_)
 . have hn0:n≠0:=fun e=>by rw [e,ylp] at h;simp at h
   refine rg ?_;refine v1h (cDiv m n (by omega) (by omega) hn0) ?_;refine rg ?_;refine ⟨(n,m % n),⟨?_,hn,Nat.le_trans (wxv (Nat.mod_le _ _)) hm⟩,Nat.mod_lt _ (by omega),StLe.weaken (by repeat' first | exact .nil | refine .cons (by first | exact .refl _ | exact .any _) ?_) rfl⟩;dsimp only;rw [<-hg,Nat.gcd_comm n,<-Nat.gcd_rec,Nat.gcd_comm]
 . have hn0:n=0:=zrh.1 (List.eq_nil_of_length_eq_zero (by omega));subst hn0;rw [Nat.gcd_zero_right] at hg
   have e:(Int.gcd x y:Int).natAbs=m:=by rw [<-hg];rfl
   have hs:=vgq 1 (Int.gcd x y:Int) (by rw [e];omega) (.inl ⟨rfl,by omega⟩);rw [e] at hs ⊢;have hc:=z8n true (sg (Int.gcd x y:Int)) (dig m);refine rg ?_;refine v1h (yud _ (by omega)) ?_;refine rg ?_;refine v1h hs ?_;refine rg ?_;refine v1h hc ?_;refine rg1 @bigC.eq_def ?_;exact ⟨_,rfl,.one (.refl _)⟩
end Go.Slot.T
namespace Go.Slot
open Go Go.RowKit
theorem wu64 {n:Int} (h:0<=n/\n<=18446744073709551615):IntKind.u64.wrap n=n:=by
 unfold IntKind.wrap;simp [IntKind.bits,IntKind.signed];omega
theorem ydz {i:Nat} (h:i<=3):(i=0/\(1048576:Int) ^ i=1)\/(i=1/\(1048576:Int) ^ i=1048576)\/(i=2/\(1048576:Int) ^ i=1099511627776)\/(i=3/\(1048576:Int) ^ i=1152921504606846976):=by
 have:i=0\/i=1\/i=2\/i=3:=by omega
 rcases this with rfl | rfl | rfl | rfl
 . exact .inl ⟨rfl,by decide⟩
 . exact .inr (.inl ⟨rfl,by decide⟩)
 . exact .inr (.inr (.inl ⟨rfl,by decide⟩))
 . exact .inr (.inr (.inr ⟨rfl,by decide⟩))
theorem shlB {d:Int} {i:Nat} (hi:i<=3) (h0:0<=d) (h1:d*1048576 ^ i<=18446744073709551615):ishl .u64 d (20*(i:Int))=d*1048576 ^ i:=by
 unfold ishl
 have:(2:Int) ^ (min (20*(i:Int)).toNat IntKind.u64.bits)=1048576 ^ i:=by
  rcases ydz hi with ⟨rfl,e⟩ | ⟨rfl,e⟩ | ⟨rfl,e⟩ | ⟨rfl,e⟩<;>rw [e]<;>decide
 rw [this];exact wu64 ⟨Int.mul_nonneg h0 (Int.le_of_lt (zou i)),h1⟩
theorem orB {u d:Int} {i:Nat} (hi:i<=3) (hu:0<=u/\u<1048576 ^ i) (h0:0<=d) (h1:d*1048576 ^ i+u<=18446744073709551615):ior .u64 u (d*1048576 ^ i)=u+d*1048576 ^ i:=by
 unfold ior
 have key:∀(k:Nat) (x y:Nat),x<2 ^ k->y*2 ^ k+x<2 ^ 64->(BitVec.ofInt 64 (x:Int) |||BitVec.ofInt 64 ((y*2 ^ k:Nat):Int)).toNat=y*2 ^ k+x:=fun k x y hx hy=>by
  rw [BitVec.toNat_or,BitVec.toNat_ofInt,BitVec.toNat_ofInt]
  have e1:(((x:Int)) % ((2 ^ 64:Nat):Int)).toNat=x:=by omega
  have e2:((((y*2 ^ k:Nat)):Int) % ((2 ^ 64:Nat):Int)).toNat=y <<< k:=by rw [Nat.shiftLeft_eq];omega
  rw [e1,e2,Nat.or_comm,<-Nat.shiftLeft_add_eq_or_of_lt hx,Nat.shiftLeft_eq]
 obtain ⟨x,rfl⟩:=Int.eq_ofNat_of_zero_le hu.1;obtain ⟨y,rfl⟩:=Int.eq_ofNat_of_zero_le h0
 have main:∀ k:Nat,(1048576:Int) ^ i=((2 ^ k:Nat):Int)->IntKind.u64.wrap ((BitVec.ofInt IntKind.u64.bits (x:Int) |||BitVec.ofInt IntKind.u64.bits ((y:Int)*1048576 ^ i)).toNat:Int)=(x:Int)+(y:Int)*1048576 ^ i:=fun k e=>by
  rw [e] at h1 hu ⊢
  have h2:(y:Int)*((2 ^ k:Nat):Int)=((y*2 ^ k:Nat):Int):=by rw [Int.natCast_mul]
  rw [h2] at h1 ⊢;have h3:=key k x y (by omega) (by omega);rw [show IntKind.u64.bits=64 from rfl,h3,wu64 (by omega)];omega
 rcases ydz hi with ⟨rfl,e⟩ | ⟨rfl,e⟩ | ⟨rfl,e⟩ | ⟨rfl,e⟩
 . exact main 0 (by rw [e];rfl)
 . exact main 20 (by rw [e];rfl)
 . exact main 40 (by rw [e];rfl)
 . exact main 60 (by rw [e];rfl)
theorem ymf {n:Int} (h:9223372036854775808<=n/\n<=18446744073709551615):IntKind.i64.wrap n=n-18446744073709551616:=by rw [IntKind.wrap_i64];omega
theorem yij {n:Int} (h:-18446744073709551616<=n/\n<0):IntKind.u64.wrap n=n+18446744073709551616:=by
 unfold IntKind.wrap;simp [IntKind.bits,IntKind.signed];omega
attribute [go_sem] wu64
end Go.Slot
namespace Go.Slot.T
open Go Go.RowKit Go.Slot
open Go.Proofs.Tryz (prog)
set_option maxRecDepth 10000
set_option maxHeartbeats 4000000
def inI (z:Int):Prop:=-9223372036854775808<=z/\z<=9223372036854775807
instance (z:Int):Decidable (inI z):=inferInstanceAs (Decidable (_/\_))
theorem cInt (z:Int) (hz:okZ z):yn2 prog 115 [.agg [.raw (.int .i64 (sg z)),.ints .i64 (dig z.natAbs)]]
 (.tup [.one (.raw (.int .i64 (if inI z then z else 0))),.one (.raw (.bool (decide (inI z))))]):=by
 have hs:=wzq z;have hn:=zeb z;have hd:=wo6 z.natAbs
 obtain ⟨r,hr⟩:∃ r,r=if inI z then z else 0:=⟨_,rfl⟩
 obtain ⟨ok,hok⟩:∃ ok,ok=decide (inI z):=⟨_,rfl⟩;rw [<-hr,<-hok]
 have bad:¬inI z->r=0/\ok=false:=fun h=>by rw [hr,hok,if_neg h,decide_eq_false h];exact ⟨rfl,rfl⟩
 have good:inI z->r=z/\ok=true:=fun h=>by rw [hr,hok,if_pos h,decide_eq_true h];exact ⟨rfl,rfl⟩
 clear hr hok;refine yn2.run [] Go.Proofs.Tryz.func115 rfl rfl ?_;simp only [Go.Proofs.Tryz.f115];refine rgR ?_;refine v1h (zcq z hz) ?_;refine rg ?_;refine z08 (fun hbig=>?_) (fun hbig=>?_)
 . refine rg ?_
   obtain ⟨e1,e2⟩:=bad (fun h=>by
    have:(dig z.natAbs).length<=4:=vwv (by unfold inI at h;omega)
    omega)
   exact ⟨_,rfl,by rw [e1,e2];exact .one (.refl _)⟩
 have htop:(dig z.natAbs).length=4->(dig z.natAbs).getD 3 0<=8\/¬inI z:=fun h4=>by
  rcases Int.lt_or_le 8 ((dig z.natAbs).getD 3 0) with h | h
  . right
    intro hi;have h1:=w4d (dig z.natAbs) 3;rw [zvp (by omega),hn] at h1;have h2:=num_nonneg (hd.take 3);unfold inI at hi;omega
  . exact .inl h
 refine rg ?_;refine vxs [1,2,3,17,18] (fun x:Nat×Int=>[(4,.one (.raw (.int .u64 x.2))),(19,.one (.raw (.int .i64 x.1)))])
  (fun x=>x.1<=(dig z.natAbs).length/\x.2=num ((dig z.natAbs).take x.1)/\(x.1=4->(dig z.natAbs).getD 3 0<=8)) (fun x=>(dig z.natAbs).length-x.1) (0,0)
  ⟨Nat.zero_le _,by simp [num],by simp⟩ ?_ ?_
 . refine rg ?_;exact StLe.weaken (by repeat' first | exact .nil | refine .cons (by first | exact .refl _ | exact .any _) ?_) rfl
 rintro ⟨i,u⟩ ⟨hi,hu,h4⟩;simp only at hi hu h4;have hu0:=num_nonneg (hd.take i);have hu1:=xxq (hd.take i);rw [List.length_take,Nat.min_eq_left hi,<-hu] at hu1;rw [<-hu] at hu0;refine rg ?_;refine z08 (fun h=>?_) (fun h=>?_)
 . have hdi:=hd.getD i
   have hi3:i<=3:=by omega
   have hdB:i≠3\/(dig z.natAbs).getD i 0<=8->(dig z.natAbs).getD i 0*1048576 ^ i+u<=18446744073709551615:=fun h8=>by
    rcases ydz hi3 with ⟨h9,e⟩ | ⟨h9,e⟩ | ⟨h9,e⟩ | ⟨h9,e⟩<;>rw [e] at hu1 ⊢<;>omega
   have hdB0:0<=(dig z.natAbs).getD i 0*1048576 ^ i:=Int.mul_nonneg hdi.1 (Int.le_of_lt (zou i))
   have hstep:u+(dig z.natAbs).getD i 0*1048576 ^ i=num ((dig z.natAbs).take (i+1)):=by rw [w4d,hu,Int.mul_comm]
   refine rg ?_;refine z4u (fun h5=>?_) (fun h5=>?_)
   . have h5':=decide_eq_true h5;refine rg1 @h5' ?_;refine z08 (fun h6=>?_) (fun h6=>?_)
     . have i3:i=3:=by omega
       subst i3
       have hni:¬inI z:=by
        rcases htop (by omega) with h7 | h7
        . omega
        . exact h7
       obtain ⟨e1,e2⟩:=bad hni;refine rg ?_;exact ⟨_,rfl,by rw [e1,e2];exact .one (.refl _)⟩
     . have hdB:=hdB (.inr (by omega));refine rg2 @shlB @orB ?_
       have h8:i+1=4->(dig z.natAbs).getD 3 0<=8:=fun e=>by
        have i3:i=3:=by omega
        subst i3;omega
       exact ⟨(i+1,u+(dig z.natAbs).getD i 0*1048576 ^ i),⟨by dsimp only;omega,hstep,h8⟩,by dsimp only;omega,StLe.weaken (by repeat' first | exact .nil | refine .cons (by first | exact .refl _ | exact .any _) ?_) rfl⟩
   . have hdB:=hdB (.inl (by omega));refine rg3 @h5 @shlB @orB ?_;exact ⟨(i+1,u+(dig z.natAbs).getD i 0*1048576 ^ i),⟨by dsimp only;omega,hstep,fun (e:i+1=4)=>by omega⟩,by dsimp only;omega,StLe.weaken (by repeat' first | exact .nil | refine .cons (by first | exact .refl _ | exact .any _) ?_) rfl⟩
 . have hil:i=(dig z.natAbs).length:=by omega
   rw [hil,List.take_length,hn] at hu
   have hub:u<=10376293541461622784:=by
    have:i<=4:=by omega
    rcases Nat.lt_or_ge i 4 with h7 | h7
    . rcases ydz (show i<=3 by omega) with ⟨h9,e⟩ | ⟨h9,e⟩ | ⟨h9,e⟩ | ⟨h9,e⟩<;>rw [e] at hu1<;>omega
    . have h8:=w4d (dig z.natAbs) 3;rw [zvp (by omega),hn] at h8;have h9:=xxq (hd.take 3)
      have h10:((dig z.natAbs).take 3).length=3:=by simp;omega
      rw [h10] at h9
      have:=h4 (by omega)
      have h11:(1048576:Int) ^ 3=1152921504606846976:=by decide
      rw [h11] at h9 h8;omega
   refine rg ?_;refine z4u (fun h5=>?_) (fun h5=>?_)
   . refine rg1 @h5 ?_;refine z08 (fun h6=>?_) (fun h6=>?_)
     . obtain ⟨e1,e2⟩:=good (by unfold inI;omega);refine rg2 @yij @ymf ?_;refine ⟨_,rfl,?_⟩;rw [e1,e2,show 0-u+18446744073709551616-18446744073709551616=z by omega];exact .one (.refl _)
     . obtain ⟨e1,e2⟩:=bad (by unfold inI;omega);refine rg ?_;refine z4u (fun h7=>absurd h7 (by omega)) (fun h7=>?_);refine rg1 @h7 ?_;exact ⟨_,rfl,by rw [e1,e2];exact .one (.refl _)⟩
   . refine rg1 @h5 ?_;refine z4u (fun h7=>?_) (fun h7=>absurd (by omega) h7);refine rg1 @h7 ?_;refine z08 (fun h6=>?_) (fun h6=>?_)
     . obtain ⟨e1,e2⟩:=good (by unfold inI;omega);refine rg ?_;refine ⟨_,rfl,?_⟩;rw [e1,e2,show u=z by omega];exact .one (.refl _)
     . obtain ⟨e1,e2⟩:=bad (by unfold inI;omega);refine rg ?_;exact ⟨_,rfl,by rw [e1,e2];exact .one (.refl _)⟩
theorem cOne (z:Int) (hz:okZ z):yn2 prog 55 [.agg [.raw (.int .i64 (sg z)),.ints .i64 (dig z.natAbs)]] (.one (.raw (.bool (decide (z=1))))):=by
 obtain ⟨r,hr⟩:∃ r,r=decide (z=1):=⟨_,rfl⟩;rw [<-hr];have hc:=cInt z hz;by_cases hi:inI z
 . rw [if_pos hi,decide_eq_true hi] at hc;refine yn2.run [] Go.Proofs.Tryz.func55 rfl rfl ?_;simp only [Go.Proofs.Tryz.f55];refine rgR ?_;refine v1h hc ?_;refine rg ?_;exact ⟨_,rfl,by rw [hr];exact .one (.refl _)⟩
 . rw [if_neg hi,decide_eq_false hi] at hc;refine yn2.run [] Go.Proofs.Tryz.func55 rfl rfl ?_;simp only [Go.Proofs.Tryz.f55];refine rgR ?_;refine v1h hc ?_;refine rg ?_;exact ⟨_,rfl,by rw [hr,decide_eq_false (fun e=>hi (by unfold inI;omega))];exact .one (.refl _)⟩
end Go.Slot.T
namespace Go.Slot
open Go Go.RowKit
theorem yqs (z:Int):sg z*num (dig z.natAbs)=z:=by
 rw [zeb]
 rcases wzq z with ⟨h,e⟩ | ⟨h,e⟩ | ⟨h,e⟩<;>rw [e]<;>omega
def xm9 (s:Int) (L:List Int) (t:Int) (M:List Int):Prop:=xhn s L/\xhn t M/\t=1/\Int.gcd (s*num L) (t*num M)=1
instance (s:Int) (L:List Int) (t:Int) (M:List Int):Decidable (xm9 s L t M):=inferInstanceAs (Decidable (_/\_))
theorem v0e (s:Int) (L:List Int) (t:Int) (M:List Int):xm9 s L t M↔∃ r:Rat,s=sg r.num/\L=dig r.num.natAbs/\t=1/\M=dig r.den:=by
 constructor
 . rintro ⟨h1,h2,h3,h4⟩;obtain ⟨x,rfl,rfl⟩:=(wa6 _ _).1 h1;obtain ⟨y,h5,rfl⟩:=(wa6 _ _).1 h2;rw [h5,yqs,yqs] at h4
   have hy:0<y:=by rcases wzq y with ⟨h,e⟩ | ⟨h,e⟩ | ⟨h,e⟩<;>omega
   refine ⟨⟨x,y.natAbs,by omega,h4⟩,rfl,rfl,h3,rfl⟩
 . rintro ⟨r,rfl,rfl,rfl,rfl⟩;have hd:0<r.den:=Nat.pos_of_ne_zero r.den_nz;have hs:(1:Int)=sg (r.den:Int):=(zgu (by omega)).symm
   have h2:xhn 1 (dig r.den):=by
    have:=xpw (r.den:Int)
    rw [<-hs] at this;exact this
   refine ⟨xpw _,h2,rfl,?_⟩;rw [yqs,yn8,Int.one_mul];exact r.reduced
end Go.Slot
namespace Go.Slot.T
open Go Go.RowKit Go.Slot
open Go.Proofs.Tryz (prog)
set_option maxRecDepth 10000
set_option maxHeartbeats 4000000
theorem yc8 (s:Int) (L:List Int) (t:Int) (M:List Int) (hL:L.length<=268435456) (hM:M.length<=268435456) :
 yn2 prog 26 [.agg [.raw (.int .i64 s),.ints .i64 L,.raw (.int .i64 t),.ints .i64 M]] (.one (.raw (.bool (decide (xm9 s L t M))))):=by
 obtain ⟨r,hr⟩:∃ r,r=decide (xm9 s L t M):=⟨_,rfl⟩;rw [<-hr]
 have bad:¬xm9 s L t M->r=false:=fun h=>by rw [hr,decide_eq_false h]
 by_cases h1:xhn s L
 . obtain ⟨x,rfl,rfl⟩:=(wa6 _ _).1 h1;by_cases h2:xhn t M
   . obtain ⟨y,rfl,rfl⟩:=(wa6 _ _).1 h2;refine yn2.run [] Go.Proofs.Tryz.func26 rfl rfl ?_;simp only [Go.Proofs.Tryz.f26];refine rgR ?_;refine v1h (zcq x hL) ?_;refine rg ?_;refine v1h (zcq y hM) ?_;refine rg ?_;refine z08 (fun h3=>?_) (fun h3=>?_)
     . have e:=bad (fun h=>h3 h.2.2.1);subst e;refine rg ?_;exact ⟨_,rfl,.one (.refl _)⟩
     . have h3:sg y=1:=by omega
       have hgl:(dig (Int.gcd x y:Int).natAbs).length<=268435456:=by
        have:(Int.gcd x y:Int).natAbs<=y.natAbs:=by
         have hy:0<y.natAbs:=by rcases wzq y with ⟨h,e⟩ | ⟨h,e⟩ | ⟨h,e⟩<;>omega
         exact Nat.le_of_dvd hy (Nat.gcd_dvd_right _ _)
        exact Nat.le_trans (wxv this) hM
       have e:r=decide ((Int.gcd x y:Int)=1):=by
        rw [hr];apply decide_eq_decide.2;unfold xm9;rw [yqs,yqs];constructor
        . exact fun h=>by have:=h.2.2.2;omega
        . exact fun h=>⟨h1,h2,h3,by omega⟩
       subst e;refine rg ?_;refine v1h (xuv x y hL hM) ?_;refine rg ?_;refine v1h (cOne _ hgl) ?_;refine rg ?_;exact ⟨_,rfl,.one (.refl _)⟩
   . have e:=bad (fun h=>h2 h.2.1);subst e;refine yn2.run [] Go.Proofs.Tryz.func26 rfl rfl ?_;simp only [Go.Proofs.Tryz.f26];refine rgR ?_;refine v1h (zcq x hL) ?_;refine rg ?_;refine v1h (yr5 t M hM h2) ?_;refine rg ?_;exact ⟨_,rfl,.one (.refl _)⟩
 . have e:=bad (fun h=>h1 h.1);subst e;refine yn2.run [] Go.Proofs.Tryz.func26 rfl rfl ?_;simp only [Go.Proofs.Tryz.f26];refine rgR ?_;refine v1h (yr5 s L hL h1) ?_;refine rg ?_;exact ⟨_,rfl,.one (.refl _)⟩
end Go.Slot.T
