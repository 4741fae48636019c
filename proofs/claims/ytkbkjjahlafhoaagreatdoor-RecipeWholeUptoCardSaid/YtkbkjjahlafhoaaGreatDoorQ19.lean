/- The proof, part Q19: Ce, Cf, Cg, Ld. -/
import Derived.Test.YtkbkjjahlafhoaaGreatDoorQ17
import Derived.Test.YtkbkjjahlafhoaaGreatDoorQ18
namespace Go.Hp.T
open Go Go.RowKit Go.Slot Go.Hp Go.Slot.T
open Go.Proofs.Tryz
attribute [local irreducible] hide RH
set_option maxRecDepth 10000
set_option maxHeartbeats 8000000
variable {Γ:List (Nat×List Cell)}
theorem yf4 (L:List Int) (hL:L.length<=17592186044416):CallsD Γ prog 87 [.one (.ints .i64 L)] (.one (.ints .i64 L)):=by
 by_cases h:L=[]
 . subst h;exact w7v
 . have h0:=List.length_pos_iff.2 h;refine hE [] func87 f87.eq_1 ?_
   repeat' first | refine hF ?_ ?_<;>intros | refine hI ?_
   exact RLe.ofEq rfl
theorem z5r (a b:List Int) (ha:digits a) (na:norm a) (hb:digits b) (nb:norm b) (la:a.length<=1073741824) (_lb:b.length<=1073741824) (hlt:num a<num b) :
 CallsD Γ prog 88 [.one (.ints .i64 a),.one (.ints .i64 b)] (.tup [.one (.ints .i64 (dig (num a / num b).toNat)),.one (.ints .i64 (dig (num a % num b).toNat))]):=by
 have h0:=num_nonneg ha;rw [Int.ediv_eq_zero_of_lt h0 hlt,Int.emod_eq_of_lt h0 hlt,<-zd5 ha na,show (0:Int).toNat=0 from rfl,v6p];have hc:=wg9 (Γ:=Γ) a b ha na hb nb (by omega);rw [show ord (num a) (num b) = -1 by unfold ord;rw [if_pos hlt]] at hc;refine hE [] func88 f88.eq_1 ?_
 repeat' first | refine hF ?_ ?_<;>intros | refine hI ?_ | (with_reducible first | refine wdy (hc) ?_ | refine y04 (hc) ?_ | refine wdy (yf4 a (by omega)) ?_ | refine y04 (yf4 a (by omega)) ?_)<;>refine hgS ?_
 exact .tup (.cons (.one (.zt9 _)) (.cons (.refl _) .nil))
theorem wgn {L:List Int} {n:Int} (hd:digits L) (h:num L=n):Cell.ints .i64 (L.take (x2r L L.length))=.ints .i64 (dig n.toNat):=by
 rw [<-xrd hd h];rfl
theorem xhu (a b:List Int) (ha:digits a) (na:norm a) (hb:digits b) (nb:norm b) (la:a.length<=1073741824) (lb:b.length=1) (hle:num b<=num a) :
 CallsD Γ prog 88 [.one (.ints .i64 a),.one (.ints .i64 b)] (.tup [.one (.ints .i64 (dig (num a / num b).toNat)),.one (.ints .i64 (dig (num a % num b).toNat))]):=by
 have hord:¬ord (num a) (num b)<0:=by unfold ord;rw [if_neg (by omega)];split<;>decide
 have hb0:=hb.getD 0;have hbp:=norm.pos hb nb (fun e=>by rw [e] at lb;cases lb)
 have hbn:num b=b.getD 0 0:=by
  match b,lb with
  | [d],_=>simp [num]
 have hr0:0<=num a % b.getD 0 0:=Int.emod_nonneg _ (by omega);have hr1:num a % b.getD 0 0<b.getD 0 0:=Int.emod_lt_of_pos _ (by omega);have hc:=wg9 (Γ:=Γ) a b ha na hb nb (by omega);have hs:=yel (Γ:=Γ) a (b.getD 0 0) ha (by omega) (by omega);have ht:=xgp (Γ:=Γ) [num a % b.getD 0 0] (by simp);have hd:digits [num a % b.getD 0 0]:=digits.cons (by omega) digits.nil;rw [wgn (n:=num a % num b) hd (by rw [hbn];simp [num]),hbn] at ht;rw [hbn];generalize dig (num a / b.getD 0 0).toNat=X at *;generalize dig (num a % b.getD 0 0).toNat=Y at *;generalize num a % b.getD 0 0=Z at *;generalize ord (num a) (num b)=O at *;refine hE [] func88 f88.eq_1 ?_;refine wdy hc ?_;refine hg ?_;refine y8g (fun h _=>absurd h hord) (fun _ _=>?_);refine hg ?_;refine y8g (fun h _=>?_) (fun h _=>absurd (by omega) h);refine hg ?_;refine wdy hs ?_;refine hg ?_;refine wdy ht ?_;refine hg ?_;exact RLe.ofEq rfl
end Go.Hp.T
namespace Go.Hp
open Go Go.RowKit Go.Slot
theorem StH.short {Γ:List (Nat×List Cell)} {e:List SB} {J:List SV} {η:List SB} {b n:Nat} {k:IntKind} {l:List Int} {T:Option TypeId} (hx:η[b]? = some (.arr (.ints k l) 0 T)):StH Γ e J η J (η.set b (.arr (.ints k (l.take n)) 0 T)):=fun E ρ a w _ hR=>by
 obtain ⟨_,h0⟩:=hR.inv.blk b _ hx
 rcases h0 with ⟨h1,h2⟩ | ⟨bb,vs,q,T2,e1,hh,hr,hT⟩
 . have hl:l=[]:=List.eq_nil_of_length_eq_zero h1;subst hl
   have e2:η.set b (.arr (.ints k (([]:List Int).take n)) 0 T)=η:=by
    apply List.ext_getElem?;intro i;by_cases hib:b=i
    . subst hib;rw [List.getElem?_set_self (List.getElem?_eq_some_iff.1 hx).1,hx,List.take_nil]
    . rw [List.getElem?_set_ne hib]
   rw [e2];exact ⟨ρ,hR⟩
 . refine ⟨ρ,hR.go (Went.write hR.inv hx rfl (by rw [e1];simp [real]) rfl (fun o=>Iff.rfl) rfl rfl rfl rfl (fun _ _=>rfl) (Grow.refl w) (fun o u _ h=>h) (fun m=>⟨⟨trivial,Nat.zero_le _⟩,.inr ⟨bb,vs.take n,vs.drop n++q,T2,e1,by rw [<-List.append_assoc,List.take_append_drop];exact hh,?_,hT⟩⟩))⟩;have hr:RdD (MX E.Mo ρ η) w vs (l.map fun n=>Cell.raw (.int k n)):=hr;show RdD _ w (vs.take n) ((l.take n).map fun n=>Cell.raw (.int k n));rw [List.map_take];exact (hr.take n).keep m.keep
end Go.Hp
namespace Go.Hp.T
open Go Go.RowKit Go.Slot Go.Hp Go.Slot.T
open Go.Proofs.Tryz
set_option maxRecDepth 10000
set_option maxHeartbeats 8000000
variable {Γ:List (Nat×List Cell)}
theorem vks (a b:List Int) (ha:digits a) (hb:digits b) (la:a.length<=1099511627776) (lb:b.length<=1099511627776) :
 xbh Γ prog 145 [] [.one (.dat (.ints .i64 a)),.one (.dat (.ints .i64 b))] [.arr (.ints .i64 (dig (num a*num b).toNat)) 0 none] (.one (.sl 0 1 0 (dig (num a*num b).toNat).length)):=by
 generalize hR:dig (num a*num b).toNat=R;refine hEh [(14,[.own,.clo])] func145 f145.eq_1 ?_;refine wf5 [0,1,18,19] (fun x:Nat×List Int=>[(5,.one (.sl 0 1 0 (a.length+b.length))),(20,.one (.dat (cI x.1)))])
  (fun x=>[.arr (.ints .i64 x.2) 0 none])
  (fun x=>x.1<=a.length/\x.2.length=a.length+b.length/\digits x.2/\yoy x.2 (x.1+b.length)/\num x.2=num (a.take x.1)*num b)
  (fun x=>a.length-x.1) (0,List.replicate ((a.length:Int)+b.length).toNat 0)
  ⟨Nat.zero_le _,by simp;omega,digits.rep _,(yoy.rep _).mono (Nat.zero_le _),by simp [num,wtk]⟩ ?_ ?_
 . have e:((a.length:Int)+b.length).toNat=a.length+b.length:=by omega
   refine hg1 @e ?_;exact sS
 rintro ⟨i,o⟩ ⟨hi,ho,hdo,hz,hn⟩;simp only at hi ho hdo hz hn;refine hg1 @ho ?_;refine y8g (fun h _=>?_) (fun h _=>?_)
 . refine hg1 @ho ?_;have hai:=ha.getD i;refine wf5 [0,1,5,6,7,18,19,20,25,26] (fun x:Nat×List Int×Int=>[(8,.one (.dat (cI x.2.2))),(27,.one (.dat (cI x.1)))])
    (fun x=>[.arr (.ints .i64 x.2.1) 0 none])
    (fun x=>x.1<=b.length/\x.2.1.length=a.length+b.length/\digits x.2.1/\yoy x.2.1 (i+b.length)/\(0<=x.2.2/\x.2.2<=1048575)/\
      num x.2.1+1048576 ^ (i+x.1)*x.2.2=num (a.take i)*num b+1048576 ^ i*(a.getD i 0*num (b.take x.1)))
    (fun x=>b.length-x.1) (0,o,0)
    ⟨Nat.zero_le _,ho,hdo,hz,by simp,by simp [num,hn]⟩ ?_ ?_
   . refine hg1 @ho ?_;exact sS
   rintro ⟨k,o',c⟩ ⟨hk,ho',hdo',hz',hc,hn'⟩;simp only at hk ho' hdo' hz' hc hn';refine hg1 @ho' ?_;refine y8g (fun h1 _=>?_) (fun h1 _=>?_)
   . have hbk:=hb.getD k;have hok:=hdo'.getD (i+k);have hprod:0<=a.getD i 0*b.getD k 0/\a.getD i 0*b.getD k 0<=1048575*1048575:=⟨Int.mul_nonneg hai.1 hbk.1,Int.mul_le_mul hai.2 hbk.2 hbk.1 (by decide)⟩
     have eik:((i:Int)+k).toNat=i+k:=by omega
     refine hg4 @xxg @xmm @eik @ho' ?_;generalize hs:o'.getD (i+k) 0+a.getD i 0*b.getD k 0+c=s at *;have h2:=z9a (o:=o') (i:=i+k) (by omega) s
     refine ⟨(k+1,o'.set (i+k) (s % 1048576),s / 1048576),
      ⟨by dsimp only;omega,by simpa using ho',hdo'.set _ (by omega),hz'.zra _ (by omega),by dsimp only;omega,?_⟩,by dsimp only;omega,sS⟩
     dsimp only;rw [zb2,show i+(k+1)=i+k+1 by omega,h2,<-hs,Int.pow_add];rw [Int.pow_add] at hn'
     grind
   . have hkb:k=b.length:=by omega
     subst hkb
     have eib:((i:Int)+b.length).toNat=i+b.length:=by omega
     have hz0:=hz' (i+b.length) (Nat.le_refl _);refine hg4 @eib @hz0 @Int.zero_add @ho' ?_;refine ⟨(i+1,o'.set (i+b.length) c),⟨by dsimp only;omega,by simpa using ho',hdo'.set _ (by omega),?_,?_⟩,by dsimp only;omega,sS⟩
     . exact (hz'.set c).mono (by dsimp only;omega)
     . dsimp only;rw [yam _ _ _ (by omega),hz0,zb2];rw [List.take_length] at hn'
       grind
 . have hia:i=a.length:=by omega
   subst hia;rw [List.take_length] at hn;refine hg1 @ho ?_;have ht:=xos (Γ:=Γ) o (by omega) 0 none;have e1:=ysz hdo hn;have hle:=xy4 o o.length;rw [ho] at ht e1 hle;refine zue ht ?_;refine hg ?_;have hs:=StH.short (Γ:=Γ) (e:=[]) (J:=[.one (.sl 0 1 0 (x2r o (a.length+b.length)))]) (η:=[.arr (.ints .i64 o) 0 none]) (b:=0) (n:=x2r o (a.length+b.length)) (k:=.i64) (T:=none) rfl;refine hs.trans ?_
   have e2:R.length=x2r o (a.length+b.length):=by rw [<-hR,<-e1,List.length_take,ho,Nat.min_eq_left hle]
   rw [e2,<-hR,<-e1];exact StH.refl
theorem zsu (a b:List Int) (Uf Vf:Nat->List Int) (hUf:∀ s:Nat,Uf s=dig (num a*(s:Int)).toNat) (hVf:∀ s:Nat,Vf s=dig (num b*(s:Int)).toNat) (ha:digits a) (na:norm a) (hb:digits b) (nb:norm b) (la:a.length<=1073741824) (lb:2<=b.length) (hle:num b<=num a) :
 CallsD Γ prog 88 [.one (.ints .i64 a),.one (.ints .i64 b)] (.tup [.one (.ints .i64 (dig (num a / num b).toNat)),.one (.ints .i64 (dig (num a % num b).toNat))]):=by
 have hord:¬ord (num a) (num b)<0:=by unfold ord;rw [if_neg (by omega)];split<;>decide
 have hbp:=norm.pos hb nb (fun e=>by rw [e] at lb;simp at lb);have hlab:b.length<=a.length:=Nat.le_of_not_lt (fun h=>by have:=w2l ha na hb nb h;omega);refine hE [(22,[.join,.own,.clo])] func88 f88.eq_1 ?_;refine wdy (wg9 a b ha na hb nb (by omega)) ?_;refine hg ?_;refine y8g (fun h _=>absurd h hord) (fun _ _=>?_);refine hg ?_;refine y8g (fun h _=>absurd h (by omega)) (fun h _=>?_)
 have htop:1<=b.getD (b.length-1) 0/\b.getD (b.length-1) 0<=1048575:=by
  have h1:=hb.getD (b.length-1);have h2:=nb (fun e=>by rw [e] at lb;simp at lb);omega
 have eb:((b.length:Int)-1).toNat=b.length-1:=by omega
 refine hg ?_;refine wf5 [0,1] (fun s:Nat=>[(8,.one (.dat (cI (s:Int))))]) (fun _=>[])
  (fun s=>1<=s/\s<=1048575) (fun s=>1048576-s) 1
  (by omega) ?_ ?_
 . refine hg ?_;exact sS
 rintro s ⟨hs1,hs2⟩;refine hg1 @eb ?_;have hprod:0<=b.getD (b.length-1) 0*(s:Int)/\b.getD (b.length-1) 0*(s:Int)<=1048575*1048575:=⟨Int.mul_nonneg (by omega) (by omega),Int.mul_le_mul htop.2 (by omega) (by omega) (by decide)⟩;refine hg1 @eb ?_;refine y8g (fun h1 _=>?_) (fun h1 _=>?_)
 . have hs:(s:Int)<524288:=by
    have:=Int.mul_le_mul_of_nonneg_right htop.1 (show (0:Int)<=s by omega)
    omega
   refine hg ?_;exact ⟨2*s,by omega,by omega,by simp only [go_sem,Int.natCast_mul,Int.mul_comm];exact sS⟩
 refine hg ?_;have hds:digits [(s:Int)]:=digits.cons (by omega) digits.nil
 have hns:num [(s:Int)]=s:=by simp [num]
 refine v92 (vks a [(s:Int)] ha hds (by omega) (by simp)) rfl ?_;have hna0:0<=num a*s:=Int.mul_nonneg (by omega) (by omega);have hnb0:0<num b*s:=Int.mul_pos hbp (by omega);rw [hns];have hU:=hUf s;have hV:=hVf s
 have hUd:digits (Uf s):=by rw [hU];exact v8d _
 have hVd:digits (Vf s):=by rw [hV];exact v8d _
 have hUn:num (Uf s)=num a*s:=by rw [hU,wag];omega
 have hVn:num (Vf s)=num b*s:=by rw [hV,wag];omega
 have hVnorm:norm (Vf s):=by rw [hV];exact y1w _
 have hxs:∀ x:Int,0<=x->x<=x*s:=fun x hx=>by
  have:=Int.mul_le_mul_of_nonneg_left (show (1:Int)<=s by omega) hx
  rwa [Int.mul_one] at this
 have haU:a.length<=(Uf s).length:=by
  have e:=congrArg List.length (zd5 ha na);rw [hU,e];refine z6g ?_
  have:=hxs (num a) (by omega)
  omega
 have hbV:b.length<=(Vf s).length:=by
  have e:=congrArg List.length (zd5 hb nb);rw [hV,e];refine z6g ?_
  have:=hxs (num b) (by omega)
  omega
 have hVU:(Vf s).length<=(Uf s).length:=by
  rw [hU,hV];refine z6g ?_
  have:num b*s<=num a*s:=Int.mul_le_mul_of_nonneg_right hle (by omega)
  omega
 have hUl:(Uf s).length<=1073741825:=by
  have h1:(Uf s).length<=a.length+1:=by
   rw [hU];apply yzd;have h1:=wg0 ha;have h2:num a*(s:Int)<=num a*1048576:=Int.mul_le_mul_of_nonneg_left (by omega) (by omega)
   have h3:((1048576 ^ (a.length+1):Nat):Int)=1048576 ^ a.length*1048576:=by rw [Nat.pow_succ];simp
   omega
  omega
 rw [<-hU];refine hg ?_;refine wdy (za5 b [(s:Int)] hb hds (by omega) (by simp)) ?_;rw [hns,<-hV];refine hg ?_;refine y8g (fun h2 _=>absurd h2 (by simp;omega)) (fun h2 _=>?_);obtain ⟨u,hu⟩:∃ u,u=(Uf s)++[0]:=⟨_,rfl⟩;rw [<-hu]
 have hud:digits u:=by rw [hu];exact hUd.append (digits.cons (by decide) digits.nil)
 have hun:num u=num a*s:=by rw [hu,yhq];simp [num,hUn]
 have hul:u.length=(Uf s).length+1:=by rw [hu];simp
 have hVne:(Vf s)≠[]:=fun e=>by
  have:=congrArg List.length e
  simp only [List.length_nil] at this;omega
 have hV0:0<num (Vf s):=norm.pos hVd hVnorm hVne;obtain ⟨m,hm⟩:∃ m,u.length=m+(Vf s).length:=⟨u.length-(Vf s).length,by omega⟩
 have hm1:((u.length:Int)-(Vf s).length).toNat=m:=by omega
 have hult:num u<num (Vf s)*1048576 ^ m:=by
  rw [hun,<-hUn];have h3:=wg0 hUd;have h4:=wl5 hVd hVnorm hVne;have h5:=Int.mul_le_mul_of_nonneg_right h4 (Int.le_of_lt (yxq m))
  have e:(Uf s).length=(Vf s).length-1+m:=by omega
  rw [e,Int.pow_add] at h3;omega
 have hord2:u.length<=1073741826:=by omega
 clear hu h2;refine hg1 @hm1 ?_;refine wf5 [8,9,10,11,12] (fun x:Nat×List Int×List Int=>[(13,.one (.dat (cI (((x.1:Int)-1)))))])
  (fun x=>[.dead,.arr (.ints .i64 x.2.1) 0 none,.arr (.ints .i64 x.2.2) 0 none])
  (fun x=>x.1<=m/\x.2.1.length=u.length/\digits x.2.1/\x.2.2.length=m/\digits x.2.2/\num a*s=num (Vf s)*(1048576 ^ x.1*num (x.2.2.drop x.1))+num x.2.1/\num x.2.1<num (Vf s)*1048576 ^ x.1)
  (fun x=>x.1) (m,u,List.replicate m 0)
  ⟨Nat.le_refl _,rfl,hud,by simp,digits.rep _,by simp [num,hun],hult⟩ ?_ ?_
 . refine hg ?_;exact sS
 rintro ⟨j,w,q⟩ ⟨hj,hw,hwd,hq,hqd,he,hlt⟩;simp only at hj hw hwd hq hqd he hlt;refine hg2 @hw @hq ?_;refine y8g (fun h3 _=>?_) (fun h3 _=>?_)
 . obtain ⟨i,rfl⟩:∃ i,j=i+1:=⟨j-1,by omega⟩
   have ei:((i+1:Nat):Int)-1=(i:Nat):=by omega
   have e1:((i:Int)+(Vf s).length).toNat=i+(Vf s).length:=by omega
   have e2:((i:Int)+(Vf s).length-1).toNat=i+((Vf s).length-1):=by omega
   have e3:(((Vf s).length:Int)-1).toNat=(Vf s).length-1:=by omega
   have d1:=hwd.getD (i+(Vf s).length);have d2:=hwd.getD (i+((Vf s).length-1));have d3:=hVd.getD ((Vf s).length-1);have d4:=hVnorm hVne
   conv=>simp (maxSteps:=2000000) (disch:=omega) only [go_sem,Nat.reduceAdd,Nat.reduceSub,Nat.reduceMul,Int.reduceToNat,Nat.reduceEqDiff,Nat.reduceBEq,Nat.reduceBneDiff,Nat.reduceLT,Int.reduceEq,Int.reduceLT,Int.reduceLE,Int.reduceNeg,Int.reduceAdd,Int.reduceSub,Int.reduceMul,ei,e1,e2,e3,vf3,or20,hw,hq]
   refine hik ?_;obtain ⟨T,hT⟩:∃ T,T=w.getD (i+(Vf s).length) 0*1048576+w.getD (i+((Vf s).length-1)) 0:=⟨_,rfl⟩;obtain ⟨v1,hv1⟩:∃ v1,v1=(Vf s).getD ((Vf s).length-1) 0:=⟨_,rfl⟩;rw [<-hT];rw [<-hv1] at d3 d4
   have hT0:0<=T/\T<1099511627776:=by omega
   conv=>simp (maxSteps:=2000000) (disch:=omega) only [go_sem,Nat.reduceAdd,Nat.reduceSub,Nat.reduceMul,Int.reduceToNat,Nat.reduceEqDiff,Nat.reduceBEq,Nat.reduceBneDiff,Nat.reduceLT,Int.reduceEq,Int.reduceLT,Int.reduceLE,Int.reduceNeg,Int.reduceAdd,Int.reduceSub,Int.reduceMul,ei,e1,e2,e3,<-hv1,hw,hq]
   have hq0:T.tdiv v1=T / v1:=Int.tdiv_eq_ediv_of_nonneg hT0.1;have hm0:T.tmod v1=T % v1:=Int.tmod_eq_emod_of_nonneg hT0.1;have hq1:0<=T / v1:=Int.ediv_nonneg hT0.1 (by omega);have hq2:T / v1<=T:=Int.ediv_le_self _ hT0.1;have hm1':0<=T % v1:=Int.emod_nonneg _ (by omega);have hm2:T % v1<v1:=Int.emod_lt_of_pos _ (by omega);have hdm:=Int.emod_add_mul_ediv T v1;rw [hq0,hm0]
   conv=>simp (maxSteps:=2000000) (disch:=omega) only [go_sem,Nat.reduceAdd,Nat.reduceSub,Nat.reduceMul,Int.reduceToNat,Nat.reduceEqDiff,Nat.reduceBEq,Nat.reduceBneDiff,Nat.reduceLT,Int.reduceEq,Int.reduceLT,Int.reduceLE,Int.reduceNeg,Int.reduceAdd,Int.reduceSub,Int.reduceMul,ei,e1,e2,e3,<-hv1,hw,hq]
   refine hik ?_;refine hg2 @hw @hq ?_
   have hn2:2<=(Vf s).length:=by omega
   have e4:((i:Int)+(Vf s).length-2).toNat=i+((Vf s).length-2):=by omega
   have e5:(((Vf s).length:Int)-2).toNat=(Vf s).length-2:=by omega
   have e6:((i:Int)+(Vf s).length+1).toNat=i+((Vf s).length+1):=by omega
   have hin:i+((Vf s).length+1)<=w.length:=by omega
   have hWlen:((w.drop i).take ((Vf s).length+1)).length=(Vf s).length+1:=by simp;omega
   obtain ⟨u2,hu2⟩:∃ u2,u2=w.getD (i+((Vf s).length-2)) 0:=⟨_,rfl⟩;obtain ⟨v2,hv2⟩:∃ v2,v2=(Vf s).getD ((Vf s).length-2) 0:=⟨_,rfl⟩;have hW:=vwm _ (Vf s).length hn2 hWlen;rw [x9n (by omega),x9n (by omega),x9n (by omega),<-hT,<-hu2] at hW;have hVt:=vvv (Vf s) (Vf s).length hn2 rfl;rw [<-hv1,<-hv2] at hVt;have hWd:digits ((w.drop i).take ((Vf s).length+1)):=(hwd.drop i).take _;have hw0:=wg0 (hWd.take ((Vf s).length-2));have hw1:=num_nonneg (hWd.take ((Vf s).length-2));have hv0:=wg0 (hVd.take ((Vf s).length-2));have hv0':=num_nonneg (hVd.take ((Vf s).length-2));rw [List.length_take,hWlen,Nat.min_eq_left (by omega)] at hw0;rw [List.length_take,Nat.min_eq_left (by omega)] at hv0;have hP:=yxq ((Vf s).length-2);have hW0:=num_nonneg hWd;have du:=hwd.getD (i+((Vf s).length-2));have dv:=hVd.getD ((Vf s).length-2);rw [<-hu2] at du;rw [<-hv2] at dv;obtain ⟨W,hWW⟩:∃ W,W=num ((w.drop i).take ((Vf s).length+1)):=⟨_,rfl⟩;rw [<-hWW] at hW hW0;refine y7q [8,9,10,11,12,13] (fun g:Int=>[(15,.one (.dat (cI (g))))]) (fun _=>[.dead,.arr (.ints .i64 w) 0 none,.arr (.ints .i64 q) 0 none])
    (fun g=>0<=g/\g<=1048575/\W<(g+1)*num (Vf s)/\(g-1)*num (Vf s)<=W) ?_ ?_
   . refine hg2 @hw @hq ?_
     have hinit:W<(T / v1+1)*num (Vf s):=by
      refine vmj hP hW hw0 du.2 hVt hv0' dv.1 ?_ hq1
      have:(T / v1+1)*v1=v1*(T / v1)+v1:=by grind
      omega
     refine wf5 [8,9,10,11,12,13,14] (fun x:Int×Int=>[(15,.one (.dat (cI (x.1)))),(16,.one (.dat (cI (x.2))))]) (fun _=>[.dead,.arr (.ints .i64 w) 0 none,.arr (.ints .i64 q) 0 none])
      (fun x=>0<=x.1/\T=x.1*v1+x.2/\W<(x.1+1)*num (Vf s)/\0<=x.2/\x.1<=T)
      (fun x=>x.1.toNat) (T / v1,T % v1) ⟨hq1,by dsimp only;rw [Int.mul_comm];omega,hinit,hm1',hq2⟩ ?_ ?_
     . refine hg2 @hw @hq ?_;exact sS
     rintro ⟨g,r⟩ ⟨hg0,hgT,hgW,hr0,hgT2⟩;simp only at hg0 hgT hgW hr0 hgT2;have hgv:0<=g*v1:=Int.mul_nonneg hg0 (by omega)
     have hrT:r<=T:=by omega
     refine hg2 @hw @hq ?_
     have hfin:g<=1048575->(1048576<=r\/g*v2<=r*1048576+u2)->(g-1)*num (Vf s)<=W:=fun hg1 hc=>
      wgy hP hW hw1 du.1 hVt hv0 (by omega) dv hV0 hW0 hg0 hg1 hgT hc
     have hdec:W<g*num (Vf s)->0<g/\T=(g-1)*v1+(r+v1)/\W<(g-1+1)*num (Vf s):=fun h=>by
      refine ⟨?_,?_,?_⟩
      . rcases Int.lt_or_le 0 g with h' | h'
        . exact h'
        . have:g=0:=by omega
          subst this;omega
      . rw [hgT];grind
      . rw [show g-1+1=g by omega];exact h
     refine xaf (fun h4 _=>?_) (fun h4 _=>?_)
     . refine hg3 @h4 @hw @hq ?_;refine vpz (fun h5 _=>?_) (fun h5 _=>?_)
       . have hgv2:0<=g*v2/\g*v2<=1048575*1048575:=⟨Int.mul_nonneg hg0 dv.1,Int.mul_le_mul (by omega) dv.2 dv.1 (by decide)⟩
         conv=>simp (maxSteps:=2000000) (disch:=omega) only [go_sem,Nat.reduceAdd,Nat.reduceSub,Nat.reduceMul,Int.reduceToNat,Nat.reduceEqDiff,Nat.reduceBEq,Nat.reduceBneDiff,Nat.reduceLT,Int.reduceEq,Int.reduceLT,Int.reduceLE,Int.reduceNeg,Int.reduceAdd,Int.reduceSub,Int.reduceMul,h4,h5,ei,e1,e4,e5,<-hv2,<-hu2,vf3,or20,hw,hq]
         refine hik ?_;refine hg2 @hw @hq ?_;refine y8g (fun h6 _=>?_) (fun h6 _=>?_)
         . obtain ⟨g1,g2,g3⟩:=hdec (xdr hP hW hw0 hVt hv0' hg0 hgT h6);refine hg4 @e3 hv1.symm @hw @hq ?_;exact ⟨(g-1,r+v1),⟨by dsimp only;omega,g2,g3,by dsimp only;omega,by dsimp only;omega⟩,by dsimp only;omega,sS⟩
         . refine hg2 @hw @hq ?_;exact ⟨g,⟨hg0,by omega,hgW,hfin (by omega) (.inr (by omega))⟩,sS⟩
       . refine hg4 @h4 @h5 @hw @hq ?_;refine hik ?_;refine hg4 @h4 @h5 @hw @hq ?_;exact ⟨g,⟨hg0,by omega,hgW,hfin (by omega) (.inl (by omega))⟩,sS⟩
     . have hWB:W<num (Vf s)*1048576:=by
        have h7:=vr9 w i ((Vf s).length+1) hin;rw [<-hWW] at h7;have h8:=Int.mul_nonneg (Int.le_of_lt (yxq (i+((Vf s).length+1)))) (num_nonneg (hwd.drop (i+((Vf s).length+1))));have h9:=num_nonneg (hwd.take i);rw [Int.pow_succ] at hlt;refine Int.lt_of_mul_lt_mul_left (a:=1048576 ^ i) ?_ (Int.le_of_lt (yxq i))
        have:(1048576:Int) ^ i*(num (Vf s)*1048576)=num (Vf s)*(1048576 ^ i*1048576):=by grind
        omega
       have hlow:W<g*num (Vf s):=by
        have:=Int.mul_le_mul_of_nonneg_right h4 (Int.le_of_lt hV0)
        omega
       obtain ⟨g1,g2,g3⟩:=hdec hlow;refine hg3 @h4 @hw @hq ?_;refine hik ?_;refine hg5 @h4 @e3 hv1.symm @hw @hq ?_;exact ⟨(g-1,r+v1),⟨by dsimp only;omega,g2,g3,by dsimp only;omega,by dsimp only;omega⟩,by dsimp only;omega,sS⟩
   . intro g hgg;have hgg:0<=g/\g<=1048575/\W<(g+1)*num (Vf s)/\(g-1)*num (Vf s)<=W:=hgg;have hg0:=hgg.1;have hg1:=hgg.2.1;have hgW:=hgg.2.2.1;have hgl:=hgg.2.2.2;have hsp:=xbx hgl hgW hV0 hW0 ⟨hg0,hg1⟩;refine hg3 @e6 @hw @hq ?_;rw [show i+((Vf s).length+1)-i=(Vf s).length+1 by omega];have hst:=vo6 (Γ:=Γ) w (Vf s) i ((Vf s).length+1) g none hwd hVd (by omega) hin (by omega) (by omega) ⟨hg0,hg1⟩ (by show (g-1)*num (Vf s)<=num ((w.drop i).take ((Vf s).length+1));rw [<-hWW];exact hgl);rw [show num (win i ((Vf s).length+1) w)=W from hWW.symm] at hst;refine yru [1] hst rfl (by decide) rfl rfl rfl ?_;clear hst;generalize settled W (num (Vf s)) g=G at *;obtain ⟨hG0,hG1,hG2,hG3⟩:=hsp;obtain ⟨D,hD⟩:∃ D,D=fixd ((Vf s).length+1) (W-G*num (Vf s)):=⟨_,rfl⟩
     have hDl:D.length=(Vf s).length+1:=by rw [hD];exact vpc _ _
     have hDd:digits D:=by rw [hD];exact z06 _ _
     have hGV:(G+1)*num (Vf s)=G*num (Vf s)+num (Vf s):=by grind
     have hDn:num D=W-G*num (Vf s):=by
      rw [hD];refine zre _ _ (by omega) ?_;have h7:=wg0 hVd;have h8:=yyb (show (Vf s).length<=(Vf s).length+1 by omega);omega
     rw [<-hD];have hwo:=x2g hin hDl;refine hg3 @hwo @hw @hq ?_;have h7:=vr9 w i ((Vf s).length+1) hin;have h8:=zir w D i ((Vf s).length+1) hin hDl;rw [<-hWW] at h7;rw [hDn] at h8;have h8:=(show num (wout i ((Vf s).length+1) w D)=num (w.take i++D++w.drop (i+((Vf s).length+1))) by unfold wout;rw [<-List.append_assoc]).trans h8;have hA0:=num_nonneg (hwd.take i);have hA1:=wg0 (hwd.take i);rw [List.length_take,Nat.min_eq_left (by omega)] at hA1
     have hX0:num (w.drop (i+((Vf s).length+1)))=0:=by
      have hX:=num_nonneg (hwd.drop (i+((Vf s).length+1)))
      rcases Int.lt_or_le 0 (num (w.drop (i+((Vf s).length+1)))) with h9 | h9
      . have k1:=Int.mul_le_mul_of_nonneg_left (show (1:Int)<=num (w.drop (i+((Vf s).length+1))) by omega) (Int.le_of_lt (yxq (i+((Vf s).length+1))));have k2:=Int.mul_nonneg (Int.le_of_lt (yxq i)) hW0;have k3:=Int.mul_lt_mul_of_pos_right (wg0 hVd) (yxq (i+1))
        have k4:(1048576:Int) ^ (Vf s).length*1048576 ^ (i+1)=1048576 ^ (i+((Vf s).length+1)):=by rw [<-Int.pow_add];congr 1;omega
        omega
      . omega
     rw [hX0,Int.mul_zero,Int.add_zero] at h7 h8;refine ⟨(i,wout i ((Vf s).length+1) w D,q.set i G),⟨by dsimp only;omega,?_,(hwd.take i).append (hDd.append (hwd.drop _)),by simpa using hq,hqd.set i ⟨hG0,hG1⟩,?_,?_⟩,by dsimp only;omega,sS⟩
     . dsimp only;rw [hwo];exact hw
     . dsimp only;rw [xkb G (by omega),h8,he,h7,Int.pow_succ];simp only [num]
       grind
     . dsimp only;rw [h8];have k1:=Int.mul_le_mul_of_nonneg_left (show W-G*num (Vf s)<=num (Vf s)-1 by omega) (Int.le_of_lt (yxq i))
       have k2:(1048576:Int) ^ i*(num (Vf s)-1)=num (Vf s)*1048576 ^ i-1048576 ^ i:=by grind
       omega
 . have h0:j=0:=by omega
   subst h0;simp only [Int.pow_zero,Int.one_mul,List.drop_zero,Int.mul_one] at he hlt;refine hg2 @hw @hq ?_
   first | refine wdy (xgp w (by omega)) ?_ | refine y04 (xgp w (by omega)) ?_
   rw [wgn hwd rfl];have hwn:=num_nonneg hwd;have hqn:=num_nonneg hqd
   have e7:num (dig (num w).toNat)=num w:=by rw [wag];omega
   have hlw:(dig (num w).toNat).length<=w.length:=by rw [<-wae hwd];exact vbx w
   refine hg2 @hw @hq ?_
   first | refine wdy (yel (dig (num w).toNat) s (v8d _) (by omega) (by omega)) ?_ | refine y04 (yel (dig (num w).toNat) s (v8d _) (by omega) (by omega)) ?_
   rw [e7];refine hg2 @hw @hq ?_
   first | refine wdy (xgp q (by omega)) ?_ | refine y04 (xgp q (by omega)) ?_
   rw [wgn hqd rfl];refine hg2 @hw @hq ?_;rw [hVn] at he hlt;obtain ⟨hq',hr'⟩:=zw0 (show (0:Int)<s by omega) hbp he hwn hlt;rw [hq',hr'];exact .tup (.cons (.refl _) (.cons (.refl _) .nil))
theorem v13 (a b:List Int) (ha:digits a) (na:norm a) (hb:digits b) (nb:norm b) (la:a.length<=1073741824) (lb:2<=b.length) (hle:num b<=num a) :
 CallsD Γ prog 88 [.one (.ints .i64 a),.one (.ints .i64 b)] (.tup [.one (.ints .i64 (dig (num a / num b).toNat)),.one (.ints .i64 (dig (num a % num b).toNat))]):=
 zsu a b (fun s=>dig (num a*(s:Int)).toNat) (fun s=>dig (num b*(s:Int)).toNat) (fun _=>rfl) (fun _=>rfl) ha na hb nb la lb hle
end Go.Hp.T
namespace Go.Hp.T
open Go Go.RowKit Go.Slot Go.Hp Go.Slot.T
open Go.Proofs.Tryz
attribute [local irreducible] hide RH
set_option maxRecDepth 10000
set_option maxHeartbeats 8000000
variable {Γ:List (Nat×List Cell)}
abbrev okZ (z:Int):Prop:=(dig z.natAbs).length<=268435456
theorem wbs (z:Int) (hz:okZ z):CallsD Γ prog 45 [.agg [.raw (.int .i64 (sg z)),.ints .i64 (dig z.natAbs)]] (.one (.raw (.bool true))):=by
 have h:=z1w (Γ:=Γ) (sg z) (dig z.natAbs) (by omega);rw [decide_eq_true (xf0 z)] at h;exact h
theorem vpk (s:Int) (L:List Int) (hL:L.length<=268435456) (h:¬ww6 s L):CallsD Γ prog 45 [.agg [.raw (.int .i64 s),.ints .i64 L]] (.one (.raw (.bool false))):=by
 have h':=z1w (Γ:=Γ) s L (by omega);rw [decide_eq_false h] at h';exact h'
theorem yxk (s z:Int) (hz:(dig z.natAbs).length<=1073741824) (h:(s=1/\0<=z)\/(s = -1/\z<=0)\/z=0) :
 CallsD Γ prog 89 [.one (.raw (.int .i64 s)),.one (.ints .i64 (dig z.natAbs))] (.agg [.raw (.int .i64 (sg z)),.ints .i64 (dig z.natAbs)]):=by
 have h':=zfz (Γ:=Γ) s (dig z.natAbs) (by omega);unfold bigA at h';rw [xgc h] at h';exact h'
theorem xh3 (z:Int):CallsD Γ prog 86 [.one (.raw (.bool true)),.agg [.raw (.int .i64 (sg z)),.ints .i64 (dig z.natAbs)]]
 (.tup [.agg [.raw (.int .i64 (sg z)),.ints .i64 (dig z.natAbs)],.one (.raw (.int .i64 0))]):=zsw true (sg z) (dig z.natAbs)
theorem x0q (x y:Int) (hx:okZ x) (hy:okZ y) :
 CallsD Γ prog 117 [.agg [.raw (.int .i64 (sg x)),.ints .i64 (dig x.natAbs)],.agg [.raw (.int .i64 (sg y)),.ints .i64 (dig y.natAbs)]] (.one (.raw (.int .i64 (ord x y)))):=by
 have sx:=yo8 x;have sy:=yo8 y;refine hE [] func117 f117.eq_1 ?_
 first | refine wdy (wbs x hx) ?_ | refine y04 (wbs x hx) ?_
 refine hg ?_
 first | refine wdy (wbs y hy) ?_ | refine y04 (wbs y hy) ?_
 refine hg ?_;refine y8g (fun h _=>?_) (fun h _=>?_)
 . refine hg ?_
   first | refine wdy (hCmp _ _) ?_ | refine y04 (hCmp _ _) ?_
   refine hg ?_;exact (by rw [wkh x y h];exact .one (.refl _))
 . have h:sg x=sg y:=by omega
   have ho:-1<=ord (num (dig x.natAbs)) (num (dig y.natAbs))/\ord (num (dig x.natAbs)) (num (dig y.natAbs))<=1:=by unfold ord;repeat' split<;>omega
   have hm:=zrh x y h
   have ho':-1<=ord x y/\ord x y<=1:=by unfold ord;repeat' split<;>omega
   refine hg ?_
   first | refine wdy (wg9 _ _ (v8d _) (y1w _) (v8d _) (y1w _) (by omega)) ?_ | refine y04 (wg9 _ _ (v8d _) (y1w _) (v8d _) (y1w _) (by omega)) ?_
   refine hg1 @hm ?_;refine hik ?_;refine hg ?_;exact (.one (.refl _))
theorem ygk (x:Int) (hx:okZ x) :
 CallsD Γ prog 96 [.agg [.raw (.int .i64 (sg x)),.ints .i64 (dig x.natAbs)]] (.agg [.raw (.int .i64 (sg (-x))),.ints .i64 (dig (-x).natAbs)]):=by
 have sx:=yo8 x
 have e:(-x).natAbs=x.natAbs:=by omega
 have hs:=yxk (Γ:=Γ) (0-sg x) (-x) (by rw [e];omega) (by omega);rw [e] at hs ⊢;refine hE [] func96 f96.eq_1 ?_
 first | refine wdy (wbs x hx) ?_ | refine y04 (wbs x hx) ?_
 refine hg ?_
 first | refine wdy (yf4 _ (by omega)) ?_ | refine y04 (yf4 _ (by omega)) ?_
 refine hg ?_
 first | refine wdy hs ?_ | refine y04 hs ?_
 refine hg ?_;refine hik ?_;refine hg ?_;exact (.one (.refl _))
theorem cOr (x y:Int):CallsD Γ prog 91 [.one (.ints .i64 [x,y])] (.one (.raw (.int .i64 (if x≠0 then x else y)))):=by
 refine hE [] func91 f91.eq_1 ?_;refine wf5 [3,6,7] (fun i:Nat=>[(8,.one (.dat (cI (i))))]) (fun _=>[])
  (fun i=>i=0\/(i=1/\x=0)\/(i=2/\x=0/\y=0)) (fun i=>2-i) 0 (.inl rfl) ?_ ?_
 . refine hg ?_;exact sS
 rintro i (rfl | ⟨rfl,hx⟩ | ⟨rfl,hx,hy⟩)
 . refine hg ?_;refine y8g (fun _ _=>?_) (fun h _=>absurd (by decide) h);refine hg ?_;refine y8g (fun h1 _=>?_) (fun h1 _=>?_)
   . have h1:x≠0:=h1;refine hg ?_;exact (.one (.refl _))
   . have h1:x=0:=by simpa using h1
     refine hg ?_;exact ⟨1,.inr (.inl ⟨rfl,h1⟩),by decide,sS⟩
 . refine hg ?_;refine y8g (fun _ _=>?_) (fun h _=>absurd (by decide) h);refine hg ?_;refine y8g (fun h1 _=>?_) (fun h1 _=>?_)
   . refine hg ?_;exact (.one (.refl _))
   . have h1:y=0:=by simpa using h1
     refine hg ?_;exact ⟨2,.inr (.inr ⟨rfl,hx,h1⟩),by decide,sS⟩
 . refine hg ?_;refine y8g (fun h _=>absurd h (by decide)) (fun _ _=>?_);refine hg ?_;exact (by rw [hy];exact .one (.refl _))
theorem z3t (L M:List Int) (lL:L.length<=1073741824) (_lM:M.length<=1073741824) :
 CallsD Γ prog 165 [.one (.ints .i64 L),.one (.ints .i64 M)] (.one (.raw (.bool (decide (L=M))))):=by
 refine hE [] func165 f165.eq_1 ?_;refine y8g (fun h _=>?_) (fun h _=>?_)
 . refine hg ?_;exact (by rw [decide_eq_false (fun e=>h (by rw [e]))];exact .one (.refl _))
 . have hl:L.length=M.length:=by omega
   refine hg ?_;refine wf5 [0,1,11,12] (fun i:Nat=>[(13,.one (.dat (cI (i))))]) (fun _=>[])
    (fun i=>i<=L.length/\L.take i=M.take i) (fun i=>L.length-i) 0 ⟨Nat.zero_le _,rfl⟩ ?_ ?_
   . refine hg ?_;exact sS
   rintro i ⟨hi,he⟩;refine hg ?_;refine y8g (fun h1 _=>?_) (fun h1 _=>?_)
   . have hgg:∀(l:List Int),i<l.length->l.take (i+1)=l.take i++[l.getD i 0]:=fun l h=>by
      rw [List.take_add_one];simp [h]
     refine hg ?_;refine hik ?_;refine hg ?_;refine y8g (fun h2 _=>?_) (fun h2 _=>?_)
     . refine hg ?_;exact (by rw [decide_eq_false (fun e=>h2 (by rw [e]))];exact .one (.refl _))
     . have h2:L.getD i 0=M.getD i 0:=by omega
       refine hg ?_;refine ⟨i+1,⟨by omega,?_⟩,by omega,sS⟩;rw [hgg L (by omega),hgg M (by omega),he,h2]
   . have hi:i=L.length:=by omega
     subst hi;rw [List.take_length,hl,List.take_length] at he;refine hg ?_;exact (by rw [decide_eq_true he];exact .one (.refl _))
theorem zl6 (s:Int) (L:List Int) (s':Int) (M:List Int) (lL:L.length<=1073741824) (lM:M.length<=1073741824) :
 CallsD Γ prog 118 [.agg [.raw (.int .i64 s),.ints .i64 L],.agg [.raw (.int .i64 s'),.ints .i64 M]] (.one (.raw (.bool (decide (s=s'/\L=M))))):=by
 obtain ⟨r,hr⟩:∃ r,r=decide (s=s'/\L=M):=⟨_,rfl⟩;rw [<-hr];refine hE [] func118 f118.eq_1 ?_;refine vpz (fun h _=>?_) (fun h _=>?_)
 . refine hg1 @h ?_
   first | refine wdy (z3t L M lL lM) ?_ | refine y04 (z3t L M lL lM) ?_
   refine hg1 @h ?_;exact (by rw [hr,show decide (s=s'/\L=M)=decide (L=M) from decide_eq_decide.2 ⟨fun e=>e.2,fun e=>⟨h,e⟩⟩];exact .one (.refl _))
 . refine hg1 @h ?_;exact (by rw [hr,decide_eq_false (fun e=>h e.1)];exact .one (.refl _))
theorem v4s (x y:Int) (hx:okZ x) (hy:okZ y) :
 CallsD Γ prog 48 [.agg [.raw (.int .i64 (sg x)),.ints .i64 (dig x.natAbs)],.agg [.raw (.int .i64 (sg y)),.ints .i64 (dig y.natAbs)]]
  (.tup [.agg [.raw (.int .i64 (sg (x+y))),.ints .i64 (dig (x+y).natAbs)],.one (.raw (.int .i64 0))]):=by
 have sx:=yo8 x;have sy:=yo8 y;have hl:=za6 x y;have ex:=zyb x;have ey:=zyb y
 have hp:sg x*sg y=1\/sg x*sg y=0\/sg x*sg y = -1:=by
  rcases sx with ⟨_,e⟩ | ⟨_,e⟩ | ⟨_,e⟩<;>rcases sy with ⟨_,e'⟩ | ⟨_,e'⟩ | ⟨_,e'⟩<;>rw [e,e']<;>decide
 refine hE [] func48 f48.eq_1 ?_
 first | refine wdy (wbs x hx) ?_ | refine y04 (wbs x hx) ?_
 refine hg ?_
 first | refine wdy (wbs y hy) ?_ | refine y04 (wbs y hy) ?_
 refine hg ?_;refine y8g (fun h _=>?_) (fun h _=>?_)
 . have hs:(0<=x/\0<=y)\/(x<=0/\y<=0):=by
    rcases sx with ⟨h1,e⟩ | ⟨h1,e⟩ | ⟨h1,e⟩<;>rcases sy with ⟨h2,e'⟩ | ⟨h2,e'⟩ | ⟨h2,e'⟩<;>rw [e,e'] at h<;>first | omega | exact absurd h (by decide)
   refine hg ?_
   first | refine wdy (cOr _ _) ?_ | refine y04 (cOr _ _) ?_
   refine hg ?_
   first | refine wdy (w6d _ _ (v8d _) (v8d _) (by omega) (by omega)) ?_ | refine y04 (w6d _ _ (v8d _) (v8d _) (by omega) (by omega)) ?_
   rw [ex,ey,show ((x.natAbs:Int)+y.natAbs).toNat=(x+y).natAbs by omega];refine hg ?_
   first | refine wdy (yxk _ (x+y) (by omega) (by split<;>omega)) ?_ | refine y04 (yxk _ (x+y) (by omega) (by split<;>omega)) ?_
   refine hg ?_
   first | refine wdy (xh3 (x+y)) ?_ | refine y04 (xh3 (x+y)) ?_
   refine hg ?_;refine hik ?_;refine hg ?_;exact (.one (.refl _))
 . have hs:(x<0/\0<y)\/(0<x/\y<0):=by
    rcases sx with ⟨h1,e⟩ | ⟨h1,e⟩ | ⟨h1,e⟩<;>rcases sy with ⟨h2,e'⟩ | ⟨h2,e'⟩ | ⟨h2,e'⟩<;>rw [e,e'] at h<;>first | omega | exact absurd (by decide) h
   refine hg ?_
   first | refine wdy (wg9 _ _ (v8d _) (y1w _) (v8d _) (y1w _) (by omega)) ?_ | refine y04 (wg9 _ _ (v8d _) (y1w _) (v8d _) (y1w _) (by omega)) ?_
   refine hg ?_;refine y8g (fun h1 _=>?_) (fun h1 _=>?_)
   . have h2:x.natAbs<y.natAbs:=by
      rw [ex,ey] at h1;unfold ord at h1;repeat' split at h1<;>omega
     refine hg ?_
     first | refine wdy (v3g _ _ (v8d _) (v8d _) (by omega) (z6g (by omega)) (by omega)) ?_ | refine y04 (v3g _ _ (v8d _) (v8d _) (by omega) (z6g (by omega)) (by omega)) ?_
     rw [ex,ey,show ((y.natAbs:Int)-x.natAbs).toNat=(x+y).natAbs by omega];refine hg ?_
     first | refine wdy (yxk _ (x+y) (by omega) (by omega)) ?_ | refine y04 (yxk _ (x+y) (by omega) (by omega)) ?_
     refine hg ?_
     first | refine wdy (xh3 (x+y)) ?_ | refine y04 (xh3 (x+y)) ?_
     refine hg ?_;refine hik ?_;refine hg ?_;exact (.one (.refl _))
   . have h2:y.natAbs<=x.natAbs:=by
      rw [ex,ey] at h1;unfold ord at h1;repeat' split at h1<;>omega
     refine hg ?_
     first | refine wdy (v3g _ _ (v8d _) (v8d _) (by omega) (z6g (by omega)) (by omega)) ?_ | refine y04 (v3g _ _ (v8d _) (v8d _) (by omega) (z6g (by omega)) (by omega)) ?_
     rw [ex,ey,show ((x.natAbs:Int)-y.natAbs).toNat=(x+y).natAbs by omega];refine hg ?_
     first | refine wdy (yxk _ (x+y) (by omega) (by omega)) ?_ | refine y04 (yxk _ (x+y) (by omega) (by omega)) ?_
     refine hg ?_
     first | refine wdy (xh3 (x+y)) ?_ | refine y04 (xh3 (x+y)) ?_
     refine hg ?_;refine hik ?_;refine hg ?_;exact (.one (.refl _))
theorem vh0 (x y:Int):sg x*sg y=sg (x*y):=by
 rcases yo8 x with ⟨h1,e⟩ | ⟨h1,e⟩ | ⟨h1,e⟩<;>rcases yo8 y with ⟨h2,e'⟩ | ⟨h2,e'⟩ | ⟨h2,e'⟩<;>rw [e,e']
 . rw [vge (Int.mul_pos_of_neg_of_neg h1 h2)];rfl
 . subst h2;simp [w9b]
 . rw [zrk (Int.mul_neg_of_neg_of_pos h1 h2)];rfl
 . subst h1;simp [w9b]
 . subst h1;simp [w9b]
 . subst h1;simp [w9b]
 . rw [zrk (Int.mul_neg_of_pos_of_neg h1 h2)];rfl
 . subst h2;simp [w9b]
 . rw [vge (Int.mul_pos h1 h2)];rfl
theorem vky (z:Int):(sg z=1/\0<=z)\/(sg z = -1/\z<=0)\/z=0:=by
 rcases yo8 z with ⟨h,e⟩ | ⟨h,e⟩ | ⟨h,e⟩<;>omega
theorem xu9 (x y:Int) (hx:okZ x) (hy:okZ y) :
 CallsD Γ prog 95 [.agg [.raw (.int .i64 (sg x)),.ints .i64 (dig x.natAbs)],.agg [.raw (.int .i64 (sg y)),.ints .i64 (dig y.natAbs)]]
  (.tup [.agg [.raw (.int .i64 (sg (x*y))),.ints .i64 (dig (x*y).natAbs)],.one (.raw (.int .i64 0))]):=by
 have hl:=wp3 x y;have ex:=zyb x;have ey:=zyb y;have hs:=vh0 x y;have hs1:=yo8 (x*y);refine hE [] func95 f95.eq_1 ?_
 first | refine wdy (wbs x hx) ?_ | refine y04 (wbs x hx) ?_
 refine hg ?_
 first | refine wdy (wbs y hy) ?_ | refine y04 (wbs y hy) ?_
 refine hg ?_
 first | refine wdy (za5 _ _ (v8d _) (v8d _) (by omega) (by omega)) ?_ | refine y04 (za5 _ _ (v8d _) (v8d _) (by omega) (by omega)) ?_
 rw [ex,ey,show ((x.natAbs:Int)*y.natAbs).toNat=(x*y).natAbs by rw [Int.natAbs_mul,<-Int.natCast_mul];rfl];refine hg1 @hs ?_
 first | refine wdy (yxk _ (x*y) (by omega) (vky _)) ?_ | refine y04 (yxk _ (x*y) (by omega) (vky _)) ?_
 refine hg ?_
 first | refine wdy (xh3 (x*y)) ?_ | refine y04 (xh3 (x*y)) ?_
 refine hg ?_;refine hik ?_;refine hg ?_;exact (.one (.refl _))
end Go.Hp.T
namespace Go.Slot
open Go Go.RowKit
theorem wu64 {n:Int} (h:0<=n/\n<=18446744073709551615):IntKind.u64.wrap n=n:=by
 unfold IntKind.wrap;simp [IntKind.bits,IntKind.signed];omega
theorem wy7 {i:Nat} (h:i<=3):(i=0/\(1048576:Int) ^ i=1)\/(i=1/\(1048576:Int) ^ i=1048576)\/(i=2/\(1048576:Int) ^ i=1099511627776)\/(i=3/\(1048576:Int) ^ i=1152921504606846976):=by
 have:i=0\/i=1\/i=2\/i=3:=by omega
 rcases this with rfl | rfl | rfl | rfl
 . exact .inl ⟨rfl,by decide⟩
 . exact .inr (.inl ⟨rfl,by decide⟩)
 . exact .inr (.inr (.inl ⟨rfl,by decide⟩))
 . exact .inr (.inr (.inr ⟨rfl,by decide⟩))
theorem shlB {d:Int} {i:Nat} (hi:i<=3) (h0:0<=d) (h1:d*1048576 ^ i<=18446744073709551615):ishl .u64 d (20*(i:Int))=d*1048576 ^ i:=by
 unfold ishl
 have:(2:Int) ^ (min (20*(i:Int)).toNat IntKind.u64.bits)=1048576 ^ i:=by
  rcases wy7 hi with ⟨rfl,e⟩ | ⟨rfl,e⟩ | ⟨rfl,e⟩ | ⟨rfl,e⟩<;>rw [e]<;>decide
 rw [this];exact wu64 ⟨Int.mul_nonneg h0 (Int.le_of_lt (yxq i)),h1⟩
theorem orB {u d:Int} {i:Nat} (hi:i<=3) (hu:0<=u/\u<1048576 ^ i) (h0:0<=d) (h1:d*1048576 ^ i+u<=18446744073709551615):ior .u64 u (d*1048576 ^ i)=u+d*1048576 ^ i:=by
 unfold ior
 have key:∀(k:Nat) (x y:Nat),x<2 ^ k->y*2 ^ k+x<2 ^ 64->(BitVec.ofInt 64 (x:Int) |||BitVec.ofInt 64 ((y*2 ^ k:Nat):Int)).toNat=y*2 ^ k+x:=fun k x y hx hy=>by
  rw [BitVec.toNat_or,BitVec.toNat_ofInt,BitVec.toNat_ofInt]
  have e1:(((x:Int)) % ((2 ^ 64:Nat):Int)).toNat=x:=by omega
  have e2:((((y*2 ^ k:Nat)):Int) % ((2 ^ 64:Nat):Int)).toNat=y <<< k:=by rw [Nat.shiftLeft_eq];omega
  rw [e1,e2,Nat.or_comm,<-Nat.shiftLeft_add_eq_or_of_lt hx,Nat.shiftLeft_eq]
 obtain ⟨x,rfl⟩:=Int.eq_ofNat_of_zero_le hu.1;obtain ⟨y,rfl⟩:=Int.eq_ofNat_of_zero_le h0
 have main:∀ k:Nat,(1048576:Int) ^ i=((2 ^ k:Nat):Int)->IntKind.u64.wrap ((BitVec.ofInt IntKind.u64.bits (x:Int) |||BitVec.ofInt IntKind.u64.bits ((y:Int)*1048576 ^ i)).toNat:Int)=(x:Int)+(y:Int)*1048576 ^ i:=fun k e=>by
  rw [e] at h1 hu ⊢
  have h2:(y:Int)*((2 ^ k:Nat):Int)=((y*2 ^ k:Nat):Int):=by rw [Int.natCast_mul]
  rw [h2] at h1 ⊢;have h3:=key k x y (by omega) (by omega);rw [show IntKind.u64.bits=64 from rfl,h3,wu64 (by omega)];omega
 rcases wy7 hi with ⟨rfl,e⟩ | ⟨rfl,e⟩ | ⟨rfl,e⟩ | ⟨rfl,e⟩
 . exact main 0 (by rw [e];rfl)
 . exact main 20 (by rw [e];rfl)
 . exact main 40 (by rw [e];rfl)
 . exact main 60 (by rw [e];rfl)
theorem v4b {n:Int} (h:9223372036854775808<=n/\n<=18446744073709551615):IntKind.i64.wrap n=n-18446744073709551616:=by rw [IntKind.wrap_i64];omega
theorem zlx {n:Int} (h:-18446744073709551616<=n/\n<0):IntKind.u64.wrap n=n+18446744073709551616:=by
 unfold IntKind.wrap;simp [IntKind.bits,IntKind.signed];omega
attribute [go_sem] wu64
end Go.Slot
