/- The proof, part Z24: Cc, Cd, Ce, Cf. -/
import Derived.Test.YtocdljjhobaabaaGreatDoorZ23
namespace Go.Hp.T
open Go Go.RowKit Go.Slot Go.Hp Go.Slot.T
open Go.Proofs.Tryz (prog)
attribute [local irreducible] hide RH
set_option maxRecDepth 10000
set_option maxHeartbeats 4000000
variable {Γ:List (Nat×List Cell)}
theorem wa9 (a:List Int) (d:Int) (ha:digits a) (la:a.length<=1099511627776) (hd:1<=d/\d<=1048576) :
 CallsD Γ prog 169 [.one (.ints .i64 a),.one (.raw (.int .i64 d))] (.tup [.one (.ints .i64 (dig (num a / d).toNat)),.one (.raw (.int .i64 (num a % d)))]):=by
 generalize hR:dig (num a / d).toNat=R;generalize hS:num a % d=S;refine CallsD.run [] Go.Proofs.Tryz.func169 rfl rfl rfl ?_;simp only [Go.Proofs.Tryz.f169];refine hgR ?_;refine yxw [0,1] (fun x:Nat×List Int×Int=>[(6,.one (.sl 0 1 0 a.length)),(7,.one (.dat (cI x.2.2))),(8,.one (.dat (cI ((x.1:Int)-1))))])
  (fun x=>[.arr (.ints .i64 x.2.1) 0 none])
  (fun x=>x.1<=a.length/\x.2.1.length=a.length/\digits x.2.1/\(0<=x.2.2/\x.2.2<d)/\num (a.drop x.1)=d*num (x.2.1.drop x.1)+x.2.2)
  (fun x=>x.1) (a.length,List.replicate (a.length:Int).toNat 0,0)
  ⟨Nat.le_refl _,by simp,digits.rep _,by simp;omega,by simp [num]⟩ ?_ ?_
 . refine hg ?_;exact StH.same svl rfl
 rintro ⟨n,o,r⟩ ⟨hn,ho,hdo,hr,he⟩;simp only at hn ho hdo hr he;refine hg1 @ho ?_;refine xw4 (fun h _=>?_) (fun h _=>?_)
 . obtain ⟨i,rfl⟩:∃ i,n=i+1:=⟨n-1,by omega⟩
   have ei:((i+1:Nat):Int)-1=(i:Nat):=by omega
   have hai:=ha.getD i
   conv=>simp (maxSteps:=2000000) (disch:=omega) only [go_sem,Nat.reduceAdd,Nat.reduceSub,Nat.reduceMul,Int.reduceToNat,Nat.reduceEqDiff,Nat.reduceBEq,Nat.reduceBneDiff,Nat.reduceLT,Int.reduceEq,Int.reduceLT,Int.reduceLE,Int.reduceNeg,Int.reduceAdd,Int.reduceSub,Int.reduceMul,ei,ycy,or20,ho]
   generalize ht:r*1048576+a.getD i 0=t at *
   have ht0:0<=t:=by omega
   have htd:t<d*1048576:=by
    have:r*1048576<=(d-1)*1048576:=Int.mul_le_mul_of_nonneg_right (by omega) (by decide)
    omega
   have hq:t.tdiv d=t / d:=Int.tdiv_eq_ediv_of_nonneg ht0;have hm:t.tmod d=t % d:=Int.tmod_eq_emod_of_nonneg ht0;have hq0:0<=t / d:=Int.ediv_nonneg ht0 (by omega);have hq1:t / d<1048576:=Int.ediv_lt_of_lt_mul (by omega) (by rw [Int.mul_comm];exact htd);have hm0:0<=t % d:=Int.emod_nonneg _ (by omega);have hm1:t % d<d:=Int.emod_lt_of_pos _ (by omega);have hdm:=Int.emod_add_mul_ediv t d;rw [hq,hm];refine hg1 @ho ?_;refine ⟨(i,o.set i (t / d),t % d),⟨by dsimp only;omega,by simpa using ho,hdo.set _ (by omega),by dsimp only;omega,?_⟩,by dsimp only;omega,StH.same svl rfl⟩;dsimp only;rw [vj3 _ (by omega),z8f,he];simp only [num]
   grind
 . have h0:n=0:=by omega
   subst h0;simp only [List.drop_zero] at he
   have hq:num a / d=num o:=by
    rw [he,Int.add_comm,Int.add_mul_ediv_left _ _ (by omega),Int.ediv_eq_zero_of_lt hr.1 hr.2];omega
   have hm:num a % d=r:=by
    rw [he,Int.add_comm,Int.add_mul_emod_self_left,Int.emod_eq_of_lt hr.1 hr.2]
   refine hg1 @ho ?_;refine v47 (xlh o (by omega)) ?_;rw [yi0 hdo hq.symm,hR];rw [hS] at hm;subst hm;refine hg ?_;exact RLe.ofEq rfl
theorem hNaN (x:Int):CallsD Γ prog 181 [.one (.raw (.int .i64 x))] (.one (.raw (.bool false))):=by
 refine CallsD.run [] Go.Proofs.Tryz.func181 rfl rfl rfl ?_;simp only [Go.Proofs.Tryz.f181];refine hgR ?_
 repeat' ((first | refine hfk ?_ ?_<;>intros | refine hik ?_)<;>refine hgS ?_)
 all_goals refine lfE ?_;first | exact trivial | rfl
theorem hCmp (x y:Int):CallsD Γ prog 175 [.one (.raw (.int .i64 x)),.one (.raw (.int .i64 y))] (.one (.raw (.int .i64 (ord x y)))):=by
 refine CallsD.run [] Go.Proofs.Tryz.func175 rfl rfl rfl ?_;simp only [Go.Proofs.Tryz.f175];refine hgR ?_
 repeat' ((first | refine hfk ?_ ?_<;>intros | refine hik ?_ | with_reducible first | refine v47 (hNaN x) ?_ | refine vrf (hNaN x) ?_ | refine v47 (hNaN y) ?_ | refine vrf (hNaN y) ?_)<;>refine hgS ?_)
 all_goals refine lf1 @ord.eq_def ?_;first | exact trivial | rfl
theorem zla (a b:List Int) (ha:digits a) (na:norm a) (hb:digits b) (nb:norm b) (la:a.length<=1099511627776) :
 CallsD Γ prog 168 [.one (.ints .i64 a),.one (.ints .i64 b)] (.one (.raw (.int .i64 (ord (num a) (num b))))):=by
 generalize hR:ord (num a) (num b)=R;refine CallsD.run [] Go.Proofs.Tryz.func168 rfl rfl rfl ?_;simp only [Go.Proofs.Tryz.f168];refine hgR ?_;refine xw4 (fun h _=>?_) (fun h _=>?_)
 . have:ord (a.length:Int) b.length=R:=by
    rw [<-hR];unfold ord
    rcases Nat.lt_or_gt_of_ne (fun e:a.length=b.length=>h (by omega)) with h1 | h1
    . have:=vrj ha na hb nb h1
      rw [if_pos (by omega),if_pos this]
    . have:=vrj hb nb ha na h1
      rw [if_neg (by omega),if_pos (by omega),if_neg (by omega),if_pos this]
   have hc:=hCmp (Γ:=Γ) (a.length:Int) b.length;rw [this] at hc;refine hg ?_;refine v47 hc ?_;refine hg ?_;exact RLe.ofEq rfl
 . have hl:a.length=b.length:=by omega
   refine hg ?_;refine yxw [0,1] (fun n:Nat=>[(5,.one (.dat (cI ((n:Int)-1))))]) (fun _=>[])
    (fun n=>n<=a.length/\a.drop n=b.drop n) (fun n=>n) a.length
    ⟨Nat.le_refl _,by rw [List.drop_length,hl,List.drop_length]⟩ ?_ ?_
   . refine hg ?_;exact StH.same svl rfl
   rintro n ⟨hn,he⟩;refine hg ?_;refine xw4 (fun h1 _=>?_) (fun h1 _=>?_)
   . obtain ⟨i,rfl⟩:∃ i,n=i+1:=⟨n-1,by omega⟩
     have ei:((i+1:Nat):Int)-1=(i:Nat):=by omega
     have hc:=hCmp (Γ:=Γ) (a.getD i 0) (b.getD i 0);by_cases h2:a.getD i 0=b.getD i 0
     . have hne:a.drop i=b.drop i:=by
        have e1:∀(l:List Int),i<l.length->l.drop i=l.getD i 0::l.drop (i+1):=fun l hi=>by
         rw [List.drop_eq_getElem_cons hi]
         congr 1
         simp [hi]
        rw [e1 a (by omega),e1 b (by omega),he,h2]
       clear he hR;refine hg1 @ei ?_
       repeat' ((first | refine hfk ?_ ?_<;>intros | refine hik ?_)<;>refine hgS ?_)
       all_goals first
        | (exfalso;omega)
        | exact ⟨i,⟨by omega,hne⟩,by omega,StH.same svl rfl⟩
     . have:ord (a.getD i 0) (b.getD i 0)=R:=by
        rw [<-hR];unfold ord
        rcases Int.lt_or_gt_of_ne h2 with h3 | h3
        . have:=zu6 ha hb hl i (by omega) he h3
          rw [if_pos h3,if_pos this]
        . have:=zu6 hb ha hl.symm i (by omega) he.symm h3
          rw [if_neg (by omega),if_pos (by omega),if_neg (by omega),if_pos this]
       rw [this] at hc;clear he hR this;refine hg1 @ei ?_
       repeat' ((first | refine hfk ?_ ?_<;>intros | refine hik ?_ | with_reducible first | refine v47 (hc) ?_ | refine vrf (hc) ?_)<;>refine hgS ?_)
       all_goals first
        | (exfalso;omega)
        | exact RLe.ofEq rfl
   . have h0:n=0:=by omega
     subst h0
     have he:a=b:=by simpa using he
     have:R=0:=by rw [<-hR,he];simp [ord]
     subst this;clear hR;refine hg ?_;exact RLe.ofEq rfl
def settled (u v g:Int):Int:=if u<g*v then g-1 else g
def win (i k:Nat) (w:List Int):List Int:=(w.drop i).take k
def wout (i k:Nat) (w o:List Int):List Int:=w.take i++(o++w.drop (i+k))
theorem ys9 {i k:Nat} {w:List Int} (h:i+k<=w.length):(win i k w).length=k:=by unfold win;rw [List.length_take,List.length_drop];omega
theorem vi4 {i k:Nat} {w o:List Int} (h:i+k<=w.length) (ho:o.length=k):(wout i k w o).length=w.length:=by
 unfold wout;simp only [List.length_append,List.length_take,List.length_drop];omega
theorem ypc {i k:Nat} {w:List Int}:wout i k w (win i k w)=w:=by
 unfold wout win;rw [<-List.drop_drop,List.take_append_drop,List.take_append_drop]
theorem vus {i k j:Nat} {w o:List Int} (h:i+k<=w.length) (ho:o.length=k) (hj:j<k):(wout i k w o).getD (i+j) 0=o.getD j 0:=by
 unfold wout;rw [List.getD_eq_getElem?_getD,List.getD_eq_getElem?_getD,List.getElem?_append_right (by rw [List.length_take];omega),List.length_take,show i+j-min i w.length=j by omega,List.getElem?_append_left (by omega)]
theorem x4u {i k j:Nat} {w o:List Int} {x:Int} (h:i+k<=w.length) (ho:o.length=k) (hj:j<k):(wout i k w o).set (i+j) x=wout i k w (o.set j x):=by
 unfold wout;rw [List.set_append_right _ _ (by rw [List.length_take];omega),List.length_take,show i+j-min i w.length=j by omega,List.set_append_left _ _ (by omega)]
theorem yeu (w v:List Int) (i0 k:Nat) (g:Int) (T:Option TypeId) (hw:digits w) (hv:digits v) (hk:k<=1099511627776) (hik:i0+k<=w.length) (hl:v.length<=k) (_hw2:w.length<=1099511627776) (hgg:0<=g/\g<=1048575)
 (h1:(g-1)*num v<=num (win i0 k w)) :
 xgj Γ prog 170 [.arr (.ints .i64 w) 0 T] [.one (.sl 0 1 i0 k),.one (.dat (.ints .i64 v)),.one (.dat (cI g))]
  [.arr (.ints .i64 (wout i0 k w (fixd k (num (win i0 k w)-settled (num (win i0 k w)) (num v) g*num v)))) 0 T] (.one (.dat (cI (settled (num (win i0 k w)) (num v) g)))):=by
 have hwl:=ys9 hik;have hu:digits (win i0 k w):=(hw.drop i0).take k;have hs0:wout i0 k w (win i0 k w)=w:=ypc;generalize win i0 k w=u at *
 have hF:∀ o g',o.length=k->digits o->num o=num u-g'*num v->wout i0 k w (fixd k (num u-g'*num v))=wout i0 k w o:=fun o g' ho hd hn=>by
  rw [<-hn,<-vdv hd ho rfl]
 refine xgj.run [] Go.Proofs.Tryz.func170 rfl rfl ?_;simp only [Go.Proofs.Tryz.f170];refine hgR ?_;refine yxw [0,1,2,12,13] (fun x:Nat×List Int×Int=>[(7,.one (.dat (cI x.2.2))),(14,.one (.dat (cI x.1)))])
  (fun x=>[.arr (.ints .i64 (wout i0 k w x.2.1)) 0 T])
  (fun x=>x.1<=k/\x.2.1.length=k/\digits x.2.1/\(0<=x.2.2/\x.2.2<=1048575)/\num x.2.1-1048576 ^ x.1*x.2.2=num u-g*num (v.take x.1))
  (fun x=>k-x.1) (0,u,0)
  ⟨Nat.zero_le _,hwl,hu,by simp,by simp [num]⟩ ?_ ?_
 . refine hg ?_;exact StH.same svl (by rw [hs0])
 rintro ⟨i,o,c⟩ ⟨hi,ho,hdo,hc,hn⟩;simp only at hi ho hdo hc hn;have hol:=vi4 hik ho;refine hg1 @hol ?_;refine xw4 (fun h _=>?_) (fun h _=>?_)
 . have hik2:i<k:=by omega
   have hge:=vus (w:=w) hik ho hik2
   have hse:=fun x=>x4u (w:=w) (x:=x) hik ho hik2
   have hoi:=hdo.getD i;have hvi:=hv.getD i;have hprod:0<=g*v.getD i 0/\g*v.getD i 0<=1048575*1048575:=⟨Int.mul_nonneg hgg.1 hvi.1,Int.mul_le_mul hgg.2 hvi.2 hvi.1 (by decide)⟩
   have key:∀ s:Int,s=o.getD i 0-c-g*v.getD i 0->num (o.set i (s % 1048576))-1048576 ^ (i+1)*(0-s / 1048576)=num u-g*num (v.take (i+1)):=fun s hs=>by
    have h1:=z8g (o:=o) (i:=i) (by omega) s;rw [yn2];rw [hs] at h1 ⊢
    grind
   refine hg2 @hol @hge ?_;refine xw4 (fun h1 _=>?_) (fun h1 _=>?_)
   . refine hg2 @hol @hge ?_;generalize hp:g*v.getD i 0=p at *
     conv=>simp (maxSteps:=2000000) (disch:=omega) only [go_sem,Nat.reduceAdd,Nat.reduceSub,Nat.reduceMul,Int.reduceToNat,Nat.reduceEqDiff,Nat.reduceBEq,Nat.reduceBneDiff,Nat.reduceLT,Int.reduceEq,Int.reduceLT,Int.reduceLE,Int.reduceNeg,Int.reduceAdd,Int.reduceSub,Int.reduceMul,w5u,zwv,hol,hge,hse]
     exact ⟨(i+1,o.set i ((o.getD i 0-c-p) % 1048576),0-(o.getD i 0-c-p) / 1048576),
      ⟨by dsimp only;omega,by simpa using ho,hdo.set i (by omega),by dsimp only;omega,key _ rfl⟩,by dsimp only;omega,StH.same svl rfl⟩
   . have hv0:=xta (l:=v) (i:=i) (by omega)
     conv=>simp (maxSteps:=2000000) (disch:=omega) only [go_sem,Nat.reduceAdd,Nat.reduceSub,Nat.reduceMul,Int.reduceToNat,Nat.reduceEqDiff,Nat.reduceBEq,Nat.reduceBneDiff,Nat.reduceLT,Int.reduceEq,Int.reduceLT,Int.reduceLE,Int.reduceNeg,Int.reduceAdd,Int.reduceSub,Int.reduceMul,w5u,zwv,hol,hge,hse]
     exact ⟨(i+1,o.set i ((o.getD i 0-c) % 1048576),0-(o.getD i 0-c) / 1048576),
      ⟨by dsimp only;omega,by simpa using ho,hdo.set i (by omega),by dsimp only;omega,key _ (by rw [hv0];simp)⟩,by dsimp only;omega,StH.same svl rfl⟩
 . have hip:i=k:=by omega
   subst hip;rw [xn2 hl] at hn;have hlt:=yp6 hdo;have hnn:=num_nonneg hdo;have hvn:=num_nonneg hv;have hvl:=yp6 hv;rw [ho] at hlt;refine hg1 @hol ?_;refine xw4 (fun hc0 _=>?_) (fun hc0 _=>?_)
   . subst hc0
     have hs:settled (num u) (num v) g=g:=by
      unfold settled;rw [if_neg];simp at hn;omega
     rw [hs,hF o g ho hdo (by simpa using hn)];refine hg ?_;exact StH.refl
   . have hlow:num u-g*num v<0:=by
      have hp:(1048576:Int) ^ i<=1048576 ^ i*c:=by
       have:=Int.mul_le_mul_of_nonneg_left (show (1:Int)<=c by omega) (Int.le_of_lt (wc0 i))
       rwa [Int.mul_one] at this
      omega
     have hs:settled (num u) (num v) g=g-1:=by
      unfold settled;rw [if_pos];omega
     rw [hs]
     have hgm:(g-1)*num v=g*num v-num v:=by rw [Int.sub_mul,Int.one_mul]
     refine hg1 @hol ?_
     have hbig:num o+num v=num u-(g-1)*num v+1048576 ^ i:=by
      have hc1:c=1:=by
       rcases Int.lt_or_gt_of_ne hc0 with h4 | h4
       . omega
       . rcases Int.lt_or_le 1 c with h5 | h5
         . have hp:(1048576:Int) ^ i*2<=1048576 ^ i*c:=Int.mul_le_mul_of_nonneg_left (by omega) (Int.le_of_lt (wc0 i));have hvu:(1048576:Int) ^ v.length<=1048576 ^ i:=y5g hl;omega
         . omega
      subst hc1;omega
     refine yxw [0,1,2,47,48] (fun x:Nat×List Int×Int=>[(10,.one (.dat (cI x.2.2))),(49,.one (.dat (cI x.1)))])
      (fun x=>[.arr (.ints .i64 (wout i0 i w x.2.1)) 0 T])
      (fun x=>x.1<=i/\x.2.1.length=i/\digits x.2.1/\(0<=x.2.2/\x.2.2<=1)/\num x.2.1+1048576 ^ x.1*x.2.2=num o+num (v.take x.1))
      (fun x=>i-x.1) (0,o,0)
      ⟨Nat.zero_le _,ho,hdo,by simp,by simp [num]⟩ ?_ ?_
     . refine hg ?_;exact StH.same svl rfl
     rintro ⟨j,r,d⟩ ⟨hj,hr,hdr,hd,hn'⟩;simp only at hj hr hdr hd hn';have hrl:=vi4 hik hr;refine hg1 @hrl ?_;refine xw4 (fun h _=>?_) (fun h _=>?_)
     . have hjk:j<i:=by omega
       have hge:=vus (w:=w) hik hr hjk
       have hse:=fun x=>x4u (w:=w) (x:=x) hik hr hjk
       have hri:=hdr.getD j;have hvi:=hv.getD j
       have key:∀ s:Int,s=d+r.getD j 0+v.getD j 0->num (r.set j (s % 1048576))+1048576 ^ (j+1)*(s / 1048576)=num o+num (v.take (j+1)):=fun s hs=>by
        rw [z8g (by omega) s,yn2,hs]
        grind
       refine hg2 @hrl @hge ?_;refine xw4 (fun h1 _=>?_) (fun h1 _=>?_)
       . conv=>simp (maxSteps:=2000000) (disch:=omega) only [go_sem,Nat.reduceAdd,Nat.reduceSub,Nat.reduceMul,Int.reduceToNat,Nat.reduceEqDiff,Nat.reduceBEq,Nat.reduceBneDiff,Nat.reduceLT,Int.reduceEq,Int.reduceLT,Int.reduceLE,Int.reduceNeg,Int.reduceAdd,Int.reduceSub,Int.reduceMul,w5u,zwv,hrl,hge,hse]
         exact ⟨(j+1,r.set j ((d+r.getD j 0+v.getD j 0) % 1048576),(d+r.getD j 0+v.getD j 0) / 1048576),
          ⟨by dsimp only;omega,by simpa using hr,hdr.set j (by omega),by dsimp only;omega,key _ rfl⟩,by dsimp only;omega,StH.same svl rfl⟩
       . have hv0:=xta (l:=v) (i:=j) (by omega)
         conv=>simp (maxSteps:=2000000) (disch:=omega) only [go_sem,Nat.reduceAdd,Nat.reduceSub,Nat.reduceMul,Int.reduceToNat,Nat.reduceEqDiff,Nat.reduceBEq,Nat.reduceBneDiff,Nat.reduceLT,Int.reduceEq,Int.reduceLT,Int.reduceLE,Int.reduceNeg,Int.reduceAdd,Int.reduceSub,Int.reduceMul,w5u,zwv,hrl,hge,hse]
         exact ⟨(j+1,r.set j ((d+r.getD j 0) % 1048576),(d+r.getD j 0) / 1048576),
          ⟨by dsimp only;omega,by simpa using hr,hdr.set j (by omega),by dsimp only;omega,key _ (by omega)⟩,by dsimp only;omega,StH.same svl rfl⟩
     . have hip:j=i:=by omega
       subst hip;rw [xn2 hl] at hn';have hlt':=yp6 hdr;have hnn':=num_nonneg hdr;rw [hr] at hlt'
       have hd1:d=1:=by
        rcases Int.le_iff_eq_or_lt.1 hd.2 with h4 | h4
        . exact h4
        . have:d=0:=by omega
          subst this;omega
       subst hd1;rw [hF r (g-1) hr hdr (by omega)];refine hg1 @hrl ?_;exact StH.refl
theorem xy0 {W V g:Int} (h1:(g-1)*V<=W) (h2:W<(g+1)*V) (_hV:0<V) (hW:0<=W) (hg:0<=g/\g<=1048575) :
 0<=settled W V g/\settled W V g<=1048575/\settled W V g*V<=W/\W<(settled W V g+1)*V:=by
 unfold settled
 split
 . rename_i h;refine ⟨?_,by omega,h1,by rw [show g-1+1=g by omega];exact h⟩
   rcases Int.lt_or_le 0 g with h3 | h3
   . omega
   . have:g=0:=by omega
     subst this;omega
 . exact ⟨hg.1,hg.2,by omega,h2⟩
end Go.Hp.T
namespace Go.Hp.T
open Go Go.RowKit Go.Slot Go.Hp Go.Slot.T
open Go.Proofs.Tryz (prog)
attribute [local irreducible] hide RH
set_option maxRecDepth 10000
set_option maxHeartbeats 8000000
variable {Γ:List (Nat×List Cell)}
theorem xjp (L:List Int) (hL:L.length<=17592186044416):CallsD Γ prog 157 [.one (.ints .i64 L)] (.one (.ints .i64 L)):=by
 by_cases h:L=[]
 . subst h;exact yz7
 . have h0:=List.length_pos_iff.2 h;refine CallsD.run [] Go.Proofs.Tryz.func157 rfl rfl rfl ?_;simp only [Go.Proofs.Tryz.f157];refine hgR ?_
   repeat' ((first | refine hfk ?_ ?_<;>intros | refine hik ?_)<;>refine hgS ?_)
   exact RLe.ofEq rfl
theorem wzt (a b:List Int) (ha:digits a) (na:norm a) (hb:digits b) (nb:norm b) (la:a.length<=1073741824) (_lb:b.length<=1073741824) (hlt:num a<num b) :
 CallsD Γ prog 159 [.one (.ints .i64 a),.one (.ints .i64 b)] (.tup [.one (.ints .i64 (dig (num a / num b).toNat)),.one (.ints .i64 (dig (num a % num b).toNat))]):=by
 have h0:=num_nonneg ha;rw [Int.ediv_eq_zero_of_lt h0 hlt,Int.emod_eq_of_lt h0 hlt,<-yvi ha na,show (0:Int).toNat=0 from rfl,yil];have hc:=zla (Γ:=Γ) a b ha na hb nb (by omega);rw [show ord (num a) (num b) = -1 by unfold ord;rw [if_pos hlt]] at hc;refine CallsD.run [] Go.Proofs.Tryz.func159 rfl rfl rfl ?_;simp only [Go.Proofs.Tryz.f159];refine hgR ?_
 repeat' ((first | refine hfk ?_ ?_<;>intros | refine hik ?_ | with_reducible first | refine v47 (hc) ?_ | refine vrf (hc) ?_ | refine v47 (xjp a (by omega)) ?_ | refine vrf (xjp a (by omega)) ?_)<;>refine hgS ?_)
 exact .tup (.cons (.one (.ycl _)) (.cons (.refl _) .nil))
theorem y31 {L:List Int} {n:Int} (hd:digits L) (h:num L=n):Cell.ints .i64 (L.take (vod L L.length))=.ints .i64 (dig n.toNat):=by
 rw [<-z1l hd h];rfl
theorem z1z (a b:List Int) (ha:digits a) (na:norm a) (hb:digits b) (nb:norm b) (la:a.length<=1073741824) (lb:b.length=1) (hle:num b<=num a) :
 CallsD Γ prog 159 [.one (.ints .i64 a),.one (.ints .i64 b)] (.tup [.one (.ints .i64 (dig (num a / num b).toNat)),.one (.ints .i64 (dig (num a % num b).toNat))]):=by
 have hord:¬ord (num a) (num b)<0:=by unfold ord;rw [if_neg (by omega)];split<;>decide
 have hb0:=hb.getD 0;have hbp:=norm.pos hb nb (fun e=>by rw [e] at lb;cases lb)
 have hbn:num b=b.getD 0 0:=by
  match b,lb with
  | [d],_=>simp [num]
 have hr0:0<=num a % b.getD 0 0:=Int.emod_nonneg _ (by omega);have hr1:num a % b.getD 0 0<b.getD 0 0:=Int.emod_lt_of_pos _ (by omega);have hc:=zla (Γ:=Γ) a b ha na hb nb (by omega);have hs:=wa9 (Γ:=Γ) a (b.getD 0 0) ha (by omega) (by omega);have ht:=xlh (Γ:=Γ) [num a % b.getD 0 0] (by simp);have hd:digits [num a % b.getD 0 0]:=digits.cons (by omega) digits.nil;rw [y31 (n:=num a % num b) hd (by rw [hbn];simp [num]),hbn] at ht;rw [hbn];generalize dig (num a / b.getD 0 0).toNat=X at *;generalize dig (num a % b.getD 0 0).toNat=Y at *;generalize num a % b.getD 0 0=Z at *;generalize ord (num a) (num b)=O at *;refine CallsD.run [] Go.Proofs.Tryz.func159 rfl rfl rfl ?_;simp only [Go.Proofs.Tryz.f159];refine hgR ?_;refine v47 hc ?_;refine hg ?_;refine xw4 (fun h _=>absurd h hord) (fun _ _=>?_);refine hg ?_;refine xw4 (fun h _=>?_) (fun h _=>absurd (by omega) h);refine hg ?_;refine v47 hs ?_;refine hg ?_;refine v47 ht ?_;refine hg ?_;exact RLe.ofEq rfl
end Go.Hp.T
namespace Go.Hp
open Go Go.RowKit Go.Slot
theorem StH.short {Γ:List (Nat×List Cell)} {e:List SB} {σ:List SV} {η:List SB} {b n:Nat} {k:IntKind} {l:List Int} {T:Option TypeId} (hx:η[b]? = some (.arr (.ints k l) 0 T)):StH Γ e σ η σ (η.set b (.arr (.ints k (l.take n)) 0 T)):=fun E ρ a w _ hR=>by
 obtain ⟨_,h0⟩:=hR.inv.blk b _ hx
 rcases h0 with ⟨h1,h2⟩ | ⟨bb,vs,q,T2,e1,hh,hr,hT⟩
 . have hl:l=[]:=List.eq_nil_of_length_eq_zero h1;subst hl
   have e2:η.set b (.arr (.ints k (([]:List Int).take n)) 0 T)=η:=by
    apply List.ext_getElem?;intro i;by_cases hib:b=i
    . subst hib;rw [List.getElem?_set_self (List.getElem?_eq_some_iff.1 hx).1,hx,List.take_nil]
    . rw [List.getElem?_set_ne hib]
   rw [e2];exact ⟨ρ,hR⟩
 . refine ⟨ρ,hR.go (Went.write hR.inv hx rfl (by rw [e1];simp [real]) rfl (fun o=>Iff.rfl) rfl rfl rfl rfl (fun _ _=>rfl) (Grow.refl w) (fun o u _ h=>h) (fun m=>⟨⟨trivial,Nat.zero_le _⟩,.inr ⟨bb,vs.take n,vs.drop n++q,T2,e1,by rw [<-List.append_assoc,List.take_append_drop];exact hh,?_,hT⟩⟩))⟩;have hr:RdD (MX E.Mo ρ η) w vs (l.map fun n=>Cell.raw (.int k n)):=hr;show RdD _ w (vs.take n) ((l.take n).map fun n=>Cell.raw (.int k n));rw [List.map_take];exact (hr.take n).keep m.keep
end Go.Hp
namespace Go.Hp.T
open Go Go.RowKit Go.Slot Go.Hp Go.Slot.T
open Go.Proofs.Tryz (prog)
set_option maxRecDepth 10000
set_option maxHeartbeats 8000000
variable {Γ:List (Nat×List Cell)}
theorem z9y (a b:List Int) (ha:digits a) (hb:digits b) (la:a.length<=1099511627776) (lb:b.length<=1099511627776) :
 xgj Γ prog 163 [] [.one (.dat (.ints .i64 a)),.one (.dat (.ints .i64 b))] [.arr (.ints .i64 (dig (num a*num b).toNat)) 0 none] (.one (.sl 0 1 0 (dig (num a*num b).toNat).length)):=by
 generalize hR:dig (num a*num b).toNat=R;refine xgj.run [(14,[.own,.clo])] Go.Proofs.Tryz.func163 rfl rfl ?_;simp only [Go.Proofs.Tryz.f163];refine hgR ?_;refine yxw [0,1,18,19] (fun x:Nat×List Int=>[(5,.one (.sl 0 1 0 (a.length+b.length))),(20,.one (.dat (cI x.1)))])
  (fun x=>[.arr (.ints .i64 x.2) 0 none])
  (fun x=>x.1<=a.length/\x.2.length=a.length+b.length/\digits x.2/\ww1 x.2 (x.1+b.length)/\num x.2=num (a.take x.1)*num b)
  (fun x=>a.length-x.1) (0,List.replicate ((a.length:Int)+b.length).toNat 0)
  ⟨Nat.zero_le _,by simp;omega,digits.rep _,(ww1.rep _).mono (Nat.zero_le _),by simp [num,vs8]⟩ ?_ ?_
 . have e:((a.length:Int)+b.length).toNat=a.length+b.length:=by omega
   refine hg1 @e ?_;exact StH.same svl rfl
 rintro ⟨i,o⟩ ⟨hi,ho,hdo,hz,hn⟩;simp only at hi ho hdo hz hn;refine hg1 @ho ?_;refine xw4 (fun h _=>?_) (fun h _=>?_)
 . refine hg1 @ho ?_;have hai:=ha.getD i;refine yxw [0,1,5,6,7,18,19,20,25,26] (fun x:Nat×List Int×Int=>[(8,.one (.dat (cI x.2.2))),(27,.one (.dat (cI x.1)))])
    (fun x=>[.arr (.ints .i64 x.2.1) 0 none])
    (fun x=>x.1<=b.length/\x.2.1.length=a.length+b.length/\digits x.2.1/\ww1 x.2.1 (i+b.length)/\(0<=x.2.2/\x.2.2<=1048575)/\
      num x.2.1+1048576 ^ (i+x.1)*x.2.2=num (a.take i)*num b+1048576 ^ i*(a.getD i 0*num (b.take x.1)))
    (fun x=>b.length-x.1) (0,o,0)
    ⟨Nat.zero_le _,ho,hdo,hz,by simp,by simp [num,hn]⟩ ?_ ?_
   . refine hg1 @ho ?_;exact StH.same svl rfl
   rintro ⟨k,o',c⟩ ⟨hk,ho',hdo',hz',hc,hn'⟩;simp only at hk ho' hdo' hz' hc hn';refine hg1 @ho' ?_;refine xw4 (fun h1 _=>?_) (fun h1 _=>?_)
   . have hbk:=hb.getD k;have hok:=hdo'.getD (i+k);have hprod:0<=a.getD i 0*b.getD k 0/\a.getD i 0*b.getD k 0<=1048575*1048575:=⟨Int.mul_nonneg hai.1 hbk.1,Int.mul_le_mul hai.2 hbk.2 hbk.1 (by decide)⟩
     have eik:((i:Int)+k).toNat=i+k:=by omega
     conv=>simp (maxSteps:=2000000) (disch:=omega) only [go_sem,Nat.reduceAdd,Nat.reduceSub,Nat.reduceMul,Int.reduceToNat,Nat.reduceEqDiff,Nat.reduceBEq,Nat.reduceBneDiff,Nat.reduceLT,Int.reduceEq,Int.reduceLT,Int.reduceLE,Int.reduceNeg,Int.reduceAdd,Int.reduceSub,Int.reduceMul,w5u,zwv,eik,ho']
     generalize hs:o'.getD (i+k) 0+a.getD i 0*b.getD k 0+c=s at *;have h2:=z8g (o:=o') (i:=i+k) (by omega) s
     refine ⟨(k+1,o'.set (i+k) (s % 1048576),s / 1048576),
      ⟨by dsimp only;omega,by simpa using ho',hdo'.set _ (by omega),hz'.yzy _ (by omega),by dsimp only;omega,?_⟩,by dsimp only;omega,StH.same svl rfl⟩
     dsimp only;rw [yn2,show i+(k+1)=i+k+1 by omega,h2,<-hs,Int.pow_add];rw [Int.pow_add] at hn'
     grind
   . have hkb:k=b.length:=by omega
     subst hkb
     have eib:((i:Int)+b.length).toNat=i+b.length:=by omega
     have hz0:=hz' (i+b.length) (Nat.le_refl _)
     conv=>simp (maxSteps:=2000000) (disch:=omega) only [go_sem,Nat.reduceAdd,Nat.reduceSub,Nat.reduceMul,Int.reduceToNat,Nat.reduceEqDiff,Nat.reduceBEq,Nat.reduceBneDiff,Nat.reduceLT,Int.reduceEq,Int.reduceLT,Int.reduceLE,Int.reduceNeg,Int.reduceAdd,Int.reduceSub,Int.reduceMul,eib,hz0,Int.zero_add,ho']
     refine ⟨(i+1,o'.set (i+b.length) c),⟨by dsimp only;omega,by simpa using ho',hdo'.set _ (by omega),?_,?_⟩,by dsimp only;omega,StH.same svl rfl⟩
     . exact (hz'.set c).mono (by dsimp only;omega)
     . dsimp only;rw [ycs _ _ _ (by omega),hz0,yn2];rw [List.take_length] at hn'
       grind
 . have hia:i=a.length:=by omega
   subst hia;rw [List.take_length] at hn;refine hg1 @ho ?_;have ht:=wj4 (Γ:=Γ) o (by omega) 0 none;have e1:=yi0 hdo hn;have hle:=zms o o.length;rw [ho] at ht e1 hle;refine wq6 ht ?_;refine hg ?_;have hs:=StH.short (Γ:=Γ) (e:=[]) (σ:=[.one (.sl 0 1 0 (vod o (a.length+b.length)))]) (η:=[.arr (.ints .i64 o) 0 none]) (b:=0) (n:=vod o (a.length+b.length)) (k:=.i64) (T:=none) rfl;refine hs.trans ?_
   have e2:R.length=vod o (a.length+b.length):=by rw [<-hR,<-e1,List.length_take,ho,Nat.min_eq_left hle]
   rw [e2,<-hR,<-e1];exact StH.refl
theorem zpk (a b:List Int) (Uf Vf:Nat->List Int) (hUf:∀ s:Nat,Uf s=dig (num a*(s:Int)).toNat) (hVf:∀ s:Nat,Vf s=dig (num b*(s:Int)).toNat) (ha:digits a) (na:norm a) (hb:digits b) (nb:norm b) (la:a.length<=1073741824) (lb:2<=b.length) (hle:num b<=num a) :
 CallsD Γ prog 159 [.one (.ints .i64 a),.one (.ints .i64 b)] (.tup [.one (.ints .i64 (dig (num a / num b).toNat)),.one (.ints .i64 (dig (num a % num b).toNat))]):=by
 have hord:¬ord (num a) (num b)<0:=by unfold ord;rw [if_neg (by omega)];split<;>decide
 have hbp:=norm.pos hb nb (fun e=>by rw [e] at lb;simp at lb);have hlab:b.length<=a.length:=Nat.le_of_not_lt (fun h=>by have:=vrj ha na hb nb h;omega);refine CallsD.run [(22,[.join,.own,.clo])] Go.Proofs.Tryz.func159 rfl rfl rfl ?_;simp only [Go.Proofs.Tryz.f159];refine hgR ?_;refine v47 (zla a b ha na hb nb (by omega)) ?_;refine hg ?_;refine xw4 (fun h _=>absurd h hord) (fun _ _=>?_);refine hg ?_;refine xw4 (fun h _=>absurd h (by omega)) (fun h _=>?_)
 have htop:1<=b.getD (b.length-1) 0/\b.getD (b.length-1) 0<=1048575:=by
  have h1:=hb.getD (b.length-1);have h2:=nb (fun e=>by rw [e] at lb;simp at lb);omega
 have eb:((b.length:Int)-1).toNat=b.length-1:=by omega
 refine hg ?_;refine yxw [0,1] (fun s:Nat=>[(8,.one (.dat (cI (s:Int))))]) (fun _=>[])
  (fun s=>1<=s/\s<=1048575) (fun s=>1048576-s) 1
  (by omega) ?_ ?_
 . refine hg ?_;exact StH.same svl rfl
 rintro s ⟨hs1,hs2⟩;refine hg1 @eb ?_;have hprod:0<=b.getD (b.length-1) 0*(s:Int)/\b.getD (b.length-1) 0*(s:Int)<=1048575*1048575:=⟨Int.mul_nonneg (by omega) (by omega),Int.mul_le_mul htop.2 (by omega) (by omega) (by decide)⟩;refine hg1 @eb ?_;refine xw4 (fun h1 _=>?_) (fun h1 _=>?_)
 . have hs:(s:Int)<524288:=by
    have:=Int.mul_le_mul_of_nonneg_right htop.1 (show (0:Int)<=s by omega)
    omega
   refine hg ?_;exact ⟨2*s,by omega,by omega,by simp only [go_sem,Int.natCast_mul,Int.mul_comm];exact StH.same svl rfl⟩
 refine hg ?_;have hds:digits [(s:Int)]:=digits.cons (by omega) digits.nil
 have hns:num [(s:Int)]=s:=by simp [num]
 refine za2 (z9y a [(s:Int)] ha hds (by omega) (by simp)) rfl ?_;have hna0:0<=num a*s:=Int.mul_nonneg (by omega) (by omega);have hnb0:0<num b*s:=Int.mul_pos hbp (by omega);rw [hns];have hU:=hUf s;have hV:=hVf s
 have hUd:digits (Uf s):=by rw [hU];exact xfr _
 have hVd:digits (Vf s):=by rw [hV];exact xfr _
 have hUn:num (Uf s)=num a*s:=by rw [hU,wfu];omega
 have hVn:num (Vf s)=num b*s:=by rw [hV,wfu];omega
 have hVnorm:norm (Vf s):=by rw [hV];exact yer _
 have hxs:∀ x:Int,0<=x->x<=x*s:=fun x hx=>by
  have:=Int.mul_le_mul_of_nonneg_left (show (1:Int)<=s by omega) hx
  rwa [Int.mul_one] at this
 have haU:a.length<=(Uf s).length:=by
  have e:=congrArg List.length (yvi ha na);rw [hU,e];refine wo8 ?_
  have:=hxs (num a) (by omega)
  omega
 have hbV:b.length<=(Vf s).length:=by
  have e:=congrArg List.length (yvi hb nb);rw [hV,e];refine wo8 ?_
  have:=hxs (num b) (by omega)
  omega
 have hVU:(Vf s).length<=(Uf s).length:=by
  rw [hU,hV];refine wo8 ?_
  have:num b*s<=num a*s:=Int.mul_le_mul_of_nonneg_right hle (by omega)
  omega
 have hUl:(Uf s).length<=1073741825:=by
  have h1:(Uf s).length<=a.length+1:=by
   rw [hU];apply xgb;have h1:=yp6 ha;have h2:num a*(s:Int)<=num a*1048576:=Int.mul_le_mul_of_nonneg_left (by omega) (by omega)
   have h3:((1048576 ^ (a.length+1):Nat):Int)=1048576 ^ a.length*1048576:=by rw [Nat.pow_succ];simp
   omega
  omega
 rw [<-hU];refine hg ?_;refine v47 (ysm b [(s:Int)] hb hds (by omega) (by simp)) ?_;rw [hns,<-hV];refine hg ?_;refine xw4 (fun h2 _=>absurd h2 (by simp;omega)) (fun h2 _=>?_);obtain ⟨u,hu⟩:∃ u,u=(Uf s)++[0]:=⟨_,rfl⟩;rw [<-hu]
 have hud:digits u:=by rw [hu];exact hUd.append (digits.cons (by decide) digits.nil)
 have hun:num u=num a*s:=by rw [hu,wf0];simp [num,hUn]
 have hul:u.length=(Uf s).length+1:=by rw [hu];simp
 have hVne:(Vf s)≠[]:=fun e=>by
  have:=congrArg List.length e
  simp only [List.length_nil] at this;omega
 have hV0:0<num (Vf s):=norm.pos hVd hVnorm hVne;obtain ⟨m,hm⟩:∃ m,u.length=m+(Vf s).length:=⟨u.length-(Vf s).length,by omega⟩
 have hm1:((u.length:Int)-(Vf s).length).toNat=m:=by omega
 have hult:num u<num (Vf s)*1048576 ^ m:=by
  rw [hun,<-hUn];have h3:=yp6 hUd;have h4:=xt7 hVd hVnorm hVne;have h5:=Int.mul_le_mul_of_nonneg_right h4 (Int.le_of_lt (wc0 m))
  have e:(Uf s).length=(Vf s).length-1+m:=by omega
  rw [e,Int.pow_add] at h3;omega
 have hord2:u.length<=1073741826:=by omega
 clear hu h2;refine hg1 @hm1 ?_;refine yxw [8,9,10,11,12] (fun x:Nat×List Int×List Int=>[(13,.one (.dat (cI (((x.1:Int)-1)))))])
  (fun x=>[.dead,.arr (.ints .i64 x.2.1) 0 none,.arr (.ints .i64 x.2.2) 0 none])
  (fun x=>x.1<=m/\x.2.1.length=u.length/\digits x.2.1/\x.2.2.length=m/\digits x.2.2/\num a*s=num (Vf s)*(1048576 ^ x.1*num (x.2.2.drop x.1))+num x.2.1/\num x.2.1<num (Vf s)*1048576 ^ x.1)
  (fun x=>x.1) (m,u,List.replicate m 0)
  ⟨Nat.le_refl _,rfl,hud,by simp,digits.rep _,by simp [num,hun],hult⟩ ?_ ?_
 . refine hg ?_;exact StH.same svl rfl
 rintro ⟨j,w,q⟩ ⟨hj,hw,hwd,hq,hqd,he,hlt⟩;simp only at hj hw hwd hq hqd he hlt;refine hg2 @hw @hq ?_;refine xw4 (fun h3 _=>?_) (fun h3 _=>?_)
 . obtain ⟨i,rfl⟩:∃ i,j=i+1:=⟨j-1,by omega⟩
   have ei:((i+1:Nat):Int)-1=(i:Nat):=by omega
   have e1:((i:Int)+(Vf s).length).toNat=i+(Vf s).length:=by omega
   have e2:((i:Int)+(Vf s).length-1).toNat=i+((Vf s).length-1):=by omega
   have e3:(((Vf s).length:Int)-1).toNat=(Vf s).length-1:=by omega
   have d1:=hwd.getD (i+(Vf s).length);have d2:=hwd.getD (i+((Vf s).length-1));have d3:=hVd.getD ((Vf s).length-1);have d4:=hVnorm hVne
   conv=>simp (maxSteps:=2000000) (disch:=omega) only [go_sem,Nat.reduceAdd,Nat.reduceSub,Nat.reduceMul,Int.reduceToNat,Nat.reduceEqDiff,Nat.reduceBEq,Nat.reduceBneDiff,Nat.reduceLT,Int.reduceEq,Int.reduceLT,Int.reduceLE,Int.reduceNeg,Int.reduceAdd,Int.reduceSub,Int.reduceMul,ei,e1,e2,e3,ycy,or20,hw,hq]
   refine hik ?_;obtain ⟨T,hT⟩:∃ T,T=w.getD (i+(Vf s).length) 0*1048576+w.getD (i+((Vf s).length-1)) 0:=⟨_,rfl⟩;obtain ⟨v1,hv1⟩:∃ v1,v1=(Vf s).getD ((Vf s).length-1) 0:=⟨_,rfl⟩;rw [<-hT];rw [<-hv1] at d3 d4
   have hT0:0<=T/\T<1099511627776:=by omega
   conv=>simp (maxSteps:=2000000) (disch:=omega) only [go_sem,Nat.reduceAdd,Nat.reduceSub,Nat.reduceMul,Int.reduceToNat,Nat.reduceEqDiff,Nat.reduceBEq,Nat.reduceBneDiff,Nat.reduceLT,Int.reduceEq,Int.reduceLT,Int.reduceLE,Int.reduceNeg,Int.reduceAdd,Int.reduceSub,Int.reduceMul,ei,e1,e2,e3,<-hv1,hw,hq]
   have hq0:T.tdiv v1=T / v1:=Int.tdiv_eq_ediv_of_nonneg hT0.1;have hm0:T.tmod v1=T % v1:=Int.tmod_eq_emod_of_nonneg hT0.1;have hq1:0<=T / v1:=Int.ediv_nonneg hT0.1 (by omega);have hq2:T / v1<=T:=Int.ediv_le_self _ hT0.1;have hm1':0<=T % v1:=Int.emod_nonneg _ (by omega);have hm2:T % v1<v1:=Int.emod_lt_of_pos _ (by omega);have hdm:=Int.emod_add_mul_ediv T v1;rw [hq0,hm0]
   conv=>simp (maxSteps:=2000000) (disch:=omega) only [go_sem,Nat.reduceAdd,Nat.reduceSub,Nat.reduceMul,Int.reduceToNat,Nat.reduceEqDiff,Nat.reduceBEq,Nat.reduceBneDiff,Nat.reduceLT,Int.reduceEq,Int.reduceLT,Int.reduceLE,Int.reduceNeg,Int.reduceAdd,Int.reduceSub,Int.reduceMul,ei,e1,e2,e3,<-hv1,hw,hq]
   refine hik ?_;refine hg2 @hw @hq ?_
   have hn2:2<=(Vf s).length:=by omega
   have e4:((i:Int)+(Vf s).length-2).toNat=i+((Vf s).length-2):=by omega
   have e5:(((Vf s).length:Int)-2).toNat=(Vf s).length-2:=by omega
   have e6:((i:Int)+(Vf s).length+1).toNat=i+((Vf s).length+1):=by omega
   have hin:i+((Vf s).length+1)<=w.length:=by omega
   have hWlen:((w.drop i).take ((Vf s).length+1)).length=(Vf s).length+1:=by simp;omega
   obtain ⟨u2,hu2⟩:∃ u2,u2=w.getD (i+((Vf s).length-2)) 0:=⟨_,rfl⟩;obtain ⟨v2,hv2⟩:∃ v2,v2=(Vf s).getD ((Vf s).length-2) 0:=⟨_,rfl⟩;have hW:=xv7 _ (Vf s).length hn2 hWlen;rw [wbf (by omega),wbf (by omega),wbf (by omega),<-hT,<-hu2] at hW;have hVt:=yh2 (Vf s) (Vf s).length hn2 rfl;rw [<-hv1,<-hv2] at hVt;have hWd:digits ((w.drop i).take ((Vf s).length+1)):=(hwd.drop i).take _;have hw0:=yp6 (hWd.take ((Vf s).length-2));have hw1:=num_nonneg (hWd.take ((Vf s).length-2));have hv0:=yp6 (hVd.take ((Vf s).length-2));have hv0':=num_nonneg (hVd.take ((Vf s).length-2));rw [List.length_take,hWlen,Nat.min_eq_left (by omega)] at hw0;rw [List.length_take,Nat.min_eq_left (by omega)] at hv0;have hP:=wc0 ((Vf s).length-2);have hW0:=num_nonneg hWd;have du:=hwd.getD (i+((Vf s).length-2));have dv:=hVd.getD ((Vf s).length-2);rw [<-hu2] at du;rw [<-hv2] at dv;obtain ⟨W,hWW⟩:∃ W,W=num ((w.drop i).take ((Vf s).length+1)):=⟨_,rfl⟩;rw [<-hWW] at hW hW0;refine z1o [8,9,10,11,12,13] (fun g:Int=>[(15,.one (.dat (cI (g))))]) (fun _=>[.dead,.arr (.ints .i64 w) 0 none,.arr (.ints .i64 q) 0 none])
    (fun g=>0<=g/\g<=1048575/\W<(g+1)*num (Vf s)/\(g-1)*num (Vf s)<=W) ?_ ?_
   . refine hg2 @hw @hq ?_
     have hinit:W<(T / v1+1)*num (Vf s):=by
      refine vse hP hW hw0 du.2 hVt hv0' dv.1 ?_ hq1
      have:(T / v1+1)*v1=v1*(T / v1)+v1:=by grind
      omega
     refine yxw [8,9,10,11,12,13,14] (fun x:Int×Int=>[(15,.one (.dat (cI (x.1)))),(16,.one (.dat (cI (x.2))))]) (fun _=>[.dead,.arr (.ints .i64 w) 0 none,.arr (.ints .i64 q) 0 none])
      (fun x=>0<=x.1/\T=x.1*v1+x.2/\W<(x.1+1)*num (Vf s)/\0<=x.2/\x.1<=T)
      (fun x=>x.1.toNat) (T / v1,T % v1) ⟨hq1,by dsimp only;rw [Int.mul_comm];omega,hinit,hm1',hq2⟩ ?_ ?_
     . refine hg2 @hw @hq ?_;exact StH.same svl rfl
     rintro ⟨g,r⟩ ⟨hg0,hgT,hgW,hr0,hgT2⟩;simp only at hg0 hgT hgW hr0 hgT2;have hgv:0<=g*v1:=Int.mul_nonneg hg0 (by omega)
     have hrT:r<=T:=by omega
     refine hg2 @hw @hq ?_
     have hfin:g<=1048575->(1048576<=r\/g*v2<=r*1048576+u2)->(g-1)*num (Vf s)<=W:=fun hg1 hc=>
      vfy hP hW hw1 du.1 hVt hv0 (by omega) dv hV0 hW0 hg0 hg1 hgT hc
     have hdec:W<g*num (Vf s)->0<g/\T=(g-1)*v1+(r+v1)/\W<(g-1+1)*num (Vf s):=fun h=>by
      refine ⟨?_,?_,?_⟩
      . rcases Int.lt_or_le 0 g with h' | h'
        . exact h'
        . have:g=0:=by omega
          subst this;omega
      . rw [hgT];grind
      . rw [show g-1+1=g by omega];exact h
     refine xz7 (fun h4 _=>?_) (fun h4 _=>?_)
     . refine hg3 @h4 @hw @hq ?_;refine y6q (fun h5 _=>?_) (fun h5 _=>?_)
       . have hgv2:0<=g*v2/\g*v2<=1048575*1048575:=⟨Int.mul_nonneg hg0 dv.1,Int.mul_le_mul (by omega) dv.2 dv.1 (by decide)⟩
         conv=>simp (maxSteps:=2000000) (disch:=omega) only [go_sem,Nat.reduceAdd,Nat.reduceSub,Nat.reduceMul,Int.reduceToNat,Nat.reduceEqDiff,Nat.reduceBEq,Nat.reduceBneDiff,Nat.reduceLT,Int.reduceEq,Int.reduceLT,Int.reduceLE,Int.reduceNeg,Int.reduceAdd,Int.reduceSub,Int.reduceMul,h4,h5,ei,e1,e4,e5,<-hv2,<-hu2,ycy,or20,hw,hq]
         refine hik ?_;refine hg2 @hw @hq ?_;refine xw4 (fun h6 _=>?_) (fun h6 _=>?_)
         . obtain ⟨g1,g2,g3⟩:=hdec (xyz hP hW hw0 hVt hv0' hg0 hgT h6)
           conv=>simp (maxSteps:=2000000) (disch:=omega) only [go_sem,Nat.reduceAdd,Nat.reduceSub,Nat.reduceMul,Int.reduceToNat,Nat.reduceEqDiff,Nat.reduceBEq,Nat.reduceBneDiff,Nat.reduceLT,Int.reduceEq,Int.reduceLT,Int.reduceLE,Int.reduceNeg,Int.reduceAdd,Int.reduceSub,Int.reduceMul,e3,<-hv1,hw,hq]
           exact ⟨(g-1,r+v1),⟨by dsimp only;omega,g2,g3,by dsimp only;omega,by dsimp only;omega⟩,by dsimp only;omega,StH.same svl rfl⟩
         . refine hg2 @hw @hq ?_;exact ⟨g,⟨hg0,by omega,hgW,hfin (by omega) (.inr (by omega))⟩,StH.same svl rfl⟩
       . conv=>simp (maxSteps:=2000000) (disch:=omega) only [go_sem,Nat.reduceAdd,Nat.reduceSub,Nat.reduceMul,Int.reduceToNat,Nat.reduceEqDiff,Nat.reduceBEq,Nat.reduceBneDiff,Nat.reduceLT,Int.reduceEq,Int.reduceLT,Int.reduceLE,Int.reduceNeg,Int.reduceAdd,Int.reduceSub,Int.reduceMul,h4,h5,hw,hq]
         refine hik ?_
         conv=>simp (maxSteps:=2000000) (disch:=omega) only [go_sem,Nat.reduceAdd,Nat.reduceSub,Nat.reduceMul,Int.reduceToNat,Nat.reduceEqDiff,Nat.reduceBEq,Nat.reduceBneDiff,Nat.reduceLT,Int.reduceEq,Int.reduceLT,Int.reduceLE,Int.reduceNeg,Int.reduceAdd,Int.reduceSub,Int.reduceMul,h4,h5,hw,hq]
         exact ⟨g,⟨hg0,by omega,hgW,hfin (by omega) (.inl (by omega))⟩,StH.same svl rfl⟩
     . have hWB:W<num (Vf s)*1048576:=by
        have h7:=x5g w i ((Vf s).length+1) hin;rw [<-hWW] at h7;have h8:=Int.mul_nonneg (Int.le_of_lt (wc0 (i+((Vf s).length+1)))) (num_nonneg (hwd.drop (i+((Vf s).length+1))));have h9:=num_nonneg (hwd.take i);rw [Int.pow_succ] at hlt;refine Int.lt_of_mul_lt_mul_left (a:=1048576 ^ i) ?_ (Int.le_of_lt (wc0 i))
        have:(1048576:Int) ^ i*(num (Vf s)*1048576)=num (Vf s)*(1048576 ^ i*1048576):=by grind
        omega
       have hlow:W<g*num (Vf s):=by
        have:=Int.mul_le_mul_of_nonneg_right h4 (Int.le_of_lt hV0)
        omega
       obtain ⟨g1,g2,g3⟩:=hdec hlow;refine hg3 @h4 @hw @hq ?_;refine hik ?_
       conv=>simp (maxSteps:=2000000) (disch:=omega) only [go_sem,Nat.reduceAdd,Nat.reduceSub,Nat.reduceMul,Int.reduceToNat,Nat.reduceEqDiff,Nat.reduceBEq,Nat.reduceBneDiff,Nat.reduceLT,Int.reduceEq,Int.reduceLT,Int.reduceLE,Int.reduceNeg,Int.reduceAdd,Int.reduceSub,Int.reduceMul,h4,e3,<-hv1,hw,hq]
       exact ⟨(g-1,r+v1),⟨by dsimp only;omega,g2,g3,by dsimp only;omega,by dsimp only;omega⟩,by dsimp only;omega,StH.same svl rfl⟩
   . intro g hgg;have hgg:0<=g/\g<=1048575/\W<(g+1)*num (Vf s)/\(g-1)*num (Vf s)<=W:=hgg;have hg0:=hgg.1;have hg1:=hgg.2.1;have hgW:=hgg.2.2.1;have hgl:=hgg.2.2.2;have hsp:=xy0 hgl hgW hV0 hW0 ⟨hg0,hg1⟩;refine hg3 @e6 @hw @hq ?_;rw [show i+((Vf s).length+1)-i=(Vf s).length+1 by omega];have hst:=yeu (Γ:=Γ) w (Vf s) i ((Vf s).length+1) g none hwd hVd (by omega) hin (by omega) (by omega) ⟨hg0,hg1⟩ (by show (g-1)*num (Vf s)<=num ((w.drop i).take ((Vf s).length+1));rw [<-hWW];exact hgl);rw [show num (win i ((Vf s).length+1) w)=W from hWW.symm] at hst;refine xmn [1] hst rfl (by decide) rfl rfl rfl ?_;clear hst;generalize settled W (num (Vf s)) g=G at *;obtain ⟨hG0,hG1,hG2,hG3⟩:=hsp;obtain ⟨D,hD⟩:∃ D,D=fixd ((Vf s).length+1) (W-G*num (Vf s)):=⟨_,rfl⟩
     have hDl:D.length=(Vf s).length+1:=by rw [hD];exact xr1 _ _
     have hDd:digits D:=by rw [hD];exact wtd _ _
     have hGV:(G+1)*num (Vf s)=G*num (Vf s)+num (Vf s):=by grind
     have hDn:num D=W-G*num (Vf s):=by
      rw [hD];refine xbv _ _ (by omega) ?_;have h7:=yp6 hVd;have h8:=y5g (show (Vf s).length<=(Vf s).length+1 by omega);omega
     rw [<-hD];have hwo:=vi4 hin hDl;refine hg3 @hwo @hw @hq ?_;have h7:=x5g w i ((Vf s).length+1) hin;have h8:=y7n w D i ((Vf s).length+1) hin hDl;rw [<-hWW] at h7;rw [hDn] at h8;have h8:=(show num (wout i ((Vf s).length+1) w D)=num (w.take i++D++w.drop (i+((Vf s).length+1))) by unfold wout;rw [<-List.append_assoc]).trans h8;have hA0:=num_nonneg (hwd.take i);have hA1:=yp6 (hwd.take i);rw [List.length_take,Nat.min_eq_left (by omega)] at hA1
     have hX0:num (w.drop (i+((Vf s).length+1)))=0:=by
      have hX:=num_nonneg (hwd.drop (i+((Vf s).length+1)))
      rcases Int.lt_or_le 0 (num (w.drop (i+((Vf s).length+1)))) with h9 | h9
      . have k1:=Int.mul_le_mul_of_nonneg_left (show (1:Int)<=num (w.drop (i+((Vf s).length+1))) by omega) (Int.le_of_lt (wc0 (i+((Vf s).length+1))));have k2:=Int.mul_nonneg (Int.le_of_lt (wc0 i)) hW0;have k3:=Int.mul_lt_mul_of_pos_right (yp6 hVd) (wc0 (i+1))
        have k4:(1048576:Int) ^ (Vf s).length*1048576 ^ (i+1)=1048576 ^ (i+((Vf s).length+1)):=by rw [<-Int.pow_add];congr 1;omega
        omega
      . omega
     rw [hX0,Int.mul_zero,Int.add_zero] at h7 h8;refine ⟨(i,wout i ((Vf s).length+1) w D,q.set i G),⟨by dsimp only;omega,?_,(hwd.take i).append (hDd.append (hwd.drop _)),by simpa using hq,hqd.set i ⟨hG0,hG1⟩,?_,?_⟩,by dsimp only;omega,StH.same svl rfl⟩
     . dsimp only;rw [hwo];exact hw
     . dsimp only;rw [vj3 G (by omega),h8,he,h7,Int.pow_succ];simp only [num]
       grind
     . dsimp only;rw [h8];have k1:=Int.mul_le_mul_of_nonneg_left (show W-G*num (Vf s)<=num (Vf s)-1 by omega) (Int.le_of_lt (wc0 i))
       have k2:(1048576:Int) ^ i*(num (Vf s)-1)=num (Vf s)*1048576 ^ i-1048576 ^ i:=by grind
       omega
 . have h0:j=0:=by omega
   subst h0;simp only [Int.pow_zero,Int.one_mul,List.drop_zero,Int.mul_one] at he hlt;refine hg2 @hw @hq ?_
   first | refine v47 (xlh w (by omega)) ?_ | refine vrf (xlh w (by omega)) ?_
   rw [y31 hwd rfl];have hwn:=num_nonneg hwd;have hqn:=num_nonneg hqd
   have e7:num (dig (num w).toNat)=num w:=by rw [wfu];omega
   have hlw:(dig (num w).toNat).length<=w.length:=by rw [<-v2o hwd];exact v8w w
   refine hg2 @hw @hq ?_
   first | refine v47 (wa9 (dig (num w).toNat) s (xfr _) (by omega) (by omega)) ?_ | refine vrf (wa9 (dig (num w).toNat) s (xfr _) (by omega) (by omega)) ?_
   rw [e7];refine hg2 @hw @hq ?_
   first | refine v47 (xlh q (by omega)) ?_ | refine vrf (xlh q (by omega)) ?_
   rw [y31 hqd rfl];refine hg2 @hw @hq ?_;rw [hVn] at he hlt;obtain ⟨hq',hr'⟩:=y1c (show (0:Int)<s by omega) hbp he hwn hlt;rw [hq',hr'];exact .tup (.cons (.refl _) (.cons (.refl _) .nil))
theorem zc8 (a b:List Int) (ha:digits a) (na:norm a) (hb:digits b) (nb:norm b) (la:a.length<=1073741824) (lb:2<=b.length) (hle:num b<=num a) :
 CallsD Γ prog 159 [.one (.ints .i64 a),.one (.ints .i64 b)] (.tup [.one (.ints .i64 (dig (num a / num b).toNat)),.one (.ints .i64 (dig (num a % num b).toNat))]):=
 zpk a b (fun s=>dig (num a*(s:Int)).toNat) (fun s=>dig (num b*(s:Int)).toNat) (fun _=>rfl) (fun _=>rfl) ha na hb nb la lb hle
end Go.Hp.T
namespace Go.Hp.T
open Go Go.RowKit Go.Slot Go.Hp Go.Slot.T
open Go.Proofs.Tryz (prog)
attribute [local irreducible] hide RH
set_option maxRecDepth 10000
set_option maxHeartbeats 8000000
variable {Γ:List (Nat×List Cell)}
abbrev okZ (z:Int):Prop:=(dig z.natAbs).length<=268435456
theorem vdu (z:Int) (hz:okZ z):CallsD Γ prog 137 [.agg [.raw (.int .i64 (sg z)),.ints .i64 (dig z.natAbs)]] (.one (.raw (.bool true))):=by
 have h:=vf7 (Γ:=Γ) (sg z) (dig z.natAbs) (by omega);rw [decide_eq_true (yjw z)] at h;exact h
theorem xjm (s:Int) (L:List Int) (hL:L.length<=268435456) (h:¬vd7 s L):CallsD Γ prog 137 [.agg [.raw (.int .i64 s),.ints .i64 L]] (.one (.raw (.bool false))):=by
 have h':=vf7 (Γ:=Γ) s L (by omega);rw [decide_eq_false h] at h';exact h'
theorem yjy (s z:Int) (hz:(dig z.natAbs).length<=1073741824) (h:(s=1/\0<=z)\/(s = -1/\z<=0)\/z=0) :
 CallsD Γ prog 108 [.one (.raw (.int .i64 s)),.one (.ints .i64 (dig z.natAbs))] (.agg [.raw (.int .i64 (sg z)),.ints .i64 (dig z.natAbs)]):=by
 have h':=xre (Γ:=Γ) s (dig z.natAbs) (by omega);unfold bigA at h';rw [yr8 h] at h';exact h'
theorem xrg (z:Int):CallsD Γ prog 158 [.one (.raw (.bool true)),.agg [.raw (.int .i64 (sg z)),.ints .i64 (dig z.natAbs)]]
 (.tup [.agg [.raw (.int .i64 (sg z)),.ints .i64 (dig z.natAbs)],.one (.raw (.int .i64 0))]):=v97 true (sg z) (dig z.natAbs)
theorem vuk (x:Int) (hx:okZ x) :
 CallsD Γ prog 138 [.agg [.raw (.int .i64 (sg x)),.ints .i64 (dig x.natAbs)]] (.agg [.raw (.int .i64 (sg (-x))),.ints .i64 (dig (-x).natAbs)]):=by
 have sx:=yvy x
 have e:(-x).natAbs=x.natAbs:=by omega
 have hs:=yjy (Γ:=Γ) (0-sg x) (-x) (by rw [e];omega) (by omega);rw [e] at hs ⊢;refine CallsD.run [] Go.Proofs.Tryz.func138 rfl rfl rfl ?_;simp only [Go.Proofs.Tryz.f138];refine hgR ?_
 first | refine v47 (vdu x hx) ?_ | refine vrf (vdu x hx) ?_
 refine hg ?_
 first | refine v47 (xjp _ (by omega)) ?_ | refine vrf (xjp _ (by omega)) ?_
 refine hg ?_
 first | refine v47 hs ?_ | refine vrf hs ?_
 refine hg ?_;refine hik ?_;refine hg ?_;exact (.one (.refl _))
end Go.Hp.T
