/- The proof, part P14: Uc, Ud, Ue, Uf, Ug, Qc, Qd, Xb, Rm, Xd, T3, Ge, Gh, Sg. -/
import Derived.Test.YtmegdbbbllffkaaGreatP13
import Derived.Test.YtmegdbbbllffkaaGreatP12
import Derived.Test.YtmegdbbbllffkaaGreatP11
namespace Go.Hp.T
open Go Go.RowKit Go.Slot Go.Hp Go.Slot.T
open Go.Proofs.Tryz (prog)
set_option maxRecDepth 10000
set_option maxHeartbeats 4000000
variable {Γ:List (Nat×List Cell)}
variable {a i j:Nat} {α:Type}
theorem x5l {p q:Int} (hp:1<=p) (hq:1<=q):0<=Rat.divInt p q:=by
 obtain ⟨n,rfl⟩:∃ n:Nat,q=n:=⟨q.toNat,by omega⟩;rw [Rat.divInt_ofNat];exact (Rat.divInt_ofNat p n)▸Rat.divInt_nonneg (by omega) (by omega)
theorem wqu {s:ByteArray} {u:Un} (h:symF s=some u):0<=u.f:=by
 unfold symF at h
 repeat' first
  | (cases h;exact x5l (by omega) (by omega))
  | (cases hc:seq s _<;>rw [hc] at h<;>simp only [cond_true,cond_false] at h)
 cases h
theorem v5g {s:ByteArray} {u:Un} (h:ykz s=some u):0<=u.f:=by
 unfold ykz at h
 cases h1:(symF s).isSome with
 | true=>
  rw [h1,cond_true] at h;exact wqu h
 | false=>
  rw [h1,cond_false] at h
  cases h2:(!(preF (x41 s 0)).isSome||!(symF (wcs s 1)).isSome||!wem (wcs s 1)) with
  | true=>rw [h2,cond_true] at h;cases h
  | false=>
   rw [h2,cond_false] at h;split at h
   . rename_i p v hp hv
     cases h;obtain ⟨d,e⟩:=zz2 hp;exact Rat.mul_nonneg (wqu hv) (x5l d.1 e.1)
   . cases h
theorem vuo {s:ByteArray} {u:Un} (h:ykz s=some u):0<u.f.num:=by
 have h1:=Rat.num_nonneg.2 (v5g h);have h2:=(xk3 h).2.2
 have h3:u.f.num≠0:=fun e=>h2 (Rat.num_eq_zero.1 e)
 omega
theorem xse:symF ⟨#[]⟩=none:=by kernel_rfl
theorem zdc {s:ByteArray} (h:s.size<2):symF (wcs s 1)=none:=by
 have e:wcs s 1=⟨#[]⟩:=ByteArray.ext (Array.eq_empty_of_size_eq_zero (by have:=yxt s 1;have h2:(wcs s 1).size=(wcs s 1).data.size:=rfl;omega));rw [e];exact xse
theorem yu2 (s:ByteArray) (hs:s.size<=1073741824):CallsD Γ prog 209 [.one (cS s)] (.tup [.agg (unO (ykz s)),.one (cB (ykz s).isSome)]):=by
 refine CallsD.run [] Go.Proofs.Tryz.func209 rfl rfl rfl ?_;simp only [Go.Proofs.Tryz.f209];refine hgR ?_;refine v6l (vka s) ?_
 cases hy:symF s with
 | some u=>
  conv=>simp (maxSteps:=2000000) (disch:=omega) only [go_sem,Nat.reduceAdd,Nat.reduceSub,Nat.reduceMul,Int.reduceToNat,Nat.reduceEqDiff,Nat.reduceBEq,Nat.reduceBneDiff,Nat.reduceLT,Int.reduceEq,Int.reduceLT,Int.reduceLE,Int.reduceNeg,Int.reduceAdd,Int.reduceSub,Int.reduceMul,unO,Option.isSome]
  exact RLe.ofEq (by simp only [ykz,hy];rfl)
 | none=>
  conv=>simp (maxSteps:=2000000) (disch:=omega) only [go_sem,Nat.reduceAdd,Nat.reduceSub,Nat.reduceMul,Int.reduceToNat,Nat.reduceEqDiff,Nat.reduceBEq,Nat.reduceBneDiff,Nat.reduceLT,Int.reduceEq,Int.reduceLT,Int.reduceLE,Int.reduceNeg,Int.reduceAdd,Int.reduceSub,Int.reduceMul,unO,Option.isSome]
  refine vnx (fun hlt _=>?_) (fun hge _=>?_)
  . refine hg ?_;exact RLe.ofEq (by simp only [ykz,hy,zdc (show s.size<2 by omega)];cases (preF (x41 s 0)).isSome<;>rfl)
  refine hg ?_;refine v6l (yoc _) ?_
  cases hp:preF (x41 s 0) with
  | none=>
   conv=>simp (maxSteps:=2000000) (disch:=omega) only [go_sem,Nat.reduceAdd,Nat.reduceSub,Nat.reduceMul,Int.reduceToNat,Nat.reduceEqDiff,Nat.reduceBEq,Nat.reduceBneDiff,Nat.reduceLT,Int.reduceEq,Int.reduceLT,Int.reduceLE,Int.reduceNeg,Int.reduceAdd,Int.reduceSub,Int.reduceMul,prQ,hp,frO,Option.map_none,Option.isSome]
   refine v6l (vka _) ?_
   cases hy2:symF (wcs s 1)<;>
   . conv=>simp (maxSteps:=2000000) (disch:=omega) only [go_sem,Nat.reduceAdd,Nat.reduceSub,Nat.reduceMul,Int.reduceToNat,Nat.reduceEqDiff,Nat.reduceBEq,Nat.reduceBneDiff,Nat.reduceLT,Int.reduceEq,Int.reduceLT,Int.reduceLE,Int.reduceNeg,Int.reduceAdd,Int.reduceSub,Int.reduceMul,unO,Option.isSome]
     exact RLe.ofEq (by simp only [ykz,hy,hp];rfl)
  | some p=>
   conv=>simp (maxSteps:=2000000) (disch:=omega) only [go_sem,Nat.reduceAdd,Nat.reduceSub,Nat.reduceMul,Int.reduceToNat,Nat.reduceEqDiff,Nat.reduceBEq,Nat.reduceBneDiff,Nat.reduceLT,Int.reduceEq,Int.reduceLT,Int.reduceLE,Int.reduceNeg,Int.reduceAdd,Int.reduceSub,Int.reduceMul,prQ,hp,frO,Option.map_some,Option.isSome]
   refine v6l (vka _) ?_
   cases hy2:symF (wcs s 1) with
   | none=>
    conv=>simp (maxSteps:=2000000) (disch:=omega) only [go_sem,Nat.reduceAdd,Nat.reduceSub,Nat.reduceMul,Int.reduceToNat,Nat.reduceEqDiff,Nat.reduceBEq,Nat.reduceBneDiff,Nat.reduceLT,Int.reduceEq,Int.reduceLT,Int.reduceLE,Int.reduceNeg,Int.reduceAdd,Int.reduceSub,Int.reduceMul,unO,Option.isSome]
    exact RLe.ofEq (by simp only [ykz,hy,hp,hy2];rfl)
   | some u=>
    obtain ⟨_,hu1,_⟩:=xhk hy2;obtain ⟨hp1,hp2⟩:=zz2 hp;obtain ⟨hf1,_⟩:=x8s hp1 hp2
    conv=>simp (maxSteps:=2000000) (disch:=omega) only [go_sem,Nat.reduceAdd,Nat.reduceSub,Nat.reduceMul,Int.reduceToNat,Nat.reduceEqDiff,Nat.reduceBEq,Nat.reduceBneDiff,Nat.reduceLT,Int.reduceEq,Int.reduceLT,Int.reduceLE,Int.reduceNeg,Int.reduceAdd,Int.reduceSub,Int.reduceMul,unO,Option.isSome]
    repeat' ((first | refine hfk ?_ ?_<;>intros | refine hik ?_ | with_reducible first | refine v6l (x3u _ _ (Nat.le_trans hu1 (by decide)) (Nat.le_trans hf1 (by decide))) ?_ | refine vgi (x3u _ _ (Nat.le_trans hu1 (by decide)) (Nat.le_trans hf1 (by decide))) ?_)<;>refine hgS ?_)
    all_goals exact RLe.ofEq (by simp only [ykz,hy,hp,hy2];simp [wem, *])
theorem xca (f:Rat) (x:Int) (hx:x.natAbs<=1000) (hf:qs f<=1000) (hf0:0<f.num):CallsD Γ prog 210 [.agg (fQ f),.one (cI x)] (.agg (fQ (ymb (1:Int) f x))):=by
 have h1:=wof (Γ:=Γ) 1 (by decide);have q1:=zn5;by_cases hp:0<x
 . have hneg:decide (x<0)=false:=decide_eq_false (by omega);refine CallsD.run [] Go.Proofs.Tryz.func210 rfl rfl rfl ?_;simp only [Go.Proofs.Tryz.f210];refine hgR ?_;refine v6l h1 ?_;refine hg ?_;refine y55 [1,2,4,5] (fun i:Nat=>[(6,.one (.dat (cI i)))]) (fun i=>[.box ((fQ f).map .dat) (some 33),.box [.dat (cI 0),.dat .zc,.dat (cI 0),.dat .zc] (some 33),.box ((fQ (pw (1:Int) f x i)).map .dat) (some 33)]) (fun i=>i<=x.natAbs) (fun i=>x.natAbs-i) 0 (Nat.zero_le _) ?_ ?_
   . refine hg ?_;exact StH.same svl (by rw [wuy])
   intro i hi;have hq:=zki (1:Int) f x i;have hm:i*(qs f+1)<=1000*1001:=Nat.mul_le_mul (by omega) (by omega);refine hg ?_;refine vnx (fun hlt _=>?_) (fun hlt _=>?_)
   . refine hg ?_
     repeat' ((first | refine hfk ?_ ?_<;>intros | refine hik ?_ | with_reducible first | refine v6l (x3u (pw (1:Int) f x i) f (by omega) (by omega)) ?_ | refine vgi (x3u (pw (1:Int) f x i) f (by omega) (by omega)) ?_)<;>refine hgS ?_)
     exact ⟨i+1,by omega,by omega,StH.same svl (by rw [xg4 hp])⟩
   . have e:i=x.natAbs:=by omega
     refine hg ?_;refine zum ?_;refine hg1 @hneg ?_;exact RLe.ofEq (by rw [xbq,<-e])
 . have hneg:decide ((0:Int)<x)=false:=decide_eq_false hp;refine CallsD.run [] Go.Proofs.Tryz.func210 rfl rfl rfl ?_;simp only [Go.Proofs.Tryz.f210];refine hgR ?_;refine v6l h1 ?_;refine hg ?_;refine zum ?_;refine hg1 @hneg ?_;refine y55 [1,2,4,5] (fun i:Nat=>[(7,.one (.dat (cI (-(i:Int)))))]) (fun i=>[.box ((fQ f).map .dat) (some 33),.box [.dat (cI 0),.dat .zc,.dat (cI 0),.dat .zc] (some 33),.box ((fQ (pw (1:Int) f x i)).map .dat) (some 33)]) (fun i=>i<=x.natAbs) (fun i=>x.natAbs-i) 0 (Nat.zero_le _) ?_ ?_
   . refine hg ?_;exact StH.same svl (by rw [wuy])
   intro i hi;have hq:=zki (1:Int) f x i;have hm:i*(qs f+1)<=1000*1001:=Nat.mul_le_mul (by omega) (by omega);refine hg ?_;refine vnx (fun hlt _=>?_) (fun hlt _=>?_)
   . refine hg ?_
     repeat' ((first | refine hfk ?_ ?_<;>intros | refine hik ?_ | with_reducible first | refine v6l (vwp (pw (1:Int) f x i) f hf0 (by omega) (by omega)) ?_ | refine vgi (vwp (pw (1:Int) f x i) f hf0 (by omega) (by omega)) ?_)<;>refine hgS ?_)
     refine ⟨i+1,by omega,by omega,?_⟩;rw [show (-(i:Int)-1) = -((i+1:Nat):Int) by omega];exact StH.same svl (by rw [zqi hp])
   . have e:i=x.natAbs:=by omega
     refine hg ?_;exact RLe.ofEq (by rw [xbq,<-e])
theorem yt4 (s:ByteArray) (k i:Nat) (h:k+i<s.size):x41 (wcs s k) i=x41 s (k+i):=by
 have h':k+i<s.data.size:=h;unfold x41 wcs;rw [ByteArray.data_extract,Array.getElem?_extract,if_pos (by simp only [Nat.min_def];split<;>simp_all<;>omega)]
theorem v5q (s:ByteArray) (a k:Nat):wcs (wcs s a) k=wcs s (a+k):=by
 unfold wcs;apply ByteArray.ext;simp only [ByteArray.data_extract,ByteArray.size_extract,Array.extract_extract]
 congr 1
 omega
theorem vuz (s:ByteArray) (a n:Nat) (ha:a<=n) (hn:n<=s.size):zt0 (wcs s a) (n-a)=s.extract a n:=by
 unfold wcs zt0;apply ByteArray.ext;simp only [ByteArray.data_extract,Array.extract_extract]
 congr 1
 omega
theorem ycn (c:UInt8) (s:ByteArray):wcs (⟨#[c]⟩++s) 1=s:=by
 unfold wcs;apply ByteArray.ext;rw [ByteArray.data_extract,ByteArray.data_append,ByteArray.size_append];have h1:(⟨#[c]⟩:ByteArray).size=1:=rfl;have h2:(⟨#[c]⟩:ByteArray).data=#[c]:=rfl;rw [h1,h2];apply Array.ext
 . have:s.size=s.data.size:=rfl
   simp only [Array.size_extract,Array.size_append,List.size_toArray,List.length_cons,List.length_nil];omega
 . intro i h3 h4;rw [Array.getElem_extract,Array.getElem_append_right (by simp)]
   try simp
theorem wfa {s:ByteArray} (h:1<=s.size):vhb s ⟨#[49]⟩=decide (x41 s 0=49):=by
 unfold vhb;rw [show ((⟨#[49]⟩:ByteArray).size)=1 from rfl,decide_eq_true (show ((1:Nat):Int)<=s.size by omega),Bool.true_and,z9f];refine decide_eq_decide.2 ⟨fun e=>?_,fun e=>?_⟩
 . have h':0<s.data.size:=h
   have h1:x41 (zt0 s 1) 0=49:=by rw [e];rfl
   unfold x41 zt0 at h1;rw [ByteArray.data_extract,Array.getElem?_extract,if_pos (by simp only [Nat.min_def];split<;>simp_all<;>omega)] at h1;simpa [x41] using h1
 . have h':0<s.data.size:=h;unfold x41 at e;rw [Array.getElem?_eq_getElem h'] at e;simp only [Option.getD_some] at e;have e2:s.data[0]=49:=UInt8.toNat_inj.1 (by have:(s.data[0]).toNat=49:=(by omega);rw [this];rfl);unfold zt0;apply ByteArray.ext;rw [ByteArray.data_extract];apply Array.ext
   . simp;omega
   . intro i h1 h2
     have hi:i=0:=by simp at h2;omega
     subst hi;rw [Array.getElem_extract];simpa using e2
def spI (r:ByteArray):List Cell:=bif zr8 r then itC (vl9 r) else [cS ⟨⟨[]⟩⟩,cI 0]
def spN (s:ByteArray) (a:Nat):Nat:=bif zr8 (wcs s a) then s.size-(x9p (wcs s a)).size else a
theorem ys2 {s:ByteArray} (h:z1a yio (wcs s a)=0):zr8 (wcs s a)=false:=by
 unfold zr8;rw [h];rfl
theorem vvt {s:ByteArray} {n:Nat} (ha:a<n) (hn:n<=s.size) (h:z1a yio (wcs s a)=n-a):zr8 (wcs s a)=true/\y6h (wcs s a)=wcs s n/\(vl9 (wcs s a)).w=s.extract a n/\
 x6x (wcs s a)=(decide (n<s.size)&&decide (50<=x41 s n)&&decide (x41 s n<=57)):=by
 have e1:y6h (wcs s a)=wcs s n:=by
  unfold y6h;rw [h,v5q]
  congr 1
  omega
 refine ⟨?_,e1,?_,?_⟩
 . unfold zr8;rw [h];exact decide_eq_true (by omega)
 . unfold vl9;show zt0 (wcs s a) (z1a yio (wcs s a))=_;rw [h,vuz s a n (by omega) hn]
 . unfold x6x;rw [e1,yxt];by_cases hlt:n<s.size
   . rw [decide_eq_true hlt,decide_eq_true (show ¬s.size-n=0 by omega),yt4 s n 0 (by omega),Nat.add_zero]
   . rw [decide_eq_false hlt,decide_eq_false (show ¬¬s.size-n=0 by omega)];rfl
theorem yc3 {s:ByteArray} {n:Nat} (ha:a<n) (hn:n<=s.size) (h:z1a yio (wcs s a)=n-a) (hd:(decide (n<s.size)&&decide (50<=x41 s n)&&decide (x41 s n<=57))=true) :
 spI (wcs s a)=[cS (s.extract a n),cI (x41 s n-48)]/\spN s a=n+1/\zr8 (wcs s a)=true:=by
 obtain ⟨h1,h2,h3,h4⟩:=vvt ha hn h;rw [hd] at h4
 have hlt:n<s.size:=by
  simp only [Bool.and_eq_true,decide_eq_true_eq] at hd;exact hd.1.1
 refine ⟨?_,?_,h1⟩
 . unfold spI;rw [h1,cond_true]
   have e:(vl9 (wcs s a)).e=x41 s n-48:=by
    unfold vl9;rw [h4];show x41 (y6h (wcs s a)) 0-48=_;rw [h2,yt4 s n 0 (by omega),Nat.add_zero]
   rw [itC,h3,e]
 . unfold spN x9p;rw [h1,h4,cond_true,cond_true,h2,v5q,yxt];omega
theorem y5e {s:ByteArray} {n:Nat} (ha:a<n) (hn:n<=s.size) (h:z1a yio (wcs s a)=n-a) (hd:(decide (n<s.size)&&decide (50<=x41 s n)&&decide (x41 s n<=57))=false) :
 spI (wcs s a)=[cS (s.extract a n),cI 1]/\spN s a=n/\zr8 (wcs s a)=true:=by
 obtain ⟨h1,h2,h3,h4⟩:=vvt ha hn h;rw [hd] at h4;refine ⟨?_,?_,h1⟩
 . unfold spI;rw [h1,cond_true]
   have e:(vl9 (wcs s a)).e=1:=by
    unfold vl9;rw [h4];rfl
   rw [itC,h3,e]
 . unfold spN x9p;rw [h1,h4,cond_true,cond_false,h2,yxt];omega
theorem xs4 (s:ByteArray) (a:Nat) (hs:s.size<=1073741824) (ha:a<=s.size):CallsD Γ prog 241 [.one (cS s),.one (cI a)] (.tup [.agg (spI (wcs s a)),.one (cI (spN s a)),.one (cB (zr8 (wcs s a)))]):=by
 have hsz:=yxt s a;refine CallsD.run [] Go.Proofs.Tryz.func241 rfl rfl rfl ?_;simp only [Go.Proofs.Tryz.f241];refine hgR ?_;refine y55 [0,1,4] (fun n:Nat=>[(7,.one (.dat (cI n)))]) (fun _=>[.box [.dat (cS ⟨⟨[]⟩⟩),.dat (cI 0)] (some 241)]) (fun n=>a<=n/\n<=s.size/\∀ j,a<=j->j<n->yio (x41 s j)=true) (fun n=>s.size-n) a ⟨Nat.le_refl _,ha,fun j h1 h2=>by omega⟩ ?_ ?_
 . refine hg ?_;exact StH.same svl rfl
 intro n hn;obtain ⟨h1,h2,hj⟩:=hn
 have hj':∀ j,j<n-a->yio (x41 (wcs s a) j)=true:=fun j h=>by
  rw [yt4 _ _ _ (by omega)];exact hj _ (by omega) (by omega)
 refine hg ?_;refine vtf (fun hlt hd=>?_) (fun hlt _=>?_)
 . have hmin:min (n:Int) ((s.size:Int)-1)=n:=by omega
   refine hg2 @hd @hmin ?_;refine v6l (y06 _) ?_;refine hg ?_;refine wdg (fun h3=>?_) (fun h3=>?_)
   . refine hg ?_;refine ⟨n+1,⟨by omega,by omega,fun j g1 g2=>?_⟩,by omega,StH.same svl rfl⟩
     rcases Nat.lt_or_eq_of_le (Nat.le_of_lt_succ g2) with g | g
     . exact hj j g1 g
     . rw [g];exact h3
   have hsp:=xwo (p:=yio) (s:=wcs s a) (n:=n-a) (by omega) hj' (.inr (by rw [yt4 _ _ _ (by omega),show a+(n-a)=n by omega];exact h3));refine hg ?_;refine vnx (fun he _=>?_) (fun he _=>?_)
   . have e:n=a:=by omega
     subst e;refine hg ?_;have e2:=ys2 (s:=s) (a:=n) (by rw [hsp];omega);exact RLe.ofEq (by unfold spI spN;rw [e2];rfl)
   have hn1:decide (n<s.size)=true:=decide_eq_true (by omega);refine hg2 @hd @hmin ?_
   repeat' ((first | refine hfk ?_ ?_<;>intros | refine hik ?_)<;>refine hgS ?_)
   . obtain ⟨g1,g2,g3⟩:=yc3 (s:=s) (a:=a) (n:=n) (by omega) h2 hsp (by simp [*]);exact RLe.ofEq (by rw [g1,g2,g3];rfl)
   all_goals
    obtain ⟨g1,g2,g3⟩:=y5e (s:=s) (a:=a) (n:=n) (by omega) h2 hsp (by simp [*]);exact RLe.ofEq (by rw [g1,g2,g3])
 . have hsp:=xwo (p:=yio) (s:=wcs s a) (n:=n-a) (by omega) hj' (.inl (by omega));refine hgS ?_;refine vnx (fun he _=>?_) (fun he _=>?_)
   . have e:n=a:=by omega
     subst e;refine hg ?_;have e2:=ys2 (s:=s) (a:=n) (by rw [hsp];omega);exact RLe.ofEq (by unfold spI spN;rw [e2];rfl)
   refine hgS ?_;obtain ⟨g1,g2,g3⟩:=y5e (s:=s) (a:=a) (n:=n) (by omega) h2 hsp (by rw [decide_eq_false (show ¬n<s.size by omega)];rfl)
   repeat' ((first | refine hfk ?_ ?_<;>intros | refine hik ?_)<;>refine hgS ?_)
   all_goals exact RLe.ofEq (by rw [g1,g2,g3])
theorem wqj {x:ByteArray} (h:x.size=0):x=⟨#[]⟩:=ByteArray.ext (Array.eq_empty_of_size_eq_zero h)
theorem v1b (s:ByteArray):wcs s 0=s:=by
 unfold wcs;apply ByteArray.ext;rw [ByteArray.data_extract];exact Array.extract_size
theorem ypn {s:ByteArray} (ha:a<=s.size):spN s a<=s.size:=by
 unfold spN
 cases zr8 (wcs s a) with
 | true=>simp
 | false=>simpa using ha
theorem wqm {s:ByteArray} (h:zr8 (wcs s a)=true):wcs s (spN s a)=x9p (wcs s a):=by
 unfold spN;rw [h,cond_true];unfold x9p y6h
 cases x6x (wcs s a) with
 | true=>
  simp only [cond_true,v5q];by_cases hl:a+z1a yio (wcs s a)+1<=s.size
  . refine congrArg (wcs s) ?_;rw [yxt];omega
  . have e1:(wcs s (a+z1a yio (wcs s a)+1)).size=0:=by rw [yxt];omega
    rw [e1,Nat.sub_zero]
    have e2:(wcs s s.size).size=0:=by rw [yxt];omega
    exact (wqj e2).trans (wqj e1).symm
 | false=>
  simp only [cond_false,v5q];by_cases hl:a+z1a yio (wcs s a)<=s.size
  . refine congrArg (wcs s) ?_;rw [yxt];omega
  . have e1:(wcs s (a+z1a yio (wcs s a))).size=0:=by rw [yxt];omega
    rw [e1,Nat.sub_zero]
    have e2:(wcs s s.size).size=0:=by rw [yxt];omega
    exact (wqj e2).trans (wqj e1).symm
def wol (s:ByteArray) (p:Nat×List It) (k:Nat):Prop:=p.1<=s.size/\(wcs s p.1).size<k/\p.2.length+(wcs s p.1).size<=100/\ymw k (wcs s p.1) p.2=vhi s
def Hid (p:Prop):Prop:=p
theorem v6c (s:ByteArray) (hs:s.size<=1073741824):CallsD Γ prog 208 [.one (cS s)] (.tup [.one (.sl 2 ((itO (vhi s)).map It.C)),.one (cB (vhi s).isSome)]):=by
 by_cases h0:s.size=0
 . have hi:vhi s=some []:=by unfold vhi;rw [decide_eq_true h0];rfl
   rw [hi];refine CallsD.run [] Go.Proofs.Tryz.func208 rfl rfl rfl ?_;simp only [Go.Proofs.Tryz.f208];refine hgR ?_;refine hg1 @h0 ?_
   repeat' ((first | refine hfk ?_ ?_<;>intros | refine hik ?_)<;>refine hgS ?_)
   exact .tup (.cons (.one (.nilSl 2)) (.cons (.refl _) .nil))
 by_cases h40:40<(s.size:Int)
 . have hi:vhi s=none:=by unfold vhi;rw [decide_eq_false h0,decide_eq_true h40];rfl
   rw [hi];clear hi;have d0:decide (s.size=0)=false:=decide_eq_false h0;have d1:decide (40<(s.size:Int))=true:=decide_eq_true h40;refine CallsD.run [] Go.Proofs.Tryz.func208 rfl rfl rfl ?_;simp only [Go.Proofs.Tryz.f208];refine hgR ?_
   repeat' ((first | refine hfk ?_ ?_<;>intros | refine hik ?_)<;>refine hgS ?_)
   all_goals first
    | exact .tup (.cons (.one (.nilSl 2)) (.cons (.refl _) .nil))
    | (exfalso;simp_all;done)
 have hF:vhi s=ymw (s.size+2) (ztm s) []:=by unfold vhi;rw [decide_eq_false h0,decide_eq_false h40];rfl
 have hP:=wfa (s:=s) (by omega);have c0:=xs4 (Γ:=Γ) s 0 hs (Nat.zero_le _);rw [v1b] at c0
 have hinv:∀ p k,wol s p k->ymw k (wcs s p.1) p.2=vhi s:=fun p k h=>h.2.2.2
 have hst:x41 s 0=49->wol s (1,[]) (s.size+2):=fun h=>by
  have e:ztm s=wcs s 1:=by unfold ztm;rw [hP,decide_eq_true h];rfl
  have h1:=yxt s 1;exact ⟨by simp only;omega,by simp only;omega,by simp only [List.length_nil];omega,by simp only;rw [hF,e]⟩
 have hsplit:¬x41 s 0=49->vhi s=bif zr8 s then ymw (s.size+1) (x9p s) [vl9 s] else none:=fun h=>by
  have e:ztm s=⟨#[42]⟩++s:=by unfold ztm;rw [hP,decide_eq_false h];rfl
  rw [hF,e,ymw]
  have hs1:(⟨#[42]⟩++s:ByteArray).size=1+s.size:=by rw [ByteArray.size_append];rfl
  have hb:x41 (⟨#[42]⟩++s) 0=42:=by
   unfold x41
   have:(⟨#[42]⟩++s:ByteArray).data=#[42]++s.data:=by simp
   rw [this,Array.getElem?_append_left (by simp)];rfl
  rw [decide_eq_false (show ¬(⟨#[42]⟩++s:ByteArray).size=0 by omega),ycn,hb,cond_false]
  cases zr8 s with
  | false=>rfl
  | true=>rfl
 have hnext:¬x41 s 0=49->zr8 s=true->wol s (spN s 0,[vl9 s]) (s.size+1):=fun h hok=>by
  have e:=wqm (s:=s) (a:=0) (by rw [v1b];exact hok);rw [v1b] at e;have h2:=x87 s;have h3:=hsplit h;rw [hok,cond_true] at h3;exact ⟨ypn (Nat.zero_le _),by simp only;rw [e];omega,by simp only [List.length_singleton];rw [e];omega,by simp only;rw [e,h3]⟩
 have hno:¬x41 s 0=49->zr8 s=false->vhi s=none:=fun h hok=>by rw [hsplit h,hok];rfl
 have hbody:∀ a acc k,wol s (a,acc) k->a<s.size->vhi s=(bif !zr8 (wcs s (a+1))||(decide (¬x41 s a=42)&&decide (¬x41 s a=47)) then none else ymw (k-1) (x9p (wcs s (a+1))) (acc++[y5c (x41 s a) (vl9 (wcs s (a+1)))])):=fun a acc k h ha=>by
  obtain ⟨g1,g2,g3,g4⟩:=h;simp only at g1 g2 g3 g4;have hd:=yxt s a;obtain ⟨k,rfl⟩:∃ m,k=m+1:=⟨k-1,by omega⟩;rw [ymw,decide_eq_false (show ¬(wcs s a).size=0 by omega),cond_false,v5q,yt4 s a 0 (by omega),Nat.add_zero] at g4;exact g4.symm
 clear hF hP hsplit;generalize hR:vhi s=R at *
 have bad:∀ b,R=none->b=false->RLe (.tup [.one (.raw (.slice none 0 0)),.one (cB b)]) (.tup [.one (.sl 2 ((itO R).map It.C)),.one (cB R.isSome)]):=fun b h hb=>by
  rw [h,hb];exact .tup (.cons (.one (.nilSl 2)) (.cons (.refl _) .nil))
 have hno':Hid (¬x41 s 0=49->zr8 s=false->R=none):=hno;have hbody':Hid (∀ a acc k,wol s (a,acc) k->a<s.size->R=(bif !zr8 (wcs s (a+1))||(decide (¬x41 s a=42)&&decide (¬x41 s a=47)) then none else ymw (k-1) (x9p (wcs s (a+1))) (acc++[y5c (x41 s a) (vl9 (wcs s (a+1)))]))):=hbody;clear hno hbody hinv;refine CallsD.run [(13,[.join])] Go.Proofs.Tryz.func208 rfl rfl rfl ?_;simp only [Go.Proofs.Tryz.f208];refine hgR ?_
 repeat' ((first | refine hfk ?_ ?_<;>intros | refine hik ?_)<;>refine hgS ?_)
 . exfalso;omega
 refine ztg [0,2,3] (fun p:Nat×List It=>[(4,.one (.sl 0 2 0 p.2.length)),(5,.one (.dat (cI p.1)))]) (fun p=>[.arr (.sl 2 (p.2.map It.C)) 0 (some 241)]) (fun p=>∃ k,wol s p k) ?_ ?_
 . by_cases h1:x41 s 0=49
   . refine hg1 @h1 ?_;refine ⟨(1,[]),⟨_,hst h1⟩,?_⟩;refine StH.trans (StH.empty (d:=4) (es:=2) (c:=.sl 2 []) (T:=some 241) rfl rfl (fun r hr=>by cases hr) rfl) ?_;refine hg ?_;exact StH.same svl rfl
   . cases hok:zr8 s with
     | false=>
      unfold spI spN at c0;rw [v1b,hok] at c0;simp only [cond_false] at c0;refine hg ?_
      repeat' ((first | refine hfk ?_ ?_<;>intros | refine hik ?_ | refine v6l c0 ?_ | refine vgi c0 ?_)<;>refine hgS ?_)
      all_goals first
       | exact bad _ (hno' h1 hok) rfl
       | (exfalso;simp_all;done)
     | true=>
      unfold spI at c0;rw [hok] at c0;simp only [cond_true] at c0;refine hg ?_
      repeat' ((first | refine hfk ?_ ?_<;>intros | refine hik ?_ | refine v6l c0 ?_ | refine vgi c0 ?_)<;>refine hgS ?_)
      all_goals first
       | (exfalso;simp_all;done)
       | skip
      all_goals refine ⟨(spN s 0,[vl9 s]),⟨_,hnext h1 hok⟩,?_⟩
      all_goals refine StH.back [0,2,3,4,5] 0 1 1 rfl rfl rfl rfl rfl (by kernel_rfl) (StH.same svl rfl)
 rintro ⟨a0,acc0⟩ ⟨k0,hk0⟩;refine hg ?_;refine y55 [0,2,3] (fun p:Nat×Nat×List It=>[(4,.one (.sl 0 2 0 p.2.2.length)),(5,.one (.dat (cI p.2.1)))]) (fun p=>[.arr (.sl 2 (p.2.2.map It.C)) 0 (some 241)]) (fun p=>wol s (p.2.1,p.2.2) p.1) (fun p=>s.size-p.2.1) (k0,a0,acc0) hk0 ?_ ?_
 . refine hg ?_;exact StH.same svl rfl
 rintro ⟨k,a,acc⟩ hk;simp only at hk;clear hk0 hst hnext hno' c0;refine hg ?_;refine vnx (fun hlt _=>?_) (fun hlt _=>?_)
 . have hlt':a<s.size:=by omega
   have hB:Hid (R=_):=hbody' a acc k hk hlt'
   have hacc:acc.length<=100:=by have:=hk.2.2.1;simp only at this;omega
   clear hbody';have c1:=xs4 (Γ:=Γ) s (a+1) hs (by omega);have hce:=z0m (wcs s (a+1))
   have e1:((a+1:Nat):Int)=(a:Int)+1:=by omega
   cases hok:zr8 (wcs s (a+1)) with
   | false=>
    unfold spI spN at c1;rw [hok,e1] at c1;simp only [cond_false] at c1
    have hB':Hid (R=none):=by unfold Hid at hB ⊢;rw [hB,hok];rfl
    clear hB hce hk;refine hg ?_
    repeat' ((first | refine hfk ?_ ?_<;>intros | refine hik ?_ | with_reducible first | refine hcA ?_ | refine hcB ?_)<;>refine hgS ?_)
    all_goals exact bad _ hB' rfl
   | true=>
    have hsp:=wqm hok;unfold spI at c1;rw [hok,e1] at c1;simp only [cond_true] at c1
    have hdone:∀ x:It,Hid (R=ymw (k-1) (x9p (wcs s (a+1))) (acc++[x]))->Hid (wol s (spN s (a+1),acc++[x]) (k-1)/\s.size-spN s (a+1)<s.size-a):=fun x h=>by
     obtain ⟨g1,g2,g3,g4⟩:=hk;simp only at g1 g2 g3 g4;have h1:=x87 (wcs s (a+1));have h2:=yxt s (a+1);have h3:=yxt s a;have h4:=yxt s (spN s (a+1));have h5:=ypn (s:=s) (a:=a+1) (by omega);rw [hsp] at h4;refine ⟨⟨h5,by simp only;rw [hsp];omega,by simp only [List.length_append,List.length_singleton];rw [hsp];omega,by simp only;rw [hsp,hR];exact Eq.symm h⟩,by omega⟩
    clear hk;generalize spN s (a+1)=b at c1 hsp hdone
    have hmap:∀ x:It,acc.map It.C++[itC x]=(acc++[x]).map It.C:=fun x=>by simp;rfl
    refine hg ?_
    repeat' ((first | refine hfk ?_ ?_<;>intros | refine hik ?_ | with_reducible first | refine hcA ?_ | refine hcB ?_)<;>refine hgS ?_)
    . have hb:x41 s a=47:=by assumption
      have h':R=ymw (k-1) (x9p (wcs s (a+1))) (acc++[⟨(vl9 (wcs s (a+1))).w,0-(vl9 (wcs s (a+1))).e⟩]):=by
       have h2:R=_:=hB;rw [h2,hok,hb];rfl
      obtain ⟨i1,i2⟩:=hdone ⟨(vl9 (wcs s (a+1))).w,0-(vl9 (wcs s (a+1))).e⟩ h';refine ⟨(k-1,b,acc++[⟨(vl9 (wcs s (a+1))).w,0-(vl9 (wcs s (a+1))).e⟩]),i1,i2,?_⟩;rw [hmap ⟨(vl9 (wcs s (a+1))).w,0-(vl9 (wcs s (a+1))).e⟩];refine StH.back [0,2,3,4,5] 0 2 1 rfl rfl rfl rfl rfl (by kernel_rfl) ?_;refine hg ?_;exact StH.same svl rfl
    . exfalso;simp_all
    . refine bad _ ?_ rfl;have h2:R=_:=hB;rw [h2,hok,show decide (¬x41 s a=42)=true from decide_eq_true (by assumption),show decide (¬x41 s a=47)=true from decide_eq_true (by assumption)];rfl
    . exfalso;omega
    . have hb:x41 s a=42:=Decidable.not_not.1 (by assumption)
      have h':R=ymw (k-1) (x9p (wcs s (a+1))) (acc++[vl9 (wcs s (a+1))]):=by
       have h2:R=_:=hB;rw [h2,hok,hb];rfl
      obtain ⟨i1,i2⟩:=hdone (vl9 (wcs s (a+1))) h';refine ⟨(k-1,b,acc++[vl9 (wcs s (a+1))]),i1,i2,?_⟩
      try rw [hmap (vl9 (wcs s (a+1)))]
      refine StH.back [0,2,3,4,5] 0 2 1 rfl rfl rfl rfl rfl (by kernel_rfl) ?_;refine hg ?_;exact StH.same svl rfl
 . obtain ⟨g1,g2,g3,g4⟩:=hk;simp only at g1 g2 g4;obtain ⟨k,rfl⟩:∃ m,k=m+1:=⟨k-1,by omega⟩;rw [ymw,decide_eq_true (show (wcs s a).size=0 by rw [yxt];omega),cond_true,hR] at g4;refine hg ?_;rw [<-g4];exact RLe.ofEq rfl
theorem y2c (a f:Rat) (x:Int):∀ i,pw a f x i=a*pw (1:Int) f x i
 | 0=>by rw [wuy,wuy];exact (Rat.mul_one a).symm
 | i+1=>by
  have ih:=y2c a f x i;by_cases h:0<x
  . rw [xg4 h,xg4 h,ih,Rat.mul_assoc]
  . rw [zqi h,zqi h,ih,Rat.div_def,Rat.div_def,Rat.mul_assoc]
theorem zit (a f:Rat) (x:Int):a*ymb (1:Int) f x=ymb a f x:=by
 rw [xbq,xbq,<-y2c]
theorem w4b (s:ByteArray) (hs:s.size<=1073741824):CallsD Γ prog 163 [.one (cS s)] (.tup [.agg (unO (zte s).1),.one (cI (zte s).2)]):=by
 refine CallsD.run [] Go.Proofs.Tryz.func163 rfl rfl rfl ?_;simp only [Go.Proofs.Tryz.f163];refine hgR ?_;refine v6l (v6c s hs) ?_
 cases hi:vhi s with
 | none=>
  conv=>simp (maxSteps:=2000000) (disch:=omega) only [go_sem,Nat.reduceAdd,Nat.reduceSub,Nat.reduceMul,Int.reduceToNat,Nat.reduceEqDiff,Nat.reduceBEq,Nat.reduceBneDiff,Nat.reduceLT,Int.reduceEq,Int.reduceLT,Int.reduceLE,Int.reduceNeg,Int.reduceAdd,Int.reduceSub,Int.reduceMul,Option.isSome,itO]
  exact RLe.ofEq (by simp only [zte,hi];rfl)
 | some l=>
  obtain ⟨hl,hx⟩:=yqi hi
  conv=>simp (maxSteps:=2000000) (disch:=omega) only [go_sem,Nat.reduceAdd,Nat.reduceSub,Nat.reduceMul,Int.reduceToNat,Nat.reduceEqDiff,Nat.reduceBEq,Nat.reduceBneDiff,Nat.reduceLT,Int.reduceEq,Int.reduceLT,Int.reduceLE,Int.reduceNeg,Int.reduceAdd,Int.reduceSub,Int.reduceMul,Option.isSome,itO]
  refine v6l (wof 1 (by decide)) ?_;refine hg ?_;refine y55 [2,4,6] (fun p:Nat×Un=>[(7,.one (.dat (cI p.1)))]) (fun p=>[.box (unZ.map .dat) (some 143),.box ((unC p.2).map .dat) (some 143)])
   (fun p=>p.1<=l.length/\p.2.d.le (27*p.1)/\qs p.2.f<=1+100*p.1/\wf3 (l.drop p.1) p.2=wf3 l ⟨Dm.zero,(1:Int)⟩) (fun p=>l.length-p.1) (0,⟨Dm.zero,(1:Int)⟩) ⟨Nat.zero_le _,by unfold Dm.le;decide,zn5,rfl⟩ ?_ ?_
  . refine hg ?_;exact StH.same svl rfl
  rintro ⟨i,u⟩ ⟨h1,h2,h3,h4⟩;simp only at h1 h2 h3 h4;refine hg ?_;refine vnx (fun hlt _=>?_) (fun hlt _=>?_)
  . have hlt':i<l.length:=by omega
    have hok:=hx _ (w4t hlt');rw [xqz hlt',wf3] at h4;refine hg ?_;refine v6l (yu2 _ (by have:=hok.2.1;omega)) ?_
    cases hw:ykz (l.getD i default).w with
    | none=>
     conv=>simp (maxSteps:=2000000) (disch:=omega) only [go_sem,Nat.reduceAdd,Nat.reduceSub,Nat.reduceMul,Int.reduceToNat,Nat.reduceEqDiff,Nat.reduceBEq,Nat.reduceBneDiff,Nat.reduceLT,Int.reduceEq,Int.reduceLT,Int.reduceLE,Int.reduceNeg,Int.reduceAdd,Int.reduceSub,Int.reduceMul,Option.isSome,unO]
     rw [hw] at h4;exact RLe.ofEq (by simp only [zte,hi,<-h4])
    | some v=>
     obtain ⟨hv1,hv2,hv3⟩:=xk3 hw;have hv4:=vuo hw;rw [hw] at h4;obtain ⟨b1,b2,b3,b4,b5,b6⟩:=h2;obtain ⟨d1,d2,d3,d4,d5,d6⟩:=hv1;have he:=hok.2.2;have c1:=yos d1 he;have c2:=yos d2 he;have c3:=yos d3 he;have c4:=yos d4 he;have c5:=yos d5 he;have c6:=yos d6 he
     have hq:qs (ymb u.f v.f (l.getD i default).e)<=qs u.f+9*(qs v.f+1):=by
      have:=zki u.f v.f (l.getD i default).e (l.getD i default).e.natAbs
      rw [<-xbq] at this;have h9:(l.getD i default).e.natAbs*(qs v.f+1)<=9*(qs v.f+1):=Nat.mul_le_mul_right _ (by omega);omega
     have hq1:qs (ymb (1:Int) v.f (l.getD i default).e)<=1+9*(qs v.f+1):=by
      have:=zki (1:Int) v.f (l.getD i default).e (l.getD i default).e.natAbs
      rw [<-xbq] at this;have h9:(l.getD i default).e.natAbs*(qs v.f+1)<=9*(qs v.f+1):=Nat.mul_le_mul_right _ (by omega)
      have:=zn5
      omega
     have hle:(u.d.acc v.d (l.getD i default).e).le (27*(i+1:Nat)):=by
      have:=Dm.v1r (x:=u.d) ⟨b1,b2,b3,b4,b5,b6⟩ ⟨d1,d2,d3,d4,d5,d6⟩ he
      rw [show (27*((i+1:Nat):Int))=27*i+27 from by omega];exact this
     have hm:=x3u (Γ:=Γ) u.f (ymb (1:Int) v.f (l.getD i default).e) (by omega) (by omega);rw [zit] at hm
     conv=>simp (maxSteps:=2000000) (disch:=omega) only [go_sem,Nat.reduceAdd,Nat.reduceSub,Nat.reduceMul,Int.reduceToNat,Nat.reduceEqDiff,Nat.reduceBEq,Nat.reduceBneDiff,Nat.reduceLT,Int.reduceEq,Int.reduceLT,Int.reduceLE,Int.reduceNeg,Int.reduceAdd,Int.reduceSub,Int.reduceMul,Option.isSome,unO]
     repeat' ((first | refine hfk ?_ ?_<;>intros | refine hik ?_ | with_reducible refine zum ?_ | with_reducible refine v3j ?_ | with_reducible first | refine hcA ?_ | refine hcB ?_ | refine v6l (xca v.f (l.getD i default).e (by omega) (by omega) hv4) ?_ | refine vgi (xca v.f (l.getD i default).e (by omega) (by omega) hv4) ?_)<;>refine hgS ?_)
     refine ⟨(i+1,⟨u.d.acc v.d (l.getD i default).e,ymb u.f v.f (l.getD i default).e⟩),?_,?_,?_⟩
     . dsimp only;exact ⟨by omega,hle,by omega,h4⟩
     . dsimp only;omega
     refine StH.back [2,4,6,7] 2 2 2 rfl rfl rfl rfl rfl (by kernel_rfl) ?_;refine hg ?_;exact StH.same svl rfl
  . have h4':wf3 l ⟨Dm.zero,(1:Int)⟩=some u:=by rw [<-h4,List.drop_eq_nil_of_le (by omega)];rfl
    refine hg ?_
    repeat' ((first | refine hfk ?_ ?_<;>intros | refine hik ?_ | with_reducible first | refine v6l (x5b _) ?_ | refine vgi (x5b _) ?_)<;>refine hgS ?_)
    all_goals
     rename_i hd;exact RLe.ofEq (by simp only [zte,hi,h4',hd];rfl)
theorem wji (s:ByteArray) (hs:s.size<=1073741824):CallsD Γ prog 163 [.one (cS s)] (.tup [.agg (unX (zte s).1),.one (cI (zte s).2)]):=by
 have:=w4b (Γ:=Γ) s hs
 rw [vtx] at this;exact this
theorem w8f (t:Tb) (h1:t.name.size<=1073741824) (h2:t.unit.size<=1073741824) (h3:t.rows.length<=1073741824):CallsD Γ prog 160 [.agg (tbC t)] (.one (cB (zi4 (fun s=>(zte s).2) t))):=by
 generalize hR:zi4 (fun s=>(zte s).2) t=R;have u1:=wji (Γ:=Γ) t.unit h2;have n1:=z2u (Γ:=Γ) t.name h1;refine CallsD.run [] Go.Proofs.Tryz.func160 rfl rfl rfl ?_;simp only [Go.Proofs.Tryz.f160];refine hgR ?_
 repeat' ((first | refine hfk ?_ ?_<;>intros | refine hik ?_ | with_reducible first | refine hcA ?_ | refine hcB ?_)<;>refine hgS ?_)
 all_goals first
  | (refine y55 [1] (fun i:Nat=>[(5,.one (.dat (cI i)))]) (fun _=>[.box ((tbC t).map .dat) (some 122),.box ((unX (zte t.unit).1).map .dat) (some 143)]) (fun i=>i<=t.rows.length/\∀ j,j<i->rowAt t.rows j=true) (fun i=>t.rows.length-i) 0 ⟨Nat.zero_le _,fun j hj=>by omega⟩ ?_ ?_)
  | (refine RLe.ofEq ?_;rw [<-hR];simp [zi4, *];done)
 . refine hg ?_;exact StH.same svl rfl
 rintro i ⟨hi,hj⟩
 have hbad:Hid (rowAt t.rows i=false->i<t.rows.length->R=false):=fun h h'=>by
  rw [<-hR];unfold zi4 zx5;rw [zch h' h,Bool.and_false]
 refine hg ?_
 repeat' ((first | refine hfk ?_ ?_<;>intros | refine hik ?_ | with_reducible first | refine v6l (wqk _) ?_ | refine vgi (wqk _) ?_)<;>refine hgS ?_)
 all_goals first
  | (refine RLe.ofEq ?_;rw [(hbad:rowAt t.rows i=false->i<t.rows.length->R=false) (by (refine bs1 @rowAt.eq_def ?_;try exact trivial)) (by omega)];done)
  | (refine ⟨i+1,⟨by omega,xrx hj (by (refine bs1 @rowAt.eq_def ?_;try exact trivial))⟩,by omega,StH.same svl rfl⟩)
  | (refine RLe.ofEq ?_;rw [<-hR,show zi4 (fun s=>(zte s).2) t=true from by unfold zi4 zx5;rw [ye8 (fun j hj'=>hj j (by omega))];simp [*]];done)
theorem vep [Inhabited α] {p:α->Bool} {l:List α} {n:Nat} (h1:i<n) (h2:i<l.length) (h:p (l.getD i default)=false):(l.take n).all p=false:=by
 cases e:(l.take n).all p with
 | false=>rfl
 | true=>
  have hm:l.getD i default∈l.take n:=by
   rw [show l.getD i default=l[i] from by simp [h2]];exact List.mem_take_iff_getElem.2 ⟨i,by omega,rfl⟩
  rw [List.all_eq_true.1 e _ hm] at h;cases h
theorem zpv [Inhabited α] {p:α->Bool} {l:List α} {n:Nat} (hj:∀ j,j<i->p (l.getD j default)=true) (h:i=n\/i=l.length):(l.take n).all p=true:=by
 rw [List.all_eq_true];intro y hy;obtain ⟨j,hj2,rfl⟩:=List.mem_take_iff_getElem.1 hy
 have:=hj j (by omega)
 rwa [show l.getD j default=l[j] from by simp [show j<l.length by omega]] at this
mutual
def Ex.has (op:Int) (nm:ByteArray):Ex->Bool
 | .mk o _ _ s l=>Ex.hasL op nm l||(decide (o=op)&&seq s nm)
def Ex.hasL (op:Int) (nm:ByteArray):List Ex->Bool
 | []=>false
 | y::l=>Ex.has op nm y||Ex.hasL op nm l
end
theorem any_true {p:Ex->Bool} {l:List Ex} (hj:j<l.length) (h:p (l.getD j default)=true):l.any p=true:=List.any_eq_true.2 ⟨_,w4t hj,h⟩
theorem any_false {p:Ex->Bool} {l:List Ex} (h:∀ j,j<l.length->p (l.getD j default)=false):l.any p=false:=by
 rw [List.any_eq_false];intro y hy;obtain ⟨j,hj,rfl⟩:=List.getElem_of_mem hy
 have:=h j hj
 rw [show l.getD j default=l[j] from by simp [hj]] at this;simp [this]
theorem znd {q:Rat}:∀{l:List Rw} {j:Nat},j<aft q l->((l.getD j default).k:Rat)<=q
 | [],j,h=>by unfold aft at h;omega
 | x::l,j,h=>by
  unfold aft at h;by_cases hx:(x.k:Rat)<=q
  . rw [decide_eq_true hx,cond_true] at h
    cases j with
    | zero=>exact hx
    | succ j=>simpa using znd (l:=l) (j:=j) (by omega)
  . rw [decide_eq_false hx,cond_false] at h;omega
theorem xx3 {q:Rat}:∀{l:List Rw},aft q l<l.length->¬((l.getD (aft q l) default).k:Rat)<=q
 | [],h=>by simp at h
 | x::l,h=>by
  unfold aft at h ⊢;by_cases hx:(x.k:Rat)<=q
  . rw [decide_eq_true hx,cond_true] at h ⊢;simpa using xx3 (l:=l) (by simpa using h)
  . rw [decide_eq_false hx,cond_false];exact hx
theorem wn6 {q:Rat} {l:List Rw} (hs:Rows l) (hj:j<l.length):((l.getD j default).k:Rat)<=q↔j<aft q l:=by
 refine ⟨fun h=>?_,znd⟩
 rcases Nat.lt_or_ge j (aft q l) with h1 | h1
 . exact h1
 . have h2:=xx3 (q:=q) (l:=l) (by omega);exact absurd (Rat.le_trans (y6s (hs.mono h1 hj)) h) h2
theorem zhk (t:Tb) (q:Rat) (ht:zi4 (fun s=>(zte s).2) t=true) (hq:qs q<=67108864):CallsD Γ prog 215 [.agg (tbC t),.agg (qC (some q))] (.one (cI ((aft q t.rows:Int)-1))):=by
 obtain ⟨_,_,hl,hrows⟩:=yun ht;have hle:=xds q t.rows
 have hiff:=fun j hj=>wn6 (q:=q) hrows (j:=j) hj
 have v6l:∀ j,j<t.rows.length->CallsD Γ prog 165 [.one (cI (t.rows.getD j default).k)] (.agg (qC (some ((t.rows.getD j default).k:Rat))))/\CallsD Γ prog 159 [.agg (qC (some ((t.rows.getD j default).k:Rat))),.agg (qC (some q))] (.one (cI (cmpO (some ((t.rows.getD j default).k:Rat)) (some q))))/\(decide (cmpO (some ((t.rows.getD j default).k:Rat)) (some q)<=0)=decide (j<aft q t.rows)):=fun j hj=>by
  have hk:=wju (hrows j hj).1
  have hin:inI (t.rows.getD j default).k:=by unfold inI;omega
  have hz:=wtn hin;exact ⟨pInt _ hin,pCmp _ _ (by omega) hq,by rw [zps];exact decide_eq_decide.2 (hiff j hj)⟩
 clear hiff hrows ht;generalize hk:aft q t.rows=k at *;refine CallsD.run [] Go.Proofs.Tryz.func215 rfl rfl rfl ?_;simp only [Go.Proofs.Tryz.f215];refine hgR ?_;refine y55 [2,3] (fun i:Nat=>[(5,.one (.dat (cI ((min i k:Nat)-1:Int)))),(6,.one (.dat (cI i)))]) (fun _=>[.box ((tbC t).map .dat) (some 122),.box ((qC (some q)).map .dat) (some 33)]) (fun i=>i<=t.rows.length) (fun i=>t.rows.length-i) 0 (Nat.zero_le _) ?_ ?_
 . refine hg ?_;exact StH.same svl rfl
 intro i hi;refine hg ?_;refine vnx (fun hlt _=>?_) (fun hlt _=>?_)
 . obtain ⟨c1,c2,c3⟩:=v6l i (by omega);generalize cmpO (some ((t.rows.getD i default).k:Rat)) (some q)=c at c2 c3;refine hg ?_
   repeat' ((first | refine hfk ?_ ?_<;>intros | refine hik ?_ | with_reducible first | refine hcA ?_ | refine hcB ?_)<;>refine hgS ?_)
   . have hik:i<k:=by first | omega | simp_all
     refine ⟨i+1,by omega,by omega,?_⟩;rw [show ((min (i+1) k:Nat):Int)-1=(i:Int) by omega];exact StH.back [2,3,5,6] 0 0 2 rfl rfl rfl rfl rfl (by kernel_rfl) (StH.same svl rfl)
   . have hik:¬i<k:=by first | omega | simp_all
     refine ⟨i+1,by omega,by omega,?_⟩;rw [show ((min (i+1) k:Nat):Int)-1=(min i k:Nat)-1 by omega];exact StH.back [2,3,5,6] 0 0 2 rfl rfl rfl rfl rfl (by kernel_rfl) (StH.same svl rfl)
 . refine hg ?_;exact RLe.ofEq (by rw [show ((min i k:Nat):Int)-1=(k:Int)-1 by omega])
theorem ywq {s:ByteArray} {u:Un} (hs:s.size<=1073741824) (h:zte s=(some u,0)):CallsD Γ prog 163 [.one (cS s)] (.tup [.agg (unQ u),.one (cI 0)]):=by
 have hr:=wji (Γ:=Γ) s hs;rw [h] at hr;exact hr
theorem xkl (t:Tb) (i:Nat) (ht:zi4 (fun s=>(zte s).2) t=true) (hu:t.unit.size<=1073741824) (hi:i<t.rows.length):CallsD Γ prog 216 [.agg (tbC t),.one (cI i)] (.agg (qC (zxb t (t.rows.getD i default).v))):=by
 obtain ⟨⟨u,h1,h2⟩,_,hl,hrows⟩:=yun ht;have hn:=wju (hrows i hi).2.1
 have hin:inI (t.rows.getD i default).v:=by unfold inI;omega
 have hr:=ywq (Γ:=Γ) hu h1;have hz:=wtn hin;have hm:=pMul (Γ:=Γ) (some ((t.rows.getD i default).v:Rat)) (some u.f) (by omega) (by show qs u.f<=_;omega);have ho:=pInt (Γ:=Γ) (t.rows.getD i default).v hin;rw [show zxb t (t.rows.getD i default).v=mulO (some ((t.rows.getD i default).v:Rat)) (some u.f) by unfold zxb facO;rw [h1];rfl];refine CallsD.run [] Go.Proofs.Tryz.func216 rfl rfl rfl ?_;simp only [Go.Proofs.Tryz.f216];refine hgR ?_
 repeat' ((first | refine hfk ?_ ?_<;>intros | refine hik ?_ | with_reducible first | refine hcA ?_ | refine hcB ?_)<;>refine hgS ?_)
 all_goals refine lfE ?_;first | exact trivial | rfl
theorem zri (t:Tb) (v:Option Rat) (hv:qz v<=67108864) (h1:t.name.size<=1073741824) (h2:t.unit.size<=1073741824) (h3:t.rows.length<=1073741824):CallsD Γ prog 168 [.agg (tbC t),.agg (qC v)] (qR (wyo t v).1 (wyo t v).2):=by
 have hr:=w8f (Γ:=Γ) t h1 h2 h3
 cases ht:zi4 (fun s=>(zte s).2) t with
 | false=>
  rw [ht] at hr;rw [show wyo t v=(none,1) by unfold wyo;rw [ht];rfl];refine CallsD.run [] Go.Proofs.Tryz.func168 rfl rfl rfl ?_;simp only [Go.Proofs.Tryz.f168];refine hgR ?_
  repeat' ((first | refine hfk ?_ ?_<;>intros | refine hik ?_ | with_reducible first | refine hcA ?_ | refine hcB ?_)<;>refine hgS ?_)
  exact vmy
 | true=>
  rw [ht] at hr
  cases v with
  | none=>
   have hv2:CallsD Γ prog 158 [.agg (qC none)] (.one (cB false)):=vcj none (by omega);rw [show wyo t none=(none,1) by unfold wyo;rw [ht];rfl];refine CallsD.run [] Go.Proofs.Tryz.func168 rfl rfl rfl ?_;simp only [Go.Proofs.Tryz.f168];refine hgR ?_
   repeat' ((first | refine hfk ?_ ?_<;>intros | refine hik ?_ | with_reducible first | refine hcA ?_ | refine hcB ?_)<;>refine hgS ?_)
   exact vmy
  | some q=>
   have hv2:CallsD Γ prog 158 [.agg (qC (some q))] (.one (cB true)):=vcj (some q) (by omega);have ha:=zhk (Γ:=Γ) t q ht hv;have hle:=xds q t.rows;by_cases h0:aft q t.rows=0
   . rw [show wyo t (some q)=(none,4) by unfold wyo;rw [ht];simp only [Bool.not_true,cond_false,h0,decide_true,cond_true]];rw [h0] at ha;refine CallsD.run [] Go.Proofs.Tryz.func168 rfl rfl rfl ?_;simp only [Go.Proofs.Tryz.f168];refine hgR ?_
     repeat' ((first | refine hfk ?_ ?_<;>intros | refine hik ?_ | with_reducible first | refine hcA ?_ | refine hcB ?_)<;>refine hgS ?_)
     all_goals first
      | exact vmy
      | (exfalso;omega)
   . rw [show wyo t (some q)=(zxb t (t.rows.getD (aft q t.rows-1) default).v,0) by unfold wyo;rw [ht];simp only [Bool.not_true,cond_false,decide_eq_false h0]];have hw:=xkl (Γ:=Γ) t (aft q t.rows-1) ht h2 (by omega);rw [show ((aft q t.rows-1:Nat):Int)=(aft q t.rows:Int)-1 by omega] at hw;generalize aft q t.rows=k at *;refine CallsD.run [] Go.Proofs.Tryz.func168 rfl rfl rfl ?_;simp only [Go.Proofs.Tryz.f168];refine hgR ?_
     repeat' ((first | refine hfk ?_ ?_<;>intros | refine hik ?_ | with_reducible first | refine hcA ?_ | refine hcB ?_)<;>refine hgS ?_)
     all_goals first
      | (exfalso;omega)
      | refine lfE ?_;first | exact trivial | rfl
theorem yv4:∀ x:Ex,x.Sm->CallsD Γ prog 64 [.agg (exC x)] (.one (cB x.xi4)):=by
 refine Ex.ind (fun x ih hx=>?_);have hl:=hx.len;generalize hR:x.xi4=R;refine CallsD.run [] Go.Proofs.Tryz.func64 rfl rfl rfl ?_;simp only [Go.Proofs.Tryz.f64];refine hgR ?_;refine y55 [1] (fun n:Nat=>[(3,.one (.dat (cI n)))]) (fun _=>[.box ((exC x).map .dat) (some 24)]) (fun n=>n<=x.args.length/\∀ j,j<n->(x.args.getD j default).xi4=false) (fun n=>x.args.length-n) 0 ⟨Nat.zero_le _,fun j hj=>by omega⟩ ?_ ?_
 . refine hg ?_;exact StH.same svl rfl
 intro n hn;obtain ⟨hn,hj⟩:=hn;refine hg ?_
 repeat' ((first | refine hfk ?_ ?_<;>intros | refine hik ?_ | with_reducible first | refine v6l (ih _ (w4t (show n<x.args.length by omega)) (hx.arg _ (w4t (show n<x.args.length by omega)))) ?_ | refine vgi (ih _ (w4t (show n<x.args.length by omega)) (hx.arg _ (w4t (show n<x.args.length by omega)))) ?_)<;>refine hgS ?_)
 . rename_i h;exact RLe.ofEq (by rw [<-hR,Ex.wd9,any_true (by omega) h];simp)
 . rename_i h;exact ⟨n+1,⟨by omega,xf4 hj h⟩,by omega,StH.same svl rfl⟩
 all_goals
  have e:n=x.args.length:=by omega
  subst e;exact RLe.ofEq (by rw [<-hR,Ex.wd9,any_false hj];simp [*])
def tbO:Option Tb->List Cell
 | some t=>tbC t
 | none=>[cS ⟨⟨[]⟩⟩,cS ⟨⟨[]⟩⟩,.zc]
theorem ype {β:Type} [Inhabited β] {nm:β->ByteArray} {s:ByteArray}:∀{l:List β} {i:Nat},i<l.length->(∀ j,j<i->seq (nm (l.getD j default)) s=false)->seq (nm (l.getD i default)) s=true->fnd nm l s=some (l.getD i default)
 | [],i,h,_,_=>by simp at h
 | b::l,0,_,_,h=>by rw [yik,wda,show seq (nm b) s=true from h];rfl
 | b::l,i+1,hi,hj,h=>by
  have h0:seq (nm b) s=false:=hj 0 (by omega);rw [yik,wda,h0,cond_false,ype (l:=l) (i:=i) (by simpa using hi) (fun j hj'=>by simpa using hj (j+1) (by omega)) (by simpa using h)];rfl
theorem y19 {β:Type} [Inhabited β] {nm:β->ByteArray} {s:ByteArray} {l:List β} (h:∀ j,j<l.length->seq (nm (l.getD j default)) s=false):fnd nm l s=none:=by
 rw [wm9];intro hm;obtain ⟨b,hb,rfl⟩:=List.mem_map.1 hm;obtain ⟨j,hj,rfl⟩:=List.getElem_of_mem hb
 have:=h j hj
 rw [show l.getD j default=l[j] from by simp [hj],vw8] at this
 cases this
theorem vdv (ms:List Tb) (s:ByteArray) (hm:ms.length<=1073741824):CallsD Γ prog 110 [.one (.sl 3 (ms.map Tb.C)),.one (cS s)] (.tup [.agg (tbO (fnd Tb.name ms s)),.one (cB (fnd Tb.name ms s).isSome)]):=by
 generalize hR:fnd Tb.name ms s=R;refine CallsD.run [] Go.Proofs.Tryz.func110 rfl rfl rfl ?_;simp only [Go.Proofs.Tryz.f110];refine hgR ?_;refine y55 [0,1,4] (fun n:Nat=>[(6,.one (.dat (cI n)))]) (fun _=>[.box [.dat (cS ⟨⟨[]⟩⟩),.dat (cS ⟨⟨[]⟩⟩),.dat .zc] (some 122)]) (fun n=>n<=ms.length/\∀ j,j<n->seq (ms.getD j default).name s=false) (fun n=>ms.length-n) 0 ⟨Nat.zero_le _,fun j hj=>by omega⟩ ?_ ?_
 . refine hg ?_;exact StH.same svl rfl
 rintro n ⟨hn,hj⟩;refine hg ?_
 repeat' ((first | refine hfk ?_ ?_<;>intros | refine hik ?_)<;>refine hgS ?_)
 . rename_i h;rw [<-hR,ype (by omega) hj h];exact RLe.ofEq rfl
 . rename_i h;exact ⟨n+1,⟨by omega,xf4 hj h⟩,by omega,StH.same svl rfl⟩
 . have e:n=ms.length:=by omega
   subst e;rw [<-hR,y19 hj];exact RLe.ofEq rfl
end Go.Hp.T
namespace Go.Slot.T
open Go Go.RowKit Go.Slot
open Go.Proofs.Tryz (prog)
set_option maxRecDepth 10000
set_option maxHeartbeats 4000000
theorem v2q {α:Type} {l:List α} {i:Nat} (d:α) (h:i<l.length):l.take (i+1)=l.take i++[l.getD i d]:=by
 rw [List.take_add_one];simp [h]
theorem rFew (f:Fc) (n:Int) (_h1:f.L.length<=1099511627776) (_h2:f.M.length<=1099511627776) :
 yn2 prog 20 [.agg f.C,.one (.raw (.int .i64 n))] (.one (.raw (.bool (decide ((f.sz:Int)<=n))))):=by
 have e:((f.sz:Nat):Int)=max (f.L.length:Int) f.M.length:=by unfold Fc.sz;omega
 refine yn2.run [] Go.Proofs.Tryz.func20 rfl rfl ?_;simp only [Go.Proofs.Tryz.f20];refine rgR ?_;refine z4u (fun h=>?_) (fun h=>?_)
 . have h':=decide_eq_true h;refine rg1 @h' ?_;exact ⟨_,rfl,by rw [show decide ((f.sz:Int)<=n)=decide ((f.M.length:Int)<=n) from decide_eq_decide.2 (by omega)];exact .one (.refl _)⟩
 . have h':=decide_eq_false h;refine rg1 @h' ?_;exact ⟨_,rfl,by rw [decide_eq_false (by omega)];exact .one (.refl _)⟩
theorem wr8 (f:Fc) (h1:f.L.length<=1099511627776) (h2:f.M.length<=1099511627776) :
 yn2 prog 20 [.agg f.C,.one (.raw (.int .i64 4))] (.one (.raw (.bool (decide (f.sz<=4))))):=by
 have:=rFew f 4 h1 h2
 rwa [decide_eq_decide.2 (show (f.sz:Int)<=4↔f.sz<=4 by omega)] at this
theorem zoo (s:Int) (L:List Int) (s':Int) (M:List Int) (lL:L.length<=1073741824) (_lM:M.length<=1073741824) :
 yn2 prog 67 [.agg [.raw (.int .i64 s),.ints .i64 L],.agg [.raw (.int .i64 s'),.ints .i64 M]] (.one (.raw (.bool (decide (s=s'/\L=M))))):=by
 obtain ⟨r,hr⟩:∃ r,r=decide (s=s'/\L=M):=⟨_,rfl⟩;rw [<-hr]
 have bad:¬(s=s'/\L=M)->false=r:=fun h=>by rw [hr,decide_eq_false h]
 by_cases h1:s=s'
 . subst h1;by_cases h2:(L.length:Int)=M.length
   . have hl:L.length=M.length:=by omega
     have h2':¬((L.length:Int)≠M.length):=fun h=>h h2
     refine yn2.run [] Go.Proofs.Tryz.func67 rfl rfl ?_;simp only [Go.Proofs.Tryz.f67];refine rgR ?_;refine z08 (fun h=>absurd h h2') (fun _=>?_);refine rg ?_;refine vxs [] (fun i:Nat=>[(5,.one (.raw (.int .i64 i)))]) (fun i=>i<=L.length/\L.take i=M.take i) (fun i=>L.length-i) 0 ⟨Nat.zero_le _,rfl⟩ ?_ ?_
     . refine rg ?_;exact StLe.weaken (by repeat' first | exact .nil | refine .cons (by first | exact .refl _ | exact .any _) ?_) rfl
     rintro i ⟨hi,he⟩;refine rg ?_;refine z08 (fun h1=>?_) (fun h1=>?_)
     . have hg:∀(l:List Int),i<l.length->l.take (i+1)=l.take i++[l.getD i 0]:=fun l h=>v2q 0 h
       refine rg ?_;refine indk (by kernel_rfl) ?_;refine rg ?_;refine z08 (fun h2=>?_) (fun h2=>?_)
       . refine rg ?_;exact ⟨_,rfl,by rw [bad (fun e=>h2 (by rw [e.2]))];exact .one (.refl _)⟩
       . have h2:L.getD i 0=M.getD i 0:=by omega
         refine rg ?_;refine ⟨i+1,⟨by omega,?_⟩,by omega,StLe.weaken (by repeat' first | exact .nil | refine .cons (by first | exact .refl _ | exact .any _) ?_) rfl⟩;rw [hg L (by omega),hg M (by omega),he,h2]
     . have hi:i=L.length:=by omega
       subst hi;rw [List.take_length,hl,List.take_length] at he
       have e:true=r:=by rw [hr,decide_eq_true ⟨rfl,he⟩]
       refine rg ?_;exact ⟨_,rfl,by rw [e];exact .one (.refl _)⟩
   . have h2:(L.length:Int)≠M.length:=h2;refine yn2.run [] Go.Proofs.Tryz.func67 rfl rfl ?_;simp only [Go.Proofs.Tryz.f67];refine rgR ?_;refine z08 (fun _=>?_) (fun h=>absurd h2 h);refine rg ?_;exact ⟨_,rfl,by rw [bad (fun e=>h2 (by rw [e.2]))];exact .one (.refl _)⟩
 . have h1':=decide_eq_true (show s≠s' from h1);refine yn2.run [] Go.Proofs.Tryz.func67 rfl rfl ?_;simp only [Go.Proofs.Tryz.f67];refine rgR ?_;refine xjr (fun h=>absurd h1 h) (fun h=>?_);refine rg1 @h1' ?_;exact ⟨_,rfl,by rw [bad (fun e=>h1 e.1)];exact .one (.refl _)⟩
theorem ywv (a b:Fc) (ha:a.sz<=67108864) (hb:b.sz<=67108864):yn2 prog 42 [.agg a.C,.agg b.C] (.one (.raw (.bool (decide (a=b))))):=by
 have la:=szL ha;have lb:=szL hb;obtain ⟨r,hr⟩:∃ r,r=decide (a=b):=⟨_,rfl⟩;rw [<-hr];by_cases h:a.s=b.s/\a.L=b.L
 . have h1:=zoo a.s a.L b.s b.L (by omega) (by omega);rw [decide_eq_true h] at h1;have h2:=zoo a.t a.M b.t b.M (by omega) (by omega)
   have e:decide (a.t=b.t/\a.M=b.M)=r:=by
    rw [hr];apply decide_eq_decide.2;constructor
    . intro h';cases a;cases b;simp at h h';simp [h,h']
    . intro h';rw [h'];exact ⟨rfl,rfl⟩
   rw [e] at h2;refine yn2.run [] Go.Proofs.Tryz.func42 rfl rfl ?_;simp only [Go.Proofs.Tryz.f42];refine rgR ?_;refine v1h h1 ?_;refine rg ?_;refine v1h h2 ?_;refine rg ?_;exact ⟨_,rfl,.one (.refl _)⟩
 . have h1:=zoo a.s a.L b.s b.L (by omega) (by omega);rw [decide_eq_false h] at h1
   have e:r=false:=by rw [hr,decide_eq_false (fun e=>h (by rw [e];exact ⟨rfl,rfl⟩))]
   subst e;refine yn2.run [] Go.Proofs.Tryz.func42 rfl rfl ?_;simp only [Go.Proofs.Tryz.f42];refine rgR ?_;refine v1h h1 ?_;refine rg ?_;exact ⟨_,rfl,.one (.refl _)⟩
theorem x94 (a b:Sc) (ha:a.sz<=67108864) (hb:b.sz<=67108864):yn2 prog 15 [.agg a.C,.agg b.C] (.one (.raw (.bool (decide (a=b))))):=by
 have ⟨h1,h2⟩:=Sc.zp5 ha;have ⟨h3,h4⟩:=Sc.zp5 hb;have c1:=ywv a.low b.low h1 h3;have c2:=ywv a.high b.high h2 h4;by_cases h:a.low=b.low
 . rw [decide_eq_true h] at c1;rw [show decide (a=b)=decide (a.high=b.high) from decide_eq_decide.2 ⟨fun e=>by rw [e],fun e=>by cases a;cases b;simp at h e;rw [h,e]⟩];refine yn2.run [] Go.Proofs.Tryz.func15 rfl rfl ?_;simp only [Go.Proofs.Tryz.f15];refine rgR ?_;refine v1h c1 ?_;refine rg ?_;refine v1h c2 ?_;refine rg ?_;exact ⟨_,rfl,.one (.refl _)⟩
 . rw [decide_eq_false h] at c1;rw [decide_eq_false (fun e=>h (by rw [e]))];refine yn2.run [] Go.Proofs.Tryz.func15 rfl rfl ?_;simp only [Go.Proofs.Tryz.f15];refine rgR ?_;refine v1h c1 ?_;refine rg ?_;exact ⟨_,rfl,.one (.refl _)⟩
theorem xmj (s:Sc) (h:s.sz<=67108864):yn2 prog 16 [.agg s.C,.one (.raw (.int .i64 4))] (.one (.raw (.bool (decide (s.sz<=4))))):=by
 have ⟨h1,h2⟩:=Sc.zp5 h;have l1:=szL h1;have l2:=szL h2;have c1:=wr8 s.low (by omega) (by omega);have c2:=wr8 s.high (by omega) (by omega);have e:s.sz=max s.low.sz s.high.sz:=rfl;by_cases h:s.low.sz<=4
 . rw [decide_eq_true h] at c1;rw [show decide (s.sz<=4)=decide (s.high.sz<=4) from decide_eq_decide.2 (by omega)];refine yn2.run [] Go.Proofs.Tryz.func16 rfl rfl ?_;simp only [Go.Proofs.Tryz.f16];refine rgR ?_;refine v1h c1 ?_;refine rg ?_;refine v1h c2 ?_;refine rg ?_;exact ⟨_,rfl,.one (.refl _)⟩
 . rw [decide_eq_false h] at c1;rw [decide_eq_false (show ¬s.sz<=4 by omega)];refine yn2.run [] Go.Proofs.Tryz.func16 rfl rfl ?_;simp only [Go.Proofs.Tryz.f16];refine rgR ?_;refine v1h c1 ?_;refine rg ?_;exact ⟨_,rfl,.one (.refl _)⟩
end Go.Slot.T
namespace Go.Hp.T
open Go Go.RowKit Go.Slot Go.Hp Go.Slot.T
open Go.Proofs.Tryz (prog)
set_option maxRecDepth 10000
set_option maxHeartbeats 4000000
variable {Γ:List (Nat×List Cell)}
variable {α:Type} {r:Nat->Nat}
theorem ypj (a b:Option Rat) (ha:qz a<=67108864) (hb:qz b<=67108864):CallsD Γ prog 42 [.agg (qC a),.agg (qC b)] (.one (cB (decide (a=b)))):=by
 have h:=toD (Γ:=Γ) (ywv (qF a) (qF b) ha hb);rw [show decide (qF a=qF b)=decide (a=b) from decide_eq_decide.2 ⟨zym,fun h=>by rw [h]⟩] at h;exact h
def zpp (t:Tb):Bool:=decide ((t.rows.length:Int)<=110)&&(decide ((t.name.size:Int)<=40)&&decide ((t.unit.size:Int)<=40))
theorem zbw (t:Tb) (_h3:t.rows.length<=1073741824):CallsD Γ prog 97 [.agg (tbC t)] (.one (cB (zpp t))):=by
 refine CallsD.run [] Go.Proofs.Tryz.func97 rfl rfl rfl ?_;simp only [Go.Proofs.Tryz.f97];refine hgR ?_
 repeat' ((first | refine hfk ?_ ?_<;>intros | refine hik ?_)<;>refine hgS ?_)
 all_goals refine lf1 @zpp.eq_def ?_;first | exact trivial | rfl
def y4d (ms:List Tb):Bool:=(ms.take 7).all zpp&&decide ((ms.length:Int)<=6)
theorem y0q (ms:List Tb) (_hm:ms.length<=1073741824) (hms:∀ t∈ms,t.Sm):CallsD Γ prog 58 [.one (.sl 3 (ms.map Tb.C))] (.one (cB (y4d ms))):=by
 refine CallsD.run [] Go.Proofs.Tryz.func58 rfl rfl rfl ?_;simp only [Go.Proofs.Tryz.f58];refine hgR ?_;refine y55 [0] (fun n:Nat=>[(3,.one (.dat (cI n)))]) (fun _=>[]) (fun n=>n<=ms.length/\n<=7/\∀ j,j<n->zpp (ms.getD j default)=true) (fun n=>ms.length-n) 0 ⟨Nat.zero_le _,by omega,fun j hj=>by omega⟩ ?_ ?_
 . refine hg ?_;exact StH.same svl rfl
 rintro n ⟨hn,hn7,hj⟩
 have hc:n<ms.length->CallsD Γ prog 97 [.agg (tbC (ms.getD n default))] (.one (cB (zpp (ms.getD n default)))):=fun h=>zbw _ (hms _ (w4t h)).r
 refine hg ?_
 repeat' ((first | refine hfk ?_ ?_<;>intros | refine hik ?_ | with_reducible first | refine v6l (hc (by omega)) ?_ | refine vgi (hc (by omega)) ?_)<;>refine hgS ?_)
 . rename_i h;exact RLe.ofEq (by unfold y4d;rw [vep (n:=7) (i:=n) (by omega) (by omega) h];rfl)
 . rename_i h;exact ⟨n+1,⟨by omega,by omega,xf4 hj h⟩,by omega,StH.same svl rfl⟩
 . have e:y4d ms=decide ((ms.length:Int)<=6):=by unfold y4d;rw [zpv hj (by omega)];rfl
   rw [e];exact RLe.ofEq rfl
 . have e:y4d ms=decide ((ms.length:Int)<=6):=by unfold y4d;rw [zpv hj (by omega)];rfl
   rw [e];exact RLe.ofEq rfl
def zi2 (b:Bd):Bool:=decide ((b.name.size:Int)<=40)&&decide (b.v.sz<=4)
def yta (x:Ex):Bool:=decide (0<=x.rsz 40 9)||(!decide (0<=x.rsz 200 20)&&decide (0<=x.rsz 260 30))
def wjp (x:Ex) (bs:List Bd) (ms:List Tb):Bool:=yta x&&((bs.take 13).all zi2&&(decide ((bs.length:Int)<=12)&&y4d ms))
structure Bd.Sm (b:Bd):Prop where
 n:b.name.size<=1073741824
 l:b.v.L.length<=1073741824
 m:b.v.M.length<=1073741824
theorem wc3 (x:Ex) (bs:List Bd) (ms:List Tb) (hx:x.Sm) (hb:bs.length<=1073741824) (hbs:∀ b∈bs,b.Sm) (hm:ms.length<=1073741824) (hms:∀ t∈ms,t.Sm):CallsD Γ prog 38 [.agg (exC x),.one (.sl 5 (bs.map Bd.C)),.one (.sl 3 (ms.map Tb.C))] (.one (cB (wjp x bs ms))):=by
 have f1:=rFew (Γ:=Γ) x hx 40 9 (by decide) (by decide) (by decide) (by decide);have f2:=rFew (Γ:=Γ) x hx 200 20 (by decide) (by decide) (by decide) (by decide);have f3:=rFew (Γ:=Γ) x hx 260 30 (by decide) (by decide) (by decide) (by decide);have f4:=y0q (Γ:=Γ) ms hm hms;unfold wjp yta;generalize decide (0<=x.rsz 40 9)=b1 at f1;generalize decide (0<=x.rsz 200 20)=b2 at f2;generalize decide (0<=x.rsz 260 30)=b3 at f3;generalize y4d ms=b4 at f4;clear hms hx
 have main:∀ R:Bool,((bs.take 13).all zi2&&(decide ((bs.length:Int)<=12)&&b4))=R->(b1||(!b2&&b3))=true->CallsD Γ prog 38 [.agg (exC x),.one (.sl 5 (bs.map Bd.C)),.one (.sl 3 (ms.map Tb.C))] (.one (cB R)):=by
  intro R hR hb1;refine CallsD.run [] Go.Proofs.Tryz.func38 rfl rfl rfl ?_;simp only [Go.Proofs.Tryz.f38];refine hgR ?_
  repeat' ((first | refine hfk ?_ ?_<;>intros | refine hik ?_ | with_reducible first | refine hcA ?_ | refine hcB ?_)<;>refine hgS ?_)
  all_goals try (exfalso;simp_all;done)
  all_goals
   clear hb1;refine y55 [1,2,3] (fun n:Nat=>[(7,.one (.dat (cI n)))]) (fun _=>[.box ((exC x).map .dat) (some 24)]) (fun n=>n<=bs.length/\n<=13/\∀ j,j<n->zi2 (bs.getD j default)=true) (fun n=>bs.length-n) 0 ⟨Nat.zero_le _,by omega,fun j hj=>by omega⟩ ?_ ?_
   . refine hg ?_;exact StH.same svl rfl
   rintro n ⟨hn,hn13,hj⟩
   have hc:n<bs.length->CallsD Γ prog 20 [.agg [.raw (.int .i64 (bs.getD n default).v.s),.ints .i64 (bs.getD n default).v.L,.raw (.int .i64 (bs.getD n default).v.t),.ints .i64 (bs.getD n default).v.M],.one (cI 4)] (.one (cB (decide ((bs.getD n default).v.sz<=4)))):=fun h=>toD (wr8 _ (by have:=(hbs _ (w4t h)).l;omega) (by have:=(hbs _ (w4t h)).m;omega))
   refine hg ?_
   repeat' ((first | refine hfk ?_ ?_<;>intros | refine hik ?_ | with_reducible first | refine hcA ?_ | refine hcB ?_ | refine v6l (hc (by omega)) ?_ | refine vgi (hc (by omega)) ?_)<;>refine hgS ?_)
   all_goals first
    | exact ⟨n+1,⟨by omega,by omega,xf4 hj (by unfold zi2;simp only [Bool.and_eq_true,decide_eq_true_eq];omega)⟩,by omega,StH.same svl rfl⟩
    | (rw [<-hR,vep (n:=13) (i:=n) (by omega) (by omega) (by unfold zi2;simp only [Bool.and_eq_false_iff,decide_eq_false_iff_not];omega)];exact RLe.ofEq rfl)
    | (rw [<-hR,zpv hj (by omega)];refine lfE ?_;first | exact trivial | rfl)
 cases h:(b1||(!b2&&b3)) with
 | true=>exact main _ rfl h
 | false=>
  refine CallsD.run [] Go.Proofs.Tryz.func38 rfl rfl rfl ?_;simp only [Go.Proofs.Tryz.f38];refine hgR ?_
  repeat' ((first | refine hfk ?_ ?_<;>intros | refine hik ?_ | with_reducible first | refine hcA ?_ | refine hcB ?_)<;>refine hgS ?_)
  all_goals first
   | exact RLe.ofEq rfl
   | (exfalso;simp_all;done)
structure ZnOk (zs:List Zn) (V:Vi):Prop where
 l:zs.length<=1073741824
 ok:∀ b∈zs,∃ v,b.s=ivS v
 v:∀ s,ycr V s=(fnd Zn.name zs s).map (fun b=>ivOf b.s)
theorem xnz (x:Ex) (zs:List Zn) (V:Vi) (hx:x.Sm) (hb:ZnOk zs V) (h01:x.op=0\/x.op=1) (hn:inI x.n):CallsD Γ prog 108 [.agg (exC x),.one (.sl 9 (zs.map Zn.C))] (krR (bif decide (x.op=0) then vlw x.n x.unit else yy3 V x.name)):=by
 have hu:=hx.u
 rcases h01 with h0 | h1
 . rw [decide_eq_true h0,cond_true]
   rcases v4u x.unit with ⟨u,h,hq⟩ | ⟨e,he,h⟩
   . have hr:=ywq (Γ:=Γ) hu h
     have e1:vlw x.n x.unit=.inr (.num (Iv.pt ((x.n:Rat)*u.f))):=by unfold vlw facO;rw [h];rfl
     have hz:=wtn hn;have hm:CallsD Γ prog _ _ (qR (some ((x.n:Rat)*u.f)) 0):=pMul (Γ:=Γ) (some (x.n:Rat)) (some u.f) (by omega) (by show qs u.f<=_;omega);have ho:=pInt (Γ:=Γ) x.n hn;have hp:=yhx (Γ:=Γ) ((x.n:Rat)*u.f) (by have:=yfd (x.n:Rat) u.f;have hz:qs (x.n:Rat)<=4:=hz;omega);rw [e1];refine CallsD.run [] Go.Proofs.Tryz.func108 rfl rfl rfl ?_;simp only [Go.Proofs.Tryz.f108];refine hgR ?_
     repeat' ((first | refine hfk ?_ ?_<;>intros | refine hik ?_ | with_reducible first | refine hcA ?_ | refine hcB ?_)<;>refine hgS ?_)
     all_goals first
      | (exfalso;omega)
      | exact RLe.ofEq rfl
   . have hr:=wji (Γ:=Γ) x.unit hu;rw [h] at hr
     have e1:vlw x.n x.unit=.inl 14:=by unfold vlw;rw [h];simp only [decide_eq_true he,cond_true]
     rw [e1];refine CallsD.run [] Go.Proofs.Tryz.func108 rfl rfl rfl ?_;simp only [Go.Proofs.Tryz.f108];refine hgR ?_
     repeat' ((first | refine hfk ?_ ?_<;>intros | refine hik ?_ | with_reducible first | refine hcA ?_ | refine hcB ?_)<;>refine hgS ?_)
     all_goals first
      | (exfalso;omega)
      | exact xp8 14
 . have h0:¬x.op=0:=by omega
   rw [decide_eq_false h0,cond_false];generalize hR:yy3 V x.name=R;have hl:=hb.l;refine CallsD.run [] Go.Proofs.Tryz.func108 rfl rfl rfl ?_;simp only [Go.Proofs.Tryz.f108];refine hgR ?_
   repeat' ((first | refine hfk ?_ ?_<;>intros | refine hik ?_)<;>refine hgS ?_)
   all_goals try (exfalso;omega)
   refine y55 [1,2,4] (fun n:Nat=>[(10,.one (.dat (cI n)))]) (fun _=>[.box ((exC x).map .dat) (some 24),.box ((krZ false false false).map .dat) (some 94)]) (fun n=>n<=zs.length/\∀ j,j<n->seq (zs.getD j default).name x.name=false) (fun n=>zs.length-n) 0 ⟨Nat.zero_le _,fun j hj=>by omega⟩ ?_ ?_
   . refine hg ?_;exact StH.same svl (by first | rfl | rw [h1])
   rintro n ⟨hn,hj⟩;refine hg ?_;refine vnx (fun hlt _=>?_) (fun hlt _=>?_)
   . obtain ⟨q,hq⟩:=hb.ok _ (w4t (show n<zs.length by omega))
     have hfound:=fun h=>ype (nm:=Zn.name) (s:=x.name) (show n<zs.length by omega) hj h
     have hnext:=fun h=>xf4 (p:=fun j=>seq (zs.getD j default).name x.name=false) hj h
     have hv:=hb.v x.name;clear hb hj;refine hg ?_
     repeat' ((first | refine hfk ?_ ?_<;>intros | refine hik ?_)<;>refine hgS ?_)
     . rename_i h
       have e:R=.inr (.num q):=by
        rw [<-hR];unfold yy3;rw [hv,hfound h];show Sum.inr (Kn.num (ivOf (zs.getD n default).s))=_;rw [hq,xjv]
       rw [e]
       try rw [hq]
       exact RLe.ofEq rfl
     . rename_i h;exact ⟨n+1,⟨by omega,hnext h⟩,by omega,StH.same svl rfl⟩
   . have e:n=zs.length:=by omega
     subst e
     have e:R=.inl 11:=by
      rw [<-hR];unfold yy3;rw [hb.v,y19 hj];rfl
     rw [e];refine hg ?_;exact xp8 11
theorem zeh {e:Int}:RLe (.tup [.agg scZ,.one (cI e)]) (.tup [.agg (scC (krK (.inl e)).s),.one (cI (krE (.inl e)))]):=vr3
theorem w3i (t:Tb) (k:Iv) (hk:ivZ k<=67108864) (ht:tbOk t=true) (hs:t.Sm):CallsD Γ prog 112 [.agg (tbC t),.agg (ivC k)] (.tup [.agg (scC (krK (x7a t k)).s),.one (cI (krE (x7a t k)))]):=by
 have hl:=hs.r;have hrows:=(yun ht).2.2.2
 have L:∀ q,qs q<=67108864->CallsD Γ prog 168 [.agg (tbC t),.agg (qC (some q))] (qR (wyo t (some q)).1 (wyo t (some q)).2):=fun q hq=>zri t (some q) hq hs.n hs.u hs.r
 have hL:=L k.lo (zlo hk);unfold x7a
 rcases yqt ht k.lo with ⟨h,w,hw,hq⟩ | ⟨h,hw⟩
 . rw [h,hw] at hL ⊢;rw [decide_eq_true rfl,cond_true,show (some w).getD 0=w from rfl];have hp:=yhx (Γ:=Γ) w (by omega);generalize hR:yk1 t k t.rows (Iv.pt w)=R;refine CallsD.run [] Go.Proofs.Tryz.func112 rfl rfl rfl ?_;simp only [Go.Proofs.Tryz.f112];refine hgR ?_
   repeat' ((first | refine hfk ?_ ?_<;>intros | refine hik ?_ | with_reducible first | refine hcA ?_ | refine hcB ?_)<;>refine hgS ?_)
   refine y55 [2,3,4,5,6,7,8] (fun p:Nat×Iv=>[(9,.one (.dat (cI p.1)))]) (fun p=>[.box ((tbC t).map .dat) (some 122),.box ((ivC k).map .dat) (some 35),.box (scZ.map .dat) (some 35),.box ((qC (some w)).map .dat) (some 33),.box ((ivC p.2).map .dat) (some 35)])
    (fun p=>p.1<=t.rows.length/\ivZ p.2<=4204/\R=yk1 t k (t.rows.drop p.1) p.2) (fun p=>t.rows.length-p.1) (0,Iv.pt w) ⟨Nat.zero_le _,by rw [yp5];exact hq,hR.symm⟩ ?_ ?_
   . refine hg ?_;exact StH.same svl rfl
   clear hR hL hp;rintro ⟨i,v⟩ ⟨q1,q2,q3⟩;simp only at q1 q2 q3;refine hg ?_;refine vnx (fun hlt _=>?_) (fun hlt _=>?_)
   . have hlt':i<t.rows.length:=by omega
     have hkey:=wyg ht hlt';have hin:=wju (hrows i hlt').1;have c1:=pInt (Γ:=Γ) (t.rows.getD i default).k (by unfold inI;omega);have hz:qs (((t.rows.getD i default).k:Int):Rat)<=4:=wtn (by unfold inI;omega);have c2:=xxu (Γ:=Γ) k (((t.rows.getD i default).k:Int):Rat) hk (by omega);have c3:=L (((t.rows.getD i default).k:Int):Rat) (by omega);rw [hkey] at c3
     have hw':qs (tw t i)<=4204:=by
      have h:=xbu t (some (((t.rows.getD i default).k:Int):Rat));rw [hkey] at h;exact h
     have c4:=yhx (Γ:=Γ) (tw t i) (by omega);have c5:=y1v (Γ:=Γ) v (Iv.pt (tw t i)) (by omega) (by rw [yp5];omega);have hz2:ivZ (v.hull (Iv.pt (tw t i)))<=4204:=ysi q2 (by rw [yp5];exact hw');rw [xqz hlt',yk1,hkey,show (some (tw t i),(0:Int)).1.getD 0=tw t i from rfl] at q3;clear hkey L hrows;generalize tw t i=u at *;generalize k.has (((t.rows.getD i default).k:Int):Rat)=b at *;refine hg ?_
     repeat' ((first | refine hfk ?_ ?_<;>intros | refine hik ?_ | with_reducible first | refine hcA ?_ | refine hcB ?_)<;>refine hgS ?_)
     . refine ⟨(i+1,v.hull (Iv.pt u)),⟨by dsimp only;omega,hz2,by first | exact q3 | rfl⟩,by dsimp only;omega,?_⟩;exact StH.back [2,3,4,5,6,7,8,9] 0 0 5 rfl rfl rfl rfl rfl (by kernel_rfl) (StH.same svl rfl)
     . refine ⟨(i+1,v),⟨by dsimp only;omega,q2,by first | exact q3 | rfl⟩,by dsimp only;omega,?_⟩;exact StH.back [2,3,4,5,6,7,8,9] 0 0 5 rfl rfl rfl rfl rfl (by kernel_rfl) (StH.same svl rfl)
   . have e:i=t.rows.length:=by omega
     subst e;rw [List.drop_eq_nil_of_le (Nat.le_refl _),yk1] at q3;subst q3;refine hg ?_;exact RLe.ofEq rfl
 . rw [h,hw] at hL ⊢;refine CallsD.run [] Go.Proofs.Tryz.func112 rfl rfl rfl ?_;simp only [Go.Proofs.Tryz.f112];refine hgR ?_
   repeat' ((first | refine hfk ?_ ?_<;>intros | refine hik ?_ | with_reducible first | refine hcA ?_ | refine hcB ?_)<;>refine hgS ?_)
   all_goals first
    | exact zeh
    | (exfalso;omega)
theorem x18 (o:Int) (ks:List Kn) (ho:ze4 o=true) (c d c' d':Bool) (hl0:1<=ks.length) (hl1:o≠4->2<=ks.length) (hl:ks.length<=1073741824) (h0:ks.getD 0 default=.tru c d) (h1:o≠4->ks.getD 1 default=.tru c' d') :
 CallsD Γ prog 111 [.one (cI o),.one (.sl 11 (ks.map Kn.C))] (.agg (knC (truH o (.tru c d) (.tru c' d')))):=by
 unfold truH
 rcases v6i.1 ho with rfl | rfl | rfl
 . refine CallsD.run [] Go.Proofs.Tryz.func111 rfl rfl rfl ?_;simp only [Go.Proofs.Tryz.f111];refine hgR ?_;refine hg1 @h0 ?_
   repeat' ((first | refine hfk ?_ ?_<;>intros | refine hik ?_)<;>refine hgS ?_)
   exact .one (w8s _ _)
 . have h1:=h1 (by decide);have hl1:=hl1 (by decide)
   cases c<;>cases c'<;>cases d<;>cases d'
   all_goals
    refine CallsD.run [] Go.Proofs.Tryz.func111 rfl rfl rfl ?_;simp only [Go.Proofs.Tryz.f111];refine hgR ?_;refine hg2 @h0 @h1 ?_
    repeat' ((first | refine hfk ?_ ?_<;>intros | refine hik ?_)<;>refine hgS ?_)
    exact .one (w8s _ _)
 . have h1:=h1 (by decide);have hl1:=hl1 (by decide)
   cases c<;>cases c'<;>cases d<;>cases d'
   all_goals
    refine CallsD.run [] Go.Proofs.Tryz.func111 rfl rfl rfl ?_;simp only [Go.Proofs.Tryz.f111];refine hgR ?_;refine hg2 @h0 @h1 ?_
    repeat' ((first | refine hfk ?_ ?_<;>intros | refine hik ?_)<;>refine hgS ?_)
    exact .one (w8s _ _)
theorem xv8 {a:Iv} {x:Rat} (h:x=a.lo\/x=a.hi):qs x<=ivZ a:=by
 rcases h with rfl | rfl
 . exact wtv a
 . exact vin a
theorem z7n (o:Int) (ho:6<=o/\o<=13) (a b:Iv) (ha:ivZ a<=33554400) (hb:ivZ b<=33554400):CallsD Γ prog 113 [.one (cI o),.agg (ivC a),.agg (ivC b)] (krR (numH o a b)):=by
 have c6:=pCmp (Γ:=Γ) (some a.lo) (some b.hi) (zlo ha) (zhi hb);have c7:=pCmp (Γ:=Γ) (some a.hi) (some b.lo) (zhi ha) (zlo hb);have c8:=wvw (Γ:=Γ) a b (by omega) (by omega);have c9:=ypj (Γ:=Γ) (some a.lo) (some a.hi) (zlo ha) (zhi ha);have c10:=ypj (Γ:=Γ) (some b.lo) (some b.hi) (zlo hb) (zhi hb);have c11:=ypj (Γ:=Γ) (some a.lo) (some b.lo) (zlo ha) (zlo hb);have ea:=@xv8 a;have eb:=@xv8 b;unfold numH
 have:o=6\/o=7\/o=8\/o=9\/o=10\/o=11\/o=12\/o=13:=by omega
 rcases this with rfl | rfl | rfl | rfl | rfl | rfl | rfl | rfl<;>simp only [Int.reduceEq,decide_true,decide_false,cond_true,cond_false]
 . have c1:=vz4 (Γ:=Γ) 0 (· + ·) a b (by omega) (by omega) (fun h=>by cases h) (fun x y hx hy=>vax x y (by have:=ea hx;omega) (by have:=eb hy;omega)) (fun x y hx hy=>by have:=ea hx;have:=eb hy;have:qs (x+y)<=qs x+qs y+1:=Fc.va3 x y;show qs (x+y)<=_;omega);rw [zyy] at c1;refine CallsD.run [] Go.Proofs.Tryz.func113 rfl rfl rfl ?_;simp only [Go.Proofs.Tryz.f113];refine hgR ?_
   repeat' ((first | refine hfk ?_ ?_<;>intros | refine hik ?_ | with_reducible first | refine hcA ?_ | refine hcB ?_)<;>refine hgS ?_)
   exact RLe.ofEq rfl
 . have c1:=vz4 (Γ:=Γ) 1 (· - ·) a b (by omega) (by omega) (fun h=>by cases h) (fun x y hx hy=>wiz x y (by have:=ea hx;omega) (by have:=eb hy;omega)) (fun x y hx hy=>by have:=ea hx;have:=eb hy;have:qs (x-y)<=qs x+qs y+1:=(by have h:=Fc.va3 x (-y);rw [Fc.wr7,<-Rat.sub_eq_add_neg] at h;exact h);show qs (x-y)<=_;omega);rw [ybo] at c1;refine CallsD.run [] Go.Proofs.Tryz.func113 rfl rfl rfl ?_;simp only [Go.Proofs.Tryz.f113];refine hgR ?_
   repeat' ((first | refine hfk ?_ ?_<;>intros | refine hik ?_ | with_reducible first | refine hcA ?_ | refine hcB ?_)<;>refine hgS ?_)
   exact RLe.ofEq rfl
 . have c1:=vz4 (Γ:=Γ) 2 (· * ·) a b (by omega) (by omega) (fun h=>by cases h) (fun x y hx hy=>zz7 x y (by have:=ea hx;omega) (by have:=eb hy;omega)) (fun x y hx hy=>by have:=ea hx;have:=eb hy;have:=yfd x y;show qs (x*y)<=_;omega);rw [xgt] at c1;refine CallsD.run [] Go.Proofs.Tryz.func113 rfl rfl rfl ?_;simp only [Go.Proofs.Tryz.f113];refine hgR ?_
   repeat' ((first | refine hfk ?_ ?_<;>intros | refine hik ?_ | with_reducible first | refine hcA ?_ | refine hcB ?_)<;>refine hgS ?_)
   exact RLe.ofEq rfl
 . cases h0:b.has 0 with
   | true=>
    have c1:=vdo (Γ:=Γ) a b (by omega) (by omega) h0;refine CallsD.run [] Go.Proofs.Tryz.func113 rfl rfl rfl ?_;simp only [Go.Proofs.Tryz.f113];refine hgR ?_
    repeat' ((first | refine hfk ?_ ?_<;>intros | refine hik ?_ | with_reducible first | refine hcA ?_ | refine hcB ?_)<;>refine hgS ?_)
    all_goals first
     | exact xp8 15
     | (exfalso;omega)
   | false=>
    have hne:=vk8 h0;have c1:=vz4 (Γ:=Γ) 3 (· / ·) a b (by omega) (by omega) (fun _=>h0) (fun x y hx hy=>x0s x y (by rcases hy with h | h<;>rw [h]<;>first | exact hne.1 | exact hne.2) (by have:=ea hx;omega) (by have:=eb hy;omega)) (fun x y hx hy=>by have:=ea hx;have:=eb hy;have:=x3y x y;show qs (x / y)<=_;omega);rw [vp2 a b h0] at c1;refine CallsD.run [] Go.Proofs.Tryz.func113 rfl rfl rfl ?_;simp only [Go.Proofs.Tryz.f113];refine hgR ?_
    repeat' ((first | refine hfk ?_ ?_<;>intros | refine hik ?_ | with_reducible first | refine hcA ?_ | refine hcB ?_)<;>refine hgS ?_)
    exact RLe.ofEq rfl
 . have c1:=vz4 (Γ:=Γ) 4 (fun x y=>min x y) a b (by omega) (by omega) (fun h=>by cases h) (fun x y hx hy=>v7t x y (by have:=ea hx;omega) (by have:=eb hy;omega)) (fun x y hx hy=>by have:=ea hx;have:=eb hy;show qs (min x y)<=_;rcases vdp x y with e | e<;>rw [e]<;>omega);rw [x3x] at c1;refine CallsD.run [] Go.Proofs.Tryz.func113 rfl rfl rfl ?_;simp only [Go.Proofs.Tryz.f113];refine hgR ?_
   repeat' ((first | refine hfk ?_ ?_<;>intros | refine hik ?_ | with_reducible first | refine hcA ?_ | refine hcB ?_)<;>refine hgS ?_)
   exact RLe.ofEq rfl
 . have c1:=vz4 (Γ:=Γ) 5 (fun x y=>max x y) a b (by omega) (by omega) (fun h=>by cases h) (fun x y hx hy=>z3c x y (by have:=ea hx;omega) (by have:=eb hy;omega)) (fun x y hx hy=>by have:=ea hx;have:=eb hy;show qs (max x y)<=_;rcases yqy x y with e | e<;>rw [e]<;>omega);rw [zok] at c1;refine CallsD.run [] Go.Proofs.Tryz.func113 rfl rfl rfl ?_;simp only [Go.Proofs.Tryz.f113];refine hgR ?_
   repeat' ((first | refine hfk ?_ ?_<;>intros | refine hik ?_ | with_reducible first | refine hcA ?_ | refine hcB ?_)<;>refine hgS ?_)
   exact RLe.ofEq rfl
 . have e1:decide (cmpO (some a.lo) (some b.hi)<0)=decide (a.lo<b.hi):=vn7;have e2:decide (0<=cmpO (some a.hi) (some b.lo))=decide (b.lo<=a.hi):=z7a;rw [<-e1,<-e2];clear e1 e2 ea eb;refine CallsD.run [] Go.Proofs.Tryz.func113 rfl rfl rfl ?_;simp only [Go.Proofs.Tryz.f113];refine hgR ?_
   repeat' ((first | refine hfk ?_ ?_<;>intros | refine hik ?_ | with_reducible first | refine hcA ?_ | refine hcB ?_)<;>refine hgS ?_)
   exact vu1 rfl
 . have e:(decide (a=b)&&decide (a.lo=a.hi))=(decide (some a.lo=some a.hi)&&(decide (some b.lo=some b.hi)&&decide (some a.lo=some b.lo))):=by
    apply Bool.eq_iff_iff.2;simp only [Bool.and_eq_true,decide_eq_true_eq,Option.some.injEq];constructor
    . rintro ⟨rfl,h⟩;exact ⟨h,h,rfl⟩
    . rintro ⟨h1,h2,h3⟩;exact ⟨Iv.ext' h3 (by rw [<-h1,h3,h2]),h1⟩
   rw [e];clear e ea eb;generalize decide (some a.lo=some a.hi)=p at c9 ⊢;generalize decide (some b.lo=some b.hi)=q at c10 ⊢;generalize decide (some a.lo=some b.lo)=r at c11 ⊢;refine CallsD.run [] Go.Proofs.Tryz.func113 rfl rfl rfl ?_;simp only [Go.Proofs.Tryz.f113];refine hgR ?_
   repeat' ((first | refine hfk ?_ ?_<;>intros | refine hik ?_ | with_reducible first | refine hcA ?_ | refine hcB ?_)<;>refine hgS ?_)
   all_goals exact vu1 (by (refine bsE ?_;try exact trivial))
theorem zb0 (x:Ex) (zs ms:Cell) (hl:3<=x.args.length) (hl2:x.args.length<=1073741824) (r0 r1 r2:Kr) (hk0:Kok 67108864 r0) (hk1:Kok 67108864 r1) (hk2:Kok 67108864 r2) (hs:∀ c d,r0=.inr (.tru c d)->c=true\/d=true)
 (h0:CallsD Γ prog 66 [.agg (exC (x.args.getD 0 default)),.one zs,.one ms] (krR r0))
 (h1:CallsD Γ prog 66 [.agg (exC (x.args.getD 1 default)),.one zs,.one ms] (krR r1))
 (h2:CallsD Γ prog 66 [.agg (exC (x.args.getD 2 default)),.one zs,.one ms] (krR r2)) :
 CallsD Γ prog 109 [.agg (exC x),.one zs,.one ms] (krR (chH r0 r1 r2)):=by
 have kz:∀{a b c:Bool} {r:Kr},r=.inr (.tru b c)->a=true->RLe (.tup [.agg (krZ a b c),.one (cI 0)]) (krR r):=fun h e=>by subst e;exact vu1 h
 rcases r0 with e | ⟨c,d⟩ | v
 . have he:¬e=0:=hk0;clear h1 h2 hs;refine CallsD.run [] Go.Proofs.Tryz.func109 rfl rfl rfl ?_;simp only [Go.Proofs.Tryz.f109];refine hgR ?_
   repeat' ((first | refine hfk ?_ ?_<;>intros | refine hik ?_ | with_reducible first | refine hcA ?_ | refine hcB ?_)<;>refine hgS ?_)
   all_goals first
    | (exfalso;omega)
    | exact xp8 e
 . have hs:=hs c d rfl;change CallsD Γ prog _ _ (.tup [.agg (knC (.tru c d)),.one (cI 0)]) at h0
   cases c with
   | false=>
    have hd:d=true:=by simpa using hs
    subst hd;clear h1 hs;show CallsD _ _ _ _ (krR r2)
    rcases r2 with e | ⟨c,d⟩ | v
    . have he:¬e=0:=hk2;refine CallsD.run [] Go.Proofs.Tryz.func109 rfl rfl rfl ?_;simp only [Go.Proofs.Tryz.f109];refine hgR ?_
      repeat' ((first | refine hfk ?_ ?_<;>intros | refine hik ?_ | with_reducible refine zum ?_ | with_reducible refine v3j ?_ | with_reducible first | refine hcA ?_ | refine hcB ?_)<;>refine hgS ?_)
      all_goals first
       | (exfalso;omega)
       | exact xp8 e
    . refine CallsD.run [] Go.Proofs.Tryz.func109 rfl rfl rfl ?_;simp only [Go.Proofs.Tryz.f109];refine hgR ?_
      repeat' ((first | refine hfk ?_ ?_<;>intros | refine hik ?_ | with_reducible refine zum ?_ | with_reducible refine v3j ?_ | with_reducible first | refine hcA ?_ | refine hcB ?_)<;>refine hgS ?_)
      all_goals first
       | (exfalso;omega)
       | exact RLe.ofEq rfl
    . refine CallsD.run [] Go.Proofs.Tryz.func109 rfl rfl rfl ?_;simp only [Go.Proofs.Tryz.f109];refine hgR ?_
      repeat' ((first | refine hfk ?_ ?_<;>intros | refine hik ?_ | with_reducible refine zum ?_ | with_reducible refine v3j ?_ | with_reducible first | refine hcA ?_ | refine hcB ?_)<;>refine hgS ?_)
      all_goals first
       | (exfalso;omega)
       | exact RLe.ofEq rfl
   | true=>
    clear hs
    rcases r1 with e | a
    . have he:¬e=0:=hk1;clear h2;show CallsD _ _ _ _ (krR (.inl e))
      cases d
      all_goals
       refine CallsD.run [] Go.Proofs.Tryz.func109 rfl rfl rfl ?_;simp only [Go.Proofs.Tryz.f109];refine hgR ?_
       repeat' ((first | refine hfk ?_ ?_<;>intros | refine hik ?_ | with_reducible refine zum ?_ | with_reducible refine v3j ?_ | with_reducible first | refine hcA ?_ | refine hcB ?_)<;>refine hgS ?_)
       all_goals first
        | (exfalso;omega)
        | exact xp8 e
    . cases d with
      | false=>
       clear h2;show CallsD _ _ _ _ (krR (.inr a))
       rcases a with ⟨c,d⟩ | v
       all_goals
        refine CallsD.run [] Go.Proofs.Tryz.func109 rfl rfl rfl ?_;simp only [Go.Proofs.Tryz.f109];refine hgR ?_
        repeat' ((first | refine hfk ?_ ?_<;>intros | refine hik ?_ | with_reducible refine zum ?_ | with_reducible refine v3j ?_ | with_reducible first | refine hcA ?_ | refine hcB ?_)<;>refine hgS ?_)
        all_goals first
         | (exfalso;omega)
         | exact RLe.ofEq rfl
      | true=>
       rcases r2 with e | b
       . have he:¬e=0:=hk2;show CallsD _ _ _ _ (krR (.inl e))
         rcases a with ⟨c,d⟩ | v
         all_goals
          refine CallsD.run [] Go.Proofs.Tryz.func109 rfl rfl rfl ?_;simp only [Go.Proofs.Tryz.f109];refine hgR ?_
          repeat' ((first | refine hfk ?_ ?_<;>intros | refine hik ?_ | with_reducible refine zum ?_ | with_reducible refine v3j ?_ | with_reducible first | refine hcA ?_ | refine hcB ?_)<;>refine hgS ?_)
          all_goals first
           | (exfalso;omega)
           | exact xp8 e
       . show CallsD _ _ _ _ (krR (xx9 a b))
         rcases a with ⟨c,d⟩ | v<;>rcases b with ⟨c',d'⟩ | w
         . show CallsD _ _ _ _ (krR (.inr (.tru (c||c') (d||d'))));refine CallsD.run [] Go.Proofs.Tryz.func109 rfl rfl rfl ?_;simp only [Go.Proofs.Tryz.f109];refine hgR ?_
           repeat' ((first | refine hfk ?_ ?_<;>intros | refine hik ?_ | with_reducible refine zum ?_ | with_reducible refine v3j ?_ | with_reducible first | refine hcA ?_ | refine hcB ?_)<;>refine hgS ?_)
           all_goals first
            | (exfalso;omega)
            | exact vu1 (by (refine bsE ?_;try exact trivial))
         . show CallsD _ _ _ _ (krR (.inl 13));refine CallsD.run [] Go.Proofs.Tryz.func109 rfl rfl rfl ?_;simp only [Go.Proofs.Tryz.f109];refine hgR ?_
           repeat' ((first | refine hfk ?_ ?_<;>intros | refine hik ?_ | with_reducible refine zum ?_ | with_reducible refine v3j ?_ | with_reducible first | refine hcA ?_ | refine hcB ?_)<;>refine hgS ?_)
           all_goals first
            | (exfalso;omega)
            | exact xp8 13
         . show CallsD _ _ _ _ (krR (.inl 13));refine CallsD.run [] Go.Proofs.Tryz.func109 rfl rfl rfl ?_;simp only [Go.Proofs.Tryz.f109];refine hgR ?_
           repeat' ((first | refine hfk ?_ ?_<;>intros | refine hik ?_ | with_reducible refine zum ?_ | with_reducible refine v3j ?_ | with_reducible first | refine hcA ?_ | refine hcB ?_)<;>refine hgS ?_)
           all_goals first
            | (exfalso;omega)
            | exact xp8 13
         . have hh:=y1v (Γ:=Γ) v w hk1 hk2;show CallsD _ _ _ _ (krR (.inr (.num (v.hull w))));refine CallsD.run [] Go.Proofs.Tryz.func109 rfl rfl rfl ?_;simp only [Go.Proofs.Tryz.f109];refine hgR ?_
           repeat' ((first | refine hfk ?_ ?_<;>intros | refine hik ?_ | with_reducible refine zum ?_ | with_reducible refine v3j ?_ | with_reducible first | refine hcA ?_ | refine hcB ?_)<;>refine hgS ?_)
           all_goals first
            | (exfalso;omega)
            | exact RLe.ofEq rfl
 . clear h1 h2 hs;refine CallsD.run [] Go.Proofs.Tryz.func109 rfl rfl rfl ?_;simp only [Go.Proofs.Tryz.f109];refine hgR ?_
   repeat' ((first | refine hfk ?_ ?_<;>intros | refine hik ?_ | with_reducible first | refine hcA ?_ | refine hcB ?_)<;>refine hgS ?_)
   all_goals first
    | (exfalso;omega)
    | exact xp8 13
theorem z9v {C:α->SV} (h:∀ r a,yo9 r (C a)=C a) (r:Nat->Nat) (l:List (ByteArray×α)):rnSB r (.map (envM C l))=.map (envM C l):=by
 have:(envM C l).map (fun p=>(p.1,yo9 r p.2))=envM C l:=by
  induction l with
  | nil=>rfl
  | cons p l ih=>
   show (Value.string p.1,yo9 r (C p.2))::(envM C l).map _=_;rw [ih,h];rfl
 show SB.map _=_;rw [this]
theorem y07 {C:α->SV} (h:∀ i j a,wmy i j (C a)=C a) (i j:Nat) (l:List (ByteArray×α)):swSB i j (.map (envM C l))=.map (envM C l):=by
 have:(envM C l).map (fun p=>(p.1,wmy i j p.2))=envM C l:=by
  induction l with
  | nil=>rfl
  | cons p l ih=>
   show (Value.string p.1,wmy i j (C p.2))::(envM C l).map _=_;rw [ih,h];rfl
 show SB.map _=_;rw [this]
theorem y51 {C:α->SV} (h:∀ a,vp6 (C a)=[]) (l:List (ByteArray×α)):z0y (.map (envM C l))=[]:=by
 show (envM C l).flatMap (fun p=>vp6 p.2)=[]
 induction l with
 | nil=>rfl
 | cons p l ih=>show vp6 (C p.2)++(envM C l).flatMap _=[];rw [ih,h];rfl
theorem xqg {l:Vt}:rnSB r (.map (envB l))=.map (envB l):=z9v (fun _ _=>rfl) r l
theorem w2a (i j:Nat) (l:Vt):swSB i j (.map (envB l))=.map (envB l):=y07 (fun _ _ _=>rfl) i j l
theorem y7o (l:Vt):z0y (.map (envB l))=[]:=y51 (fun _=>rfl) l
attribute [go_sem] y7o
attribute [go_sem 20000] xqg w2a
abbrev mB (l:Vt):SB:=.map (envB l)
theorem wmq {l:Vi}:rnSB r (.map (envI l))=.map (envI l):=z9v (fun _ _=>rfl) r l
theorem x5x (i j:Nat) (l:Vi):swSB i j (.map (envI l))=.map (envI l):=y07 (fun _ _ _=>rfl) i j l
theorem wh2 (l:Vi):z0y (.map (envI l))=[]:=y51 (fun _=>rfl) l
attribute [go_sem] wh2
attribute [go_sem 20000] wmq x5x
abbrev mI (l:Vi):SB:=.map (envI l)
theorem xa8 (V:Vi) (T:Vt):∀ r,[mI V,mB T].map (rnSB r)=[mI V,mB T]:=fun r=>by
 simp only [List.map_cons,List.map_nil,mI,mB,wmq,xqg]
theorem StH.krE {e:List SB} {I:List SV} {J:List SB} {n:Int} {r:Kr} (he:J.take e.length=e) (h:(I.all fun x=>(vp6 x).all fun b=>Nat.blt b e.length)=true) (hσ:I=[SV.tup [.agg ((krZ false false false).map .dat),.one (.dat (cI n))]]) (hr:r=.inl n):StH Γ e I J [krV r] e:=by
 subst hr;exact StH.trans (StH.zx4 he h hσ) (StH.trans (StH.tup1 (l':=[.agg ((krC (.inl n)).map .dat),.one (.dat (cI n))]) (.cons (.agg (.cons (.refl _) (.cons (.refl _) (.cons (.refl _) (.cons (.refl _) (.cons (.dat (.ysc _)) (.cons (.refl _) (.cons (.dat (.ysc _)) (.cons (.refl _) (.cons (.dat (.ysc _)) (.cons (.refl _) (.cons (.dat (.ysc _)) .nil)))))))))))) (.cons (.refl _) .nil))) StH.refl)
theorem y6m (V:Vi) (T:Vt) (s:ByteArray) (hs:s.size<=1073741824):vfe Γ prog 98 [mI V,mB T] [.agg [.mp 0,.mp 1],.one (.dat (cS s))] [mI V,mB T] (.one (.dat (cB (!((ycr V s).isSome||(ycr T s).isSome||!isName s||isWord s))))):=by
 have c1:=vv6 (Γ:=Γ) s (by omega);have c2:=v7c (Γ:=Γ) s;generalize isName s=p at c1 ⊢;generalize isWord s=q at c2 ⊢
 cases h1:ycr V s with
 | none=>cases h2:ycr T s with
  | none=>
   refine vfe.run [] Go.Proofs.Tryz.func98 rfl rfl ?_;simp only [Go.Proofs.Tryz.f98];refine hgR ?_;refine hg2 @h1 @h2 ?_
   repeat' ((first | refine hfk ?_ ?_<;>intros | refine hik ?_ | with_reducible first | refine hcA ?_ | refine hcB ?_)<;>refine hgS ?_)
   all_goals exact StH.zx4 rfl (by kernel_rfl) (by (((conv=>simp only [Bool.and_true,Bool.true_and,Bool.and_false,Bool.false_and,Bool.or_true,Bool.true_or,Bool.or_false,Bool.false_or,Bool.not_true,Bool.not_false,decide_true,decide_false,not_true_eq_false,not_false_eq_true,wgp,if_true,if_false,Bool.and_self,Bool.or_self,cond_true,cond_false,List.length_map,ne_eq,Int.reduceEq,Int.reduceLT,Int.reduceLE, *,h1,h2,Option.isSome])<;>try exact trivial))<;>first | rfl | trivial)
  | some t=>
   refine vfe.run [] Go.Proofs.Tryz.func98 rfl rfl ?_;simp only [Go.Proofs.Tryz.f98];refine hgR ?_;refine hg2 @h1 @h2 ?_
   repeat' ((first | refine hfk ?_ ?_<;>intros | refine hik ?_ | with_reducible first | refine hcA ?_ | refine hcB ?_)<;>refine hgS ?_)
   all_goals exact StH.zx4 rfl (by kernel_rfl) (by (((conv=>simp only [Bool.and_true,Bool.true_and,Bool.and_false,Bool.false_and,Bool.or_true,Bool.true_or,Bool.or_false,Bool.false_or,Bool.not_true,Bool.not_false,decide_true,decide_false,not_true_eq_false,not_false_eq_true,wgp,if_true,if_false,Bool.and_self,Bool.or_self,cond_true,cond_false,List.length_map,ne_eq,Int.reduceEq,Int.reduceLT,Int.reduceLE, *,h1,h2,Option.isSome])<;>try exact trivial))<;>first | rfl | trivial)
 | some q=>cases h2:ycr T s with
  | none=>
   refine vfe.run [] Go.Proofs.Tryz.func98 rfl rfl ?_;simp only [Go.Proofs.Tryz.f98];refine hgR ?_;refine hg2 @h1 @h2 ?_
   repeat' ((first | refine hfk ?_ ?_<;>intros | refine hik ?_ | with_reducible first | refine hcA ?_ | refine hcB ?_)<;>refine hgS ?_)
   all_goals exact StH.zx4 rfl (by kernel_rfl) (by (((conv=>simp only [Bool.and_true,Bool.true_and,Bool.and_false,Bool.false_and,Bool.or_true,Bool.true_or,Bool.or_false,Bool.false_or,Bool.not_true,Bool.not_false,decide_true,decide_false,not_true_eq_false,not_false_eq_true,wgp,if_true,if_false,Bool.and_self,Bool.or_self,cond_true,cond_false,List.length_map,ne_eq,Int.reduceEq,Int.reduceLT,Int.reduceLE, *,h1,h2,Option.isSome])<;>try exact trivial))<;>first | rfl | trivial)
  | some t=>
   refine vfe.run [] Go.Proofs.Tryz.func98 rfl rfl ?_;simp only [Go.Proofs.Tryz.f98];refine hgR ?_;refine hg2 @h1 @h2 ?_
   repeat' ((first | refine hfk ?_ ?_<;>intros | refine hik ?_ | with_reducible first | refine hcA ?_ | refine hcB ?_)<;>refine hgS ?_)
   all_goals exact StH.zx4 rfl (by kernel_rfl) (by (((conv=>simp only [Bool.and_true,Bool.true_and,Bool.and_false,Bool.false_and,Bool.or_true,Bool.true_or,Bool.or_false,Bool.false_or,Bool.not_true,Bool.not_false,decide_true,decide_false,not_true_eq_false,not_false_eq_true,wgp,if_true,if_false,Bool.and_self,Bool.or_self,cond_true,cond_false,List.length_map,ne_eq,Int.reduceEq,Int.reduceLT,Int.reduceLE, *,h1,h2,Option.isSome])<;>try exact trivial))<;>first | rfl | trivial)
theorem vo4 (n:Rat) (u:Un) (hd:zmf u.d=true) (hf:0<u.f) (h1:qs n<=67108864) (h2:qs u.f<=67108864):CallsD Γ prog 147 [.agg (qC (some n)),.agg (unQ u)] (qR (some (n*u.f)) 0):=by
 have c1:=ygx (Γ:=Γ) u.d;rw [hd] at c1;have c2:CallsD Γ prog 44 [.agg (qC (some u.f))] (.one (cB true)):=wi6 (some u.f) (by show qs u.f<=_;omega);have c3:=toD (Γ:=Γ) (zdn (qF (some u.f)) h2)
 have e:Fc.sign (qF (some u.f))=1:=by
  have h:=Fc.woz u.f
  have h':sg u.f.num=1:=by
   have h:=(Rat.lt_iff _ _).1 hf;simp only [Rat.zero_num,Rat.zero_den] at h
   have:=wzq u.f.num
   omega
  exact h.trans h'
 rw [e] at c3;have c3:CallsD Γ prog 231 [.agg (qC (some u.f))] (.one (cI 1)):=c3
 have cR:CallsD Γ prog 193 [.agg (unQ u)] (.one (cB true)):=by
  refine CallsD.run [] Go.Proofs.Tryz.func193 rfl rfl rfl ?_;simp only [Go.Proofs.Tryz.f193];refine hgR ?_
  repeat' ((first | refine hfk ?_ ?_<;>intros | refine hik ?_ | with_reducible first | refine hcA ?_ | refine hcB ?_)<;>refine hgS ?_)
  all_goals first
   | exact RLe.ofEq rfl
   | (exfalso;omega)
 have c4:CallsD Γ prog 44 [.agg (qC (some n))] (.one (cB true)):=wi6 (some n) (by show qs n<=_;omega);have c5:=oMul (Γ:=Γ) (some n) (some u.f) h1 h2;have c5:CallsD Γ prog 85 [.agg (qC (some n)),.agg (qC (some u.f))] (qR (some (n*u.f)) 0):=c5;clear c1 c2 c3;refine CallsD.run [] Go.Proofs.Tryz.func147 rfl rfl rfl ?_;simp only [Go.Proofs.Tryz.f147];refine hgR ?_
 repeat' ((first | refine hfk ?_ ?_<;>intros | refine hik ?_ | with_reducible first | refine hcA ?_ | refine hcB ?_)<;>refine hgS ?_)
 all_goals first
  | exact RLe.ofEq rfl
  | (exfalso;omega)
theorem zpn (V:Vi) (T:Vt) (x:Ex) (hx:x.Sm) (hn:inI x.n) (h0:x.op=0):vfe Γ prog 99 [mI V,mB T] [.agg [.mp 0,.mp 1],.agg ((exC x).map .dat)] [mI V,mB T] (krV (vlw x.n x.unit)):=by
 have hu:=hx.u;have hz:=wtn hn;have ho:=oInt (Γ:=Γ) x.n hn
 rcases v4u x.unit with ⟨u,h,hq⟩ | ⟨e,he,h⟩
 . have hr:=v1q (Γ:=Γ) hu h;obtain ⟨r1,r2⟩:=wrr h;have hf:=vo4 (Γ:=Γ) (x.n:Rat) u r1 r2 (Nat.le_trans hz (by decide)) (by omega);have hp:=wsb (Γ:=Γ) ((x.n:Rat)*u.f) (by have:=yfd (x.n:Rat) u.f;have hz:qs (x.n:Rat)<=4:=hz;omega)
   have e1:vlw x.n x.unit=.inr (.num (Iv.pt ((x.n:Rat)*u.f))):=by unfold vlw facO;rw [h];rfl
   rw [e1];refine vfe.run [] Go.Proofs.Tryz.func99 rfl rfl ?_;simp only [Go.Proofs.Tryz.f99];refine hgR ?_
   repeat' ((first | refine hfk ?_ ?_<;>intros | refine hik ?_ | with_reducible first | refine hcA ?_ | refine hcB ?_)<;>refine hgS ?_)
   all_goals first
    | (exfalso;omega)
    | exact StH.zx4 rfl (by kernel_rfl) rfl
 . have hr:=vqa (Γ:=Γ) x.unit hu;rw [h] at hr
   have e1:vlw x.n x.unit=.inl 14:=by unfold vlw;rw [h];simp only [decide_eq_true he,cond_true]
   rw [e1];refine vfe.run [] Go.Proofs.Tryz.func99 rfl rfl ?_;simp only [Go.Proofs.Tryz.f99];refine hgR ?_
   repeat' ((first | refine hfk ?_ ?_<;>intros | refine hik ?_ | with_reducible first | refine hcA ?_ | refine hcB ?_)<;>refine hgS ?_)
   all_goals first
    | (exfalso;omega)
    | exact StH.krE rfl (by kernel_rfl) rfl rfl
theorem wpi (V:Vi) (T:Vt) (x:Ex) (h1:x.op=1):vfe Γ prog 99 [mI V,mB T] [.agg [.mp 0,.mp 1],.agg ((exC x).map .dat)] [mI V,mB T] (krV (yy3 V x.name)):=by
 unfold yy3
 cases hlk:ycr V x.name with
 | none=>
  refine vfe.run [] Go.Proofs.Tryz.func99 rfl rfl ?_;simp only [Go.Proofs.Tryz.f99];refine hgR ?_
  repeat' ((first | refine hfk ?_ ?_<;>intros | refine hik ?_)<;>refine hgS ?_)
  all_goals try (exfalso;omega)
  refine hg1 @hlk ?_
  repeat' ((first | refine hfk ?_ ?_<;>intros | refine hik ?_)<;>refine hgS ?_)
  all_goals first
   | (exfalso;omega)
   | exact StH.krE rfl (by kernel_rfl) rfl rfl
 | some q=>
  refine vfe.run [] Go.Proofs.Tryz.func99 rfl rfl ?_;simp only [Go.Proofs.Tryz.f99];refine hgR ?_
  repeat' ((first | refine hfk ?_ ?_<;>intros | refine hik ?_)<;>refine hgS ?_)
  all_goals try (exfalso;omega)
  refine hg1 @hlk ?_
  repeat' ((first | refine hfk ?_ ?_<;>intros | refine hik ?_)<;>refine hgS ?_)
  all_goals first
   | (exfalso;omega)
   | exact StH.zx4 rfl (by kernel_rfl) rfl
theorem zvv (V:Vi) (T:Vt) (x:Ex) (hl:3<=x.args.length) (hl2:x.args.length<=1073741824) (r0 r1 r2:Kr) (hk0:Kok 67108864 r0) (hk1:Kok 67108864 r1) (hk2:Kok 67108864 r2)
 (h0:vfe Γ prog 61 [mI V,mB T] [.agg [.mp 0,.mp 1],.agg ((exC (x.args.getD 0 default)).map .dat)] [mI V,mB T] (krV r0))
 (h1:vfe Γ prog 61 [mI V,mB T] [.agg [.mp 0,.mp 1],.agg ((exC (x.args.getD 1 default)).map .dat)] [mI V,mB T] (krV r1))
 (h2:vfe Γ prog 61 [mI V,mB T] [.agg [.mp 0,.mp 1],.agg ((exC (x.args.getD 2 default)).map .dat)] [mI V,mB T] (krV r2)) :
 vfe Γ prog 100 [mI V,mB T] [.agg [.mp 0,.mp 1],.agg ((exC x).map .dat)] [mI V,mB T] (krV (chH r0 r1 r2)):=by
 rcases r0 with e | ⟨c,d⟩ | v
 . have he:¬e=0:=hk0;refine vfe.run [] Go.Proofs.Tryz.func100 rfl rfl ?_;simp only [Go.Proofs.Tryz.f100];refine hgR ?_;refine hg ?_;refine zjb 2 (fun ξ=>vfe.pre h0 (xa8 V T) rfl rfl) rfl rfl ?_;clear h0;refine hg ?_
   repeat' ((first | refine hfk ?_ ?_<;>intros | refine hik ?_)<;>refine hgS ?_)
   all_goals first
    | (exfalso;omega)
    | exact StH.krE rfl (by kernel_rfl) rfl rfl
 . cases c with
   | false=>
    refine vfe.run [] Go.Proofs.Tryz.func100 rfl rfl ?_;simp only [Go.Proofs.Tryz.f100];refine hgR ?_;refine hg ?_;refine zjb 2 (fun ξ=>vfe.pre h0 (xa8 V T) rfl rfl) rfl rfl ?_;clear h0;refine hg ?_
    repeat' ((first | refine hfk ?_ ?_<;>intros | refine hik ?_)<;>refine hgS ?_)
    all_goals try (exfalso;omega)
    refine zjb 2 (fun ξ=>vfe.pre h2 (xa8 V T) rfl rfl) rfl rfl ?_;refine hg ?_
    repeat' ((first | refine hfk ?_ ?_<;>intros | refine hik ?_)<;>refine hgS ?_)
    exact StH.zx4 rfl (by kernel_rfl) rfl
   | true=>
    rcases r1 with e | a
    . have he:¬e=0:=hk1;refine vfe.run [] Go.Proofs.Tryz.func100 rfl rfl ?_;simp only [Go.Proofs.Tryz.f100];refine hgR ?_;refine hg ?_;refine zjb 2 (fun ξ=>vfe.pre h0 (xa8 V T) rfl rfl) rfl rfl ?_;clear h0;refine hg ?_
      repeat' ((first | refine hfk ?_ ?_<;>intros | refine hik ?_)<;>refine hgS ?_)
      all_goals try (exfalso;omega)
      refine zjb 2 (fun ξ=>vfe.pre h1 (xa8 V T) rfl rfl) rfl rfl ?_;refine hg ?_
      repeat' ((first | refine hfk ?_ ?_<;>intros | refine hik ?_)<;>refine hgS ?_)
      all_goals first
       | (exfalso;omega)
       | exact StH.zx4 rfl (by kernel_rfl) rfl
    . cases d with
      | false=>
       refine vfe.run [] Go.Proofs.Tryz.func100 rfl rfl ?_;simp only [Go.Proofs.Tryz.f100];refine hgR ?_;refine hg ?_;refine zjb 2 (fun ξ=>vfe.pre h0 (xa8 V T) rfl rfl) rfl rfl ?_;clear h0;refine hg ?_
       repeat' ((first | refine hfk ?_ ?_<;>intros | refine hik ?_)<;>refine hgS ?_)
       all_goals try (exfalso;omega)
       refine zjb 2 (fun ξ=>vfe.pre h1 (xa8 V T) rfl rfl) rfl rfl ?_;refine hg ?_
       repeat' ((first | refine hfk ?_ ?_<;>intros | refine hik ?_)<;>refine hgS ?_)
       all_goals first
        | (exfalso;omega)
        | exact StH.zx4 rfl (by kernel_rfl) rfl
      | true=>
       rcases r2 with e | b
       . have he:¬e=0:=hk2;refine vfe.run [] Go.Proofs.Tryz.func100 rfl rfl ?_;simp only [Go.Proofs.Tryz.f100];refine hgR ?_;refine hg ?_;refine zjb 2 (fun ξ=>vfe.pre h0 (xa8 V T) rfl rfl) rfl rfl ?_;clear h0;refine hg ?_
         repeat' ((first | refine hfk ?_ ?_<;>intros | refine hik ?_)<;>refine hgS ?_)
         all_goals try (exfalso;omega)
         refine zjb 2 (fun ξ=>vfe.pre h1 (xa8 V T) rfl rfl) rfl rfl ?_;refine hg ?_
         repeat' ((first | refine hfk ?_ ?_<;>intros | refine hik ?_)<;>refine hgS ?_)
         all_goals try (exfalso;omega)
         refine zjb 2 (fun ξ=>vfe.pre h2 (xa8 V T) rfl rfl) rfl rfl ?_;refine hg ?_
         repeat' ((first | refine hfk ?_ ?_<;>intros | refine hik ?_)<;>refine hgS ?_)
         all_goals first
          | (exfalso;omega)
          | exact StH.krE rfl (by kernel_rfl) rfl rfl
       . have hH:∀ v w,a=.num v->b=.num w->CallsD Γ prog 148 [.agg (ivC v),.agg (ivC w)] (ivR (v.hull w)):=fun v w e1 e2=>by
          subst e1;subst e2;exact yul v w hk1 hk2
         rcases a with ⟨c,d⟩ | v<;>rcases b with ⟨c',d'⟩ | w
         . clear hH;refine vfe.run [] Go.Proofs.Tryz.func100 rfl rfl ?_;simp only [Go.Proofs.Tryz.f100];refine hgR ?_;refine hg ?_;refine zjb 2 (fun ξ=>vfe.pre h0 (xa8 V T) rfl rfl) rfl rfl ?_;clear h0;refine hg ?_
           repeat' ((first | refine hfk ?_ ?_<;>intros | refine hik ?_)<;>refine hgS ?_)
           all_goals try (exfalso;omega)
           refine zjb 2 (fun ξ=>vfe.pre h1 (xa8 V T) rfl rfl) rfl rfl ?_;refine hg ?_
           repeat' ((first | refine hfk ?_ ?_<;>intros | refine hik ?_)<;>refine hgS ?_)
           all_goals try (exfalso;omega)
           refine zjb 2 (fun ξ=>vfe.pre h2 (xa8 V T) rfl rfl) rfl rfl ?_;refine hg ?_
           repeat' ((first | refine hfk ?_ ?_<;>intros | refine hik ?_)<;>refine hgS ?_)
           all_goals first
            | (exfalso;omega)
            | (subst_vars;exact StH.zx4 rfl (by kernel_rfl) rfl)
         . clear hH;refine vfe.run [] Go.Proofs.Tryz.func100 rfl rfl ?_;simp only [Go.Proofs.Tryz.f100];refine hgR ?_;refine hg ?_;refine zjb 2 (fun ξ=>vfe.pre h0 (xa8 V T) rfl rfl) rfl rfl ?_;clear h0;refine hg ?_
           repeat' ((first | refine hfk ?_ ?_<;>intros | refine hik ?_)<;>refine hgS ?_)
           all_goals try (exfalso;omega)
           refine zjb 2 (fun ξ=>vfe.pre h1 (xa8 V T) rfl rfl) rfl rfl ?_;refine hg ?_
           repeat' ((first | refine hfk ?_ ?_<;>intros | refine hik ?_)<;>refine hgS ?_)
           all_goals try (exfalso;omega)
           refine zjb 2 (fun ξ=>vfe.pre h2 (xa8 V T) rfl rfl) rfl rfl ?_;refine hg ?_
           repeat' ((first | refine hfk ?_ ?_<;>intros | refine hik ?_)<;>refine hgS ?_)
           all_goals first
            | (exfalso;omega)
            | exact StH.krE rfl (by kernel_rfl) rfl rfl
         . clear hH;refine vfe.run [] Go.Proofs.Tryz.func100 rfl rfl ?_;simp only [Go.Proofs.Tryz.f100];refine hgR ?_;refine hg ?_;refine zjb 2 (fun ξ=>vfe.pre h0 (xa8 V T) rfl rfl) rfl rfl ?_;clear h0;refine hg ?_
           repeat' ((first | refine hfk ?_ ?_<;>intros | refine hik ?_)<;>refine hgS ?_)
           all_goals try (exfalso;omega)
           refine zjb 2 (fun ξ=>vfe.pre h1 (xa8 V T) rfl rfl) rfl rfl ?_;refine hg ?_
           repeat' ((first | refine hfk ?_ ?_<;>intros | refine hik ?_)<;>refine hgS ?_)
           all_goals try (exfalso;omega)
           refine zjb 2 (fun ξ=>vfe.pre h2 (xa8 V T) rfl rfl) rfl rfl ?_;refine hg ?_
           repeat' ((first | refine hfk ?_ ?_<;>intros | refine hik ?_)<;>refine hgS ?_)
           all_goals first
            | (exfalso;omega)
            | exact StH.krE rfl (by kernel_rfl) rfl rfl
         . have hH:=hH v w rfl rfl;refine vfe.run [] Go.Proofs.Tryz.func100 rfl rfl ?_;simp only [Go.Proofs.Tryz.f100];refine hgR ?_;refine hg ?_;refine zjb 2 (fun ξ=>vfe.pre h0 (xa8 V T) rfl rfl) rfl rfl ?_;clear h0;refine hg ?_
           repeat' ((first | refine hfk ?_ ?_<;>intros | refine hik ?_)<;>refine hgS ?_)
           all_goals try (exfalso;omega)
           refine zjb 2 (fun ξ=>vfe.pre h1 (xa8 V T) rfl rfl) rfl rfl ?_;refine hg ?_
           repeat' ((first | refine hfk ?_ ?_<;>intros | refine hik ?_)<;>refine hgS ?_)
           all_goals try (exfalso;omega)
           refine zjb 2 (fun ξ=>vfe.pre h2 (xa8 V T) rfl rfl) rfl rfl ?_;refine hg ?_
           repeat' ((first | refine hfk ?_ ?_<;>intros | refine hik ?_)<;>refine hgS ?_)
           all_goals try (exfalso;omega)
           repeat' ((first | refine hfk ?_ ?_<;>intros | refine hik ?_ | with_reducible first | refine hcA ?_ | refine hcB ?_)<;>refine hgS ?_)
           all_goals first
            | (exfalso;omega)
            | exact StH.zx4 rfl (by kernel_rfl) rfl
 . skip
   refine vfe.run [] Go.Proofs.Tryz.func100 rfl rfl ?_;simp only [Go.Proofs.Tryz.f100];refine hgR ?_;refine hg ?_;refine zjb 2 (fun ξ=>vfe.pre h0 (xa8 V T) rfl rfl) rfl rfl ?_;clear h0;refine hg ?_
   repeat' ((first | refine hfk ?_ ?_<;>intros | refine hik ?_)<;>refine hgS ?_)
   all_goals first
    | (exfalso;omega)
    | exact StH.krE rfl (by kernel_rfl) rfl rfl
end Go.Hp.T
