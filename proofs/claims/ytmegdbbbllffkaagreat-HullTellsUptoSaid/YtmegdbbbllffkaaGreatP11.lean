/- The proof, part P11: Nd, Ga, Lg, Sa, Sb, Nb, Ih, Ne, Gb, Sd. -/
import Derived.Test.YtmegdbbbllffkaaGreatP9
import Derived.Test.YtmegdbbbllffkaaGreatP10
namespace Go.Hp.T
open Go Go.RowKit Go.Slot Go.Hp Go.Slot.T
open Go.Proofs.Tryz (prog)
set_option maxRecDepth 10000
set_option maxHeartbeats 4000000
variable {Γ:List (Nat×List Cell)}
theorem wte (c:Int):CallsD Γ prog 223 [.one (c8 c)] (.one (cB (yio c))):=by
 refine CallsD.run [] Go.Proofs.Tryz.func223 rfl rfl rfl ?_;simp only [Go.Proofs.Tryz.f223];refine hgR ?_
 repeat' ((first | refine hfk ?_ ?_<;>intros | refine hik ?_)<;>refine hgS ?_)
 all_goals refine lf1 @yio.eq_def ?_;first | exact trivial | rfl
theorem y7z (b e p q:Int) (hb:b=0\/b=1\/b=2\/b=3\/b=4\/b=5) (hp:inI p) (hq:inI q) (hq0:q≠0):CallsD Γ prog 224 [.one (cI b),.one (cI e),.one (cI p),.one (cI q)] (.agg (unC (unOf b e p q))):=by
 rcases hb with rfl | rfl | rfl | rfl | rfl | rfl
 all_goals
  refine CallsD.run [] Go.Proofs.Tryz.func224 rfl rfl rfl ?_;simp only [Go.Proofs.Tryz.f224];refine hgR ?_
  repeat' ((first | refine hfk ?_ ?_<;>intros | refine hik ?_ | with_reducible first | refine v6l (qOf p q hp hq hq0) ?_ | refine vgi (qOf p q hp hq hq0) ?_)<;>refine hgS ?_)
  exact RLe.ofEq rfl
theorem vq6 (s:ByteArray):CallsD Γ prog 182 [.one (cS s)] (.tup [.agg (unO (symF s)),.one (cB (symF s).isSome)]):=by
 have h1:=y7z (Γ:=Γ) 0 1 1 1 (by decide) (by decide) (by decide) (by decide);have h2:=y7z (Γ:=Γ) 0 1 1000000 1 (by decide) (by decide) (by decide) (by decide);have h3:=y7z (Γ:=Γ) 1 1 1 1 (by decide) (by decide) (by decide) (by decide);have h4:=y7z (Γ:=Γ) 1 3 1 1000 (by decide) (by decide) (by decide) (by decide);have h5:=y7z (Γ:=Γ) 2 1 1 1 (by decide) (by decide) (by decide) (by decide);have h6:=y7z (Γ:=Γ) 2 1 3600 1 (by decide) (by decide) (by decide) (by decide);have h7:=y7z (Γ:=Γ) 2 1 86400 1 (by decide) (by decide) (by decide) (by decide);have h8:=y7z (Γ:=Γ) 3 1 1 1 (by decide) (by decide) (by decide) (by decide);have h9:=y7z (Γ:=Γ) 3 1 3600 1 (by decide) (by decide) (by decide) (by decide);have h10:=y7z (Γ:=Γ) 4 1 1 1 (by decide) (by decide) (by decide) (by decide);have h11:=y7z (Γ:=Γ) 4 1 100 1 (by decide) (by decide) (by decide) (by decide);have h12:=y7z (Γ:=Γ) 5 1 1 1 (by decide) (by decide) (by decide) (by decide);refine CallsD.run [] Go.Proofs.Tryz.func182 rfl rfl rfl ?_;simp only [Go.Proofs.Tryz.f182];refine hgR ?_
 repeat' ((first | refine hfk ?_ ?_<;>intros | refine hik ?_ | with_reducible first | refine hcA ?_ | refine hcB ?_)<;>refine hgS ?_)
 all_goals (refine RLe.ofEq ?_;conv=>simp only [Bool.and_true,Bool.true_and,Bool.and_false,Bool.false_and,Bool.or_true,Bool.true_or,Bool.or_false,Bool.false_or,Bool.not_true,Bool.not_false,decide_true,decide_false,not_true_eq_false,not_false_eq_true,wgp,if_true,if_false,Bool.and_self,Bool.or_self,cond_true,cond_false,List.length_map,ne_eq,Int.reduceEq,Int.reduceLT,Int.reduceLE, *,symF,unO,Option.isSome]);first | exact trivial | rfl
theorem yr4 (c:Int):CallsD Γ prog 183 [.one (c8 c)] (.tup [.one (cI (preO (preF c)).1),.one (cI (preO (preF c)).2),.one (cB (preF c).isSome)]):=by
 refine CallsD.run [] Go.Proofs.Tryz.func183 rfl rfl rfl ?_;simp only [Go.Proofs.Tryz.f183];refine hgR ?_
 repeat' ((first | refine hfk ?_ ?_<;>intros | refine hik ?_)<;>refine hgS ?_)
 all_goals (refine RLe.ofEq ?_;conv=>simp only [Bool.and_true,Bool.true_and,Bool.and_false,Bool.false_and,Bool.or_true,Bool.true_or,Bool.or_false,Bool.false_or,Bool.not_true,Bool.not_false,decide_true,decide_false,not_true_eq_false,not_false_eq_true,wgp,if_true,if_false,Bool.and_self,Bool.or_self,cond_true,cond_false,List.length_map,ne_eq,Int.reduceEq,Int.reduceLT,Int.reduceLE, *,preF,preO,Option.isSome]);first | exact trivial | rfl
theorem zma (s:ByteArray):CallsD Γ prog 184 [.one (cS s)] (.one (cB (wem s))):=by
 refine CallsD.run [] Go.Proofs.Tryz.func184 rfl rfl rfl ?_;simp only [Go.Proofs.Tryz.f184];refine hgR ?_
 repeat' ((first | refine hfk ?_ ?_<;>intros | refine hik ?_)<;>refine hgS ?_)
 all_goals refine lf1 @wem.eq_def ?_;first | exact trivial | rfl
theorem sExt (s:ByteArray) (i:Nat):s.extract 0 i=zt0 s i:=rfl
theorem z7x (s:ByteArray) (i:Nat):s.extract i s.size=wcs s i:=rfl
attribute [go_sem] sExt z7x
theorem w6h (s p:ByteArray) (_hs:s.size<=1073741824) (hp:p.size<=1073741824):CallsD Γ prog 251 [.one (cS s),.one (cS p)] (.one (cB (vhb s p))):=by
 refine CallsD.run [] Go.Proofs.Tryz.func251 rfl rfl rfl ?_;simp only [Go.Proofs.Tryz.f251];refine hgR ?_
 repeat' ((first | refine hfk ?_ ?_<;>intros | refine hik ?_)<;>refine hgS ?_)
 all_goals refine lf1 @vhb.eq_def ?_;first | exact trivial | rfl
theorem vz2 (s p:ByteArray) (hs:s.size<=1073741824) (hp:p.size<=1073741824):CallsD Γ prog 222 [.one (cS s),.one (cS p)] (.tup [.one (cS (bif vhb s p then wcs s p.size else s)),.one (cB (vhb s p))]):=by
 refine CallsD.run [] Go.Proofs.Tryz.func222 rfl rfl rfl ?_;simp only [Go.Proofs.Tryz.f222];refine hgR ?_;refine v6l (w6h s p hs hp) ?_;refine hg ?_;refine wzf (fun h=>?_) (fun h=>?_)
 . refine hg ?_
   refine lfE ?_;first | exact trivial | rfl
 . have hle:p.size<=s.size:=by
    simp only [vhb,Bool.and_eq_true,decide_eq_true_eq] at h;omega
   refine hg ?_
   refine lfE ?_;first | exact trivial | rfl
theorem xs0 (s p:ByteArray) (hs:s.size<=1073741824) (hp:p.size<=1073741824):CallsD Γ prog 180 [.one (cS s),.one (cS p)] (.tup [.one (cS (bif vhb s p then wcs s p.size else s)),.one (cB (vhb s p))]):=by
 refine CallsD.run [] Go.Proofs.Tryz.func180 rfl rfl rfl ?_;simp only [Go.Proofs.Tryz.f180];refine hgR ?_
 repeat' ((first | refine hfk ?_ ?_<;>intros | refine hik ?_ | with_reducible first | refine v6l (vz2 s p hs hp) ?_ | refine vgi (vz2 s p hs hp) ?_)<;>refine hgS ?_)
 all_goals refine lfE ?_;first | exact trivial | rfl
theorem cCut (s:ByteArray) (hs:s.size<=1073741824):CallsD Γ prog 181 [.one (cS s)] (.tup [.agg (itC (vl9 s)),.one (cS (x9p s)),.one (cB (zr8 s))]):=by
 refine CallsD.run [] Go.Proofs.Tryz.func181 rfl rfl rfl ?_;simp only [Go.Proofs.Tryz.f181];refine hgR ?_;refine y55 [0,2] (fun n:Nat=>[(5,.one (.dat (cI n)))]) (fun _=>[.box [.dat (cS ⟨⟨[]⟩⟩),.dat (cI 0)] (some 192)]) (fun n=>n<=s.size/\∀ j,j<n->yio (x41 s j)=true) (fun n=>s.size-n) 0 ⟨Nat.zero_le _,fun j hj=>by omega⟩ ?_ ?_
 . refine hg ?_;exact StH.same svl rfl
 intro n hn;obtain ⟨hn,hj⟩:=hn;refine hg ?_;refine vtf (fun hlt hd=>?_) (fun hlt _=>?_)
 . refine hg1 @hd ?_;refine v6l (wte _) ?_;refine hg ?_;refine wdg (fun h1=>?_) (fun h1=>?_)
   . refine hg ?_;refine ⟨n+1,⟨by omega,fun j hj'=>?_⟩,by omega,StH.same svl rfl⟩
     rcases Nat.lt_or_eq_of_le (Nat.le_of_lt_succ hj') with h2 | h2
     . exact hj j h2
     . rw [h2];exact h1
   . have hsp:=xwo hn hj (.inr h1);clear h1;refine hg ?_
     repeat' ((first | refine hfk ?_ ?_<;>intros | refine hik ?_)<;>refine hgS ?_)
     all_goals (refine RLe.ofEq ?_;conv=>simp only [Bool.and_true,Bool.true_and,Bool.and_false,Bool.false_and,Bool.or_true,Bool.true_or,Bool.or_false,Bool.false_or,Bool.not_true,Bool.not_false,decide_true,decide_false,not_true_eq_false,not_false_eq_true,wgp,if_true,if_false,Bool.and_self,Bool.or_self,cond_true,cond_false,List.length_map,ne_eq,Int.reduceEq,Int.reduceLT,Int.reduceLE, *,vl9,x9p,x6x,y6h,zr8,hsp]);first | exact trivial | rfl
 . have hsp:=xwo hn hj (.inl (by omega));refine hgS ?_
   repeat' ((first | refine hfk ?_ ?_<;>intros | refine hik ?_)<;>refine hgS ?_)
   all_goals (refine RLe.ofEq ?_;conv=>simp only [Bool.and_true,Bool.true_and,Bool.and_false,Bool.false_and,Bool.or_true,Bool.true_or,Bool.or_false,Bool.false_or,Bool.not_true,Bool.not_false,decide_true,decide_false,not_true_eq_false,not_false_eq_true,wgp,if_true,if_false,Bool.and_self,Bool.or_self,cond_true,cond_false,List.length_map,ne_eq,Int.reduceEq,Int.reduceLT,Int.reduceLE, *,vl9,x9p,x6x,y6h,zr8,hsp]);first | exact trivial | rfl
theorem v1o (s:ByteArray) (hs:s.size<=1073741824) (h1:1<=s.size):CallsD Γ prog 127 [.one (cS s)] (.tup [.agg (unO (ykz s)),.one (cB (ykz s).isSome)]):=by
 refine CallsD.run [] Go.Proofs.Tryz.func127 rfl rfl rfl ?_;simp only [Go.Proofs.Tryz.f127];refine hgR ?_;refine v6l (vq6 s) ?_
 cases hy:symF s with
 | some u=>
  conv=>simp (maxSteps:=2000000) (disch:=omega) only [go_sem,Nat.reduceAdd,Nat.reduceSub,Nat.reduceMul,Int.reduceToNat,Nat.reduceEqDiff,Nat.reduceBEq,Nat.reduceBneDiff,Nat.reduceLT,Int.reduceEq,Int.reduceLT,Int.reduceLE,Int.reduceNeg,Int.reduceAdd,Int.reduceSub,Int.reduceMul,unO,Option.isSome]
  exact RLe.ofEq (by simp only [ykz,hy];rfl)
 | none=>
  conv=>simp (maxSteps:=2000000) (disch:=omega) only [go_sem,Nat.reduceAdd,Nat.reduceSub,Nat.reduceMul,Int.reduceToNat,Nat.reduceEqDiff,Nat.reduceBEq,Nat.reduceBneDiff,Nat.reduceLT,Int.reduceEq,Int.reduceLT,Int.reduceLE,Int.reduceNeg,Int.reduceAdd,Int.reduceSub,Int.reduceMul,unO,Option.isSome]
  refine v6l (yr4 _) ?_;refine hg ?_;refine v6l (vq6 _) ?_
  cases hp:preF (x41 s 0) with
  | none=>
   cases hy2:symF (wcs s 1)<;>
   . conv=>simp (maxSteps:=2000000) (disch:=omega) only [go_sem,Nat.reduceAdd,Nat.reduceSub,Nat.reduceMul,Int.reduceToNat,Nat.reduceEqDiff,Nat.reduceBEq,Nat.reduceBneDiff,Nat.reduceLT,Int.reduceEq,Int.reduceLT,Int.reduceLE,Int.reduceNeg,Int.reduceAdd,Int.reduceSub,Int.reduceMul,unO,Option.isSome]
     exact RLe.ofEq (by simp only [ykz,hy,hp];rfl)
  | some p=>
   cases hy2:symF (wcs s 1) with
   | none=>
    conv=>simp (maxSteps:=2000000) (disch:=omega) only [go_sem,Nat.reduceAdd,Nat.reduceSub,Nat.reduceMul,Int.reduceToNat,Nat.reduceEqDiff,Nat.reduceBEq,Nat.reduceBneDiff,Nat.reduceLT,Int.reduceEq,Int.reduceLT,Int.reduceLE,Int.reduceNeg,Int.reduceAdd,Int.reduceSub,Int.reduceMul,unO,Option.isSome]
    exact RLe.ofEq (by simp only [ykz,hy,hp,hy2];rfl)
   | some u=>
    obtain ⟨_,hu1,_⟩:=xhk hy2;obtain ⟨hp1,hp2⟩:=zz2 hp;obtain ⟨hf1,_⟩:=x8s hp1 hp2
    conv=>simp (maxSteps:=2000000) (disch:=omega) only [go_sem,Nat.reduceAdd,Nat.reduceSub,Nat.reduceMul,Int.reduceToNat,Nat.reduceEqDiff,Nat.reduceBEq,Nat.reduceBneDiff,Nat.reduceLT,Int.reduceEq,Int.reduceLT,Int.reduceLE,Int.reduceNeg,Int.reduceAdd,Int.reduceSub,Int.reduceMul,unO,Option.isSome,preO]
    repeat' ((first | refine hfk ?_ ?_<;>intros | refine hik ?_ | with_reducible first | refine v6l (zma _) ?_ | refine vgi (zma _) ?_ | refine v6l (qOf p.1 p.2 (by unfold inI;omega) (by unfold inI;omega) (by omega)) ?_ | refine vgi (qOf p.1 p.2 (by unfold inI;omega) (by unfold inI;omega) (by omega)) ?_ | refine v6l (qMul _ _ (Nat.le_trans hu1 (by decide)) (Nat.le_trans hf1 (by decide))) ?_ | refine vgi (qMul _ _ (Nat.le_trans hu1 (by decide)) (Nat.le_trans hf1 (by decide))) ?_)<;>refine hgS ?_)
    all_goals rename_i hq
    all_goals exact RLe.ofEq (by simp only [ykz,hy,hp,hy2,hq];rfl)
theorem xhe (a f:Rat) (x:Int) (hx:x.natAbs<=1000) (ha:qs a<=100000) (hf:qs f<=1000) (hf0:f≠0):CallsD Γ prog 128 [.agg (fQ a),.agg (fQ f),.one (cI x)] (.agg (fQ (ymb a f x))):=by
 refine CallsD.run [] Go.Proofs.Tryz.func128 rfl rfl rfl ?_;simp only [Go.Proofs.Tryz.f128];refine hgR ?_;refine y55 [2,3,4,6,10] (fun i:Nat=>[(11,.one (.dat (cI i)))]) (fun i=>[.box ((fQ (pw a f x i)).map .dat) (some 33),.box ((fQ f).map .dat) (some 33),.box [.dat (cI 0),.dat .zc,.dat (cI 0),.dat .zc] (some 33)]) (fun i=>i<=x.natAbs) (fun i=>x.natAbs-i) 0 (Nat.zero_le _) ?_ ?_
 . refine hg ?_;exact StH.same svl (by rw [wuy])
 intro i hi;have hq:=zki a f x i;have hm:i*(qs f+1)<=1000*1001:=Nat.mul_le_mul (by omega) (by omega);refine hg ?_;refine vnx (fun hlt _=>?_) (fun hlt _=>?_)
 . refine hg ?_;refine vnx (fun hp hd=>?_) (fun hp hd=>?_)
   . refine hg ?_;refine v6l (qMul (pw a f x i) f (by omega) (by omega)) ?_;refine hg ?_;exact ⟨i+1,by omega,by omega,StH.same svl (by rw [xg4 hp])⟩
   . refine hg ?_;refine v6l (qDiv (pw a f x i) f hf0 (by omega) (by omega)) ?_;refine hg ?_;exact ⟨i+1,by omega,by omega,StH.same svl (by rw [zqi hp])⟩
 . refine hg ?_
   have e:i=x.natAbs:=by omega
   subst e;exact RLe.ofEq rfl
theorem zfe (s:ByteArray) (hs:s.size<=1073741824):CallsD Γ prog 126 [.one (cS s)] (.tup [.one (.sl 2 ((itO (vhi s)).map It.C)),.one (cB (vhi s).isSome)]):=by
 have bad:∀ b,vhi s=none->b=false->RLe (.tup [.one (.raw (.slice none 0 0)),.one (cB b)]) (.tup [.one (.sl 2 ((itO (vhi s)).map It.C)),.one (cB (vhi s).isSome)]):=fun b h hb=>by
  rw [h,hb];exact .tup (.cons (.one (.nilSl 2)) (.cons (.refl _) .nil))
 refine CallsD.run [(9,[.join])] Go.Proofs.Tryz.func126 rfl rfl rfl ?_;simp only [Go.Proofs.Tryz.f126];refine hgR ?_
 repeat' ((first | refine hfk ?_ ?_<;>intros | refine hik ?_)<;>refine hgS ?_)
 . exact .tup (.cons (.one (by rename_i h;simp only [vhi,h];exact .nilSl 2)) (.cons (by rename_i h;simp only [vhi,h];exact .refl _) .nil))
 . refine bad _ (by simp only [vhi, *];rfl) rfl
 refine v6l (xs0 _ _ hs (by decide)) ?_;refine hgS ?_;refine ztg [2,3,4] (fun r:ByteArray=>[(5,.one (.dat (cS r)))]) (fun _=>[]) (fun r=>r=ztm s) ?_ ?_
 . refine hg ?_;refine wzf (fun h=>?_) (fun h=>?_)
   . refine hg ?_;refine ⟨_,rfl,?_⟩;simp only [ztm,h];exact StH.same svl rfl
   . refine hg ?_;refine ⟨_,rfl,?_⟩;simp only [ztm,h];exact StH.same svl rfl
 intro r0 hr0
 have h0:vhi s=ymw (s.size+2) r0 []:=by simp only [vhi, *];rfl
 have hsz:r0.size<=s.size+1:=by
  rw [hr0];unfold ztm;have h42:(⟨#[42]⟩:ByteArray).size=1:=rfl
  cases vhb s ⟨#[49]⟩
  . simp only [cond_false,ByteArray.size_append];omega
  . simp only [cond_true,yxt];omega
 clear hr0;refine hg ?_;refine y55 [2,3] (fun p:Nat×ByteArray×List It=>[(4,.one (.sl 0 2 0 p.2.2.length)),(5,.one (.dat (cS p.2.1)))]) (fun p=>[.arr (.sl 2 (p.2.2.map It.C)) 0 (some 192)])
  (fun p=>p.2.1.size<p.1/\p.2.1.size<=1073741824/\p.2.2.length+p.2.1.size<=100/\ymw p.1 p.2.1 p.2.2=vhi s) (fun p=>p.2.1.size) (s.size+2,r0,[]) ⟨by simp only;omega,by simp only;omega,by simp only [List.length_nil];omega,h0.symm⟩ ?_ ?_
 . refine hg ?_;refine StH.trans (StH.empty (d:=4) (es:=2) (c:=.sl 2 []) (T:=some 192) rfl rfl (fun r hr=>by cases hr) rfl) ?_;refine hg ?_;exact StH.same svl rfl
 rintro ⟨k,r,acc⟩ ⟨h1,h2,h3,h4⟩;simp only at h1 h2 h3 h4;clear h0 hsz;obtain ⟨k,rfl⟩:∃ m,k=m+1:=⟨k-1,by omega⟩;rw [ymw] at h4;refine hg ?_;refine vnx (fun hne _=>?_) (fun he _=>?_)
 . have hne':=decide_eq_false hne;rw [hne',cond_false] at h4;have hd':=yxt r 1;refine hg ?_;have hcs:=x87 (wcs r 1);have hce:=z0m (wcs r 1);rw [hd'] at hcs;refine v6l (cCut (wcs r 1) (by rw [hd'];omega)) ?_;refine hg ?_
   have g1:(x9p (wcs r 1)).size<k:=by omega
   have g2:(x9p (wcs r 1)).size<=1073741824:=by omega
   have g3:∀ x:It,(acc++[x]).length+(x9p (wcs r 1)).size<=100:=fun x=>by rw [List.length_append,List.length_singleton];omega
   have g4:(x9p (wcs r 1)).size<r.size:=by omega
   have hmap:∀ x:It,acc.map It.C++[itC x]=(acc++[x]).map It.C:=fun x=>by simp;rfl
   repeat' ((first | refine hfk ?_ ?_<;>intros | refine hik ?_)<;>refine hgS ?_)
   . exact bad _ (by rw [<-h4];simp only [*];rfl) rfl
   . rename_i h47 _
     have h4':ymw k (x9p (wcs r 1)) (acc++[⟨(vl9 (wcs r 1)).w,0-(vl9 (wcs r 1)).e⟩])=vhi s:=by
      rw [<-h4];simp only [*,y5c];rfl
     refine ⟨(k,x9p (wcs r 1),acc++[⟨(vl9 (wcs r 1)).w,0-(vl9 (wcs r 1)).e⟩]),?_,?_,?_⟩
     . dsimp only;exact ⟨g1,g2,g3 _,h4'⟩
     . dsimp only;exact g4
     rw [hmap ⟨(vl9 (wcs r 1)).w,0-(vl9 (wcs r 1)).e⟩];refine StH.back [2,3,4,5] 0 2 1 rfl rfl rfl rfl rfl (by kernel_rfl) ?_;refine hg ?_;exact StH.same svl rfl
   . exfalso;omega
   . exfalso;omega
   . have h4':ymw k (x9p (wcs r 1)) (acc++[vl9 (wcs r 1)])=vhi s:=by
      rw [<-h4];simp only [*,y5c];rfl
     refine ⟨(k,x9p (wcs r 1),acc++[vl9 (wcs r 1)]),?_,?_,?_⟩
     . dsimp only;exact ⟨g1,g2,g3 _,h4'⟩
     . dsimp only;exact g4
     try rw [hmap (vl9 (wcs r 1))]
     refine StH.back [2,3,4,5] 0 2 1 rfl rfl rfl rfl rfl (by kernel_rfl) ?_;refine hg ?_;exact StH.same svl rfl
   . exact bad _ (by rw [<-h4];simp only [*];rfl) rfl
 . refine hg ?_;have he':decide (r.size=0)=true:=decide_eq_true (by omega);rw [he',cond_true] at h4;rw [<-h4];exact RLe.ofEq rfl
theorem zhn (s:ByteArray) (hs:s.size<=1073741824):CallsD Γ prog 79 [.one (cS s)] (.tup [.agg (unO (zte s).1),.one (cI (zte s).2)]):=by
 refine CallsD.run [] Go.Proofs.Tryz.func79 rfl rfl rfl ?_;simp only [Go.Proofs.Tryz.f79];refine hgR ?_;refine v6l (zfe s hs) ?_
 cases hi:vhi s with
 | none=>
  conv=>simp (maxSteps:=2000000) (disch:=omega) only [go_sem,Nat.reduceAdd,Nat.reduceSub,Nat.reduceMul,Int.reduceToNat,Nat.reduceEqDiff,Nat.reduceBEq,Nat.reduceBneDiff,Nat.reduceLT,Int.reduceEq,Int.reduceLT,Int.reduceLE,Int.reduceNeg,Int.reduceAdd,Int.reduceSub,Int.reduceMul,Option.isSome,itO]
  exact RLe.ofEq (by simp only [zte,hi];rfl)
 | some l=>
  obtain ⟨hl,hx⟩:=yqi hi
  conv=>simp (maxSteps:=2000000) (disch:=omega) only [go_sem,Nat.reduceAdd,Nat.reduceSub,Nat.reduceMul,Int.reduceToNat,Nat.reduceEqDiff,Nat.reduceBEq,Nat.reduceBneDiff,Nat.reduceLT,Int.reduceEq,Int.reduceLT,Int.reduceLE,Int.reduceNeg,Int.reduceAdd,Int.reduceSub,Int.reduceMul,Option.isSome,itO]
  refine v6l (qInt 1 (by decide)) ?_;refine hg ?_;refine y55 [2,6,23,24] (fun p:Nat×Un=>[(25,.one (.dat (cI p.1)))]) (fun p=>[.box (unZ.map .dat) (some 143),.box ((unC p.2).map .dat) (some 143)])
   (fun p=>p.1<=l.length/\p.2.d.le (27*p.1)/\qs p.2.f<=1+100*p.1/\wf3 (l.drop p.1) p.2=wf3 l ⟨Dm.zero,(1:Int)⟩) (fun p=>l.length-p.1) (0,⟨Dm.zero,(1:Int)⟩) ⟨Nat.zero_le _,by unfold Dm.le;decide,zn5,rfl⟩ ?_ ?_
  . refine hg ?_;exact StH.same svl rfl
  rintro ⟨i,u⟩ ⟨h1,h2,h3,h4⟩;simp only at h1 h2 h3 h4;refine hg ?_;refine vnx (fun hlt _=>?_) (fun hlt _=>?_)
  . have hlt':i<l.length:=by omega
    have hok:=hx _ (w4t hlt');rw [xqz hlt',wf3] at h4;refine hg ?_;refine v6l (v1o _ (by have:=hok.2.1;omega) hok.1) ?_
    cases hw:ykz (l.getD i default).w with
    | none=>
     conv=>simp (maxSteps:=2000000) (disch:=omega) only [go_sem,Nat.reduceAdd,Nat.reduceSub,Nat.reduceMul,Int.reduceToNat,Nat.reduceEqDiff,Nat.reduceBEq,Nat.reduceBneDiff,Nat.reduceLT,Int.reduceEq,Int.reduceLT,Int.reduceLE,Int.reduceNeg,Int.reduceAdd,Int.reduceSub,Int.reduceMul,Option.isSome,unO]
     rw [hw] at h4;exact RLe.ofEq (by simp only [zte,hi,<-h4])
    | some v=>
     obtain ⟨hv1,hv2,hv3⟩:=xk3 hw;rw [hw] at h4;obtain ⟨b1,b2,b3,b4,b5,b6⟩:=h2;obtain ⟨d1,d2,d3,d4,d5,d6⟩:=hv1;have he:=hok.2.2;have c1:=yos d1 he;have c2:=yos d2 he;have c3:=yos d3 he;have c4:=yos d4 he;have c5:=yos d5 he;have c6:=yos d6 he
     have hq:qs (ymb u.f v.f (l.getD i default).e)<=qs u.f+9*(qs v.f+1):=by
      have:=zki u.f v.f (l.getD i default).e (l.getD i default).e.natAbs
      rw [<-xbq] at this;have h9:(l.getD i default).e.natAbs*(qs v.f+1)<=9*(qs v.f+1):=Nat.mul_le_mul_right _ (by omega);omega
     have hle:(u.d.acc v.d (l.getD i default).e).le (27*(i+1:Nat)):=by
      have:=Dm.v1r (x:=u.d) ⟨b1,b2,b3,b4,b5,b6⟩ ⟨d1,d2,d3,d4,d5,d6⟩ he
      rw [show (27*((i+1:Nat):Int))=27*i+27 from by omega];exact this
     conv=>simp (maxSteps:=2000000) (disch:=omega) only [go_sem,Nat.reduceAdd,Nat.reduceSub,Nat.reduceMul,Int.reduceToNat,Nat.reduceEqDiff,Nat.reduceBEq,Nat.reduceBneDiff,Nat.reduceLT,Int.reduceEq,Int.reduceLT,Int.reduceLE,Int.reduceNeg,Int.reduceAdd,Int.reduceSub,Int.reduceMul,Option.isSome,unO]
     repeat' ((first | refine hfk ?_ ?_<;>intros | refine hik ?_ | with_reducible refine zum ?_ | with_reducible refine v3j ?_ | with_reducible first | refine v6l (xhe u.f v.f (l.getD i default).e (by omega) (by omega) (by omega) hv3) ?_ | refine vgi (xhe u.f v.f (l.getD i default).e (by omega) (by omega) (by omega) hv3) ?_)<;>refine hgS ?_)
     refine ⟨(i+1,⟨u.d.acc v.d (l.getD i default).e,ymb u.f v.f (l.getD i default).e⟩),?_,?_,?_⟩
     . dsimp only;exact ⟨by omega,hle,by omega,h4⟩
     . dsimp only;omega
     refine StH.back [2,6,23,24,25] 2 2 2 rfl rfl rfl rfl rfl (by kernel_rfl) ?_;refine hg ?_;exact StH.same svl rfl
  . have h4':wf3 l ⟨Dm.zero,(1:Int)⟩=some u:=by rw [<-h4,List.drop_eq_nil_of_le (by omega)];rfl
    refine hg ?_
    repeat' ((first | refine hfk ?_ ?_<;>intros | refine hik ?_ | with_reducible first | refine v6l (ygx _) ?_ | refine vgi (ygx _) ?_)<;>refine hgS ?_)
    all_goals
     rename_i hd;exact RLe.ofEq (by simp only [zte,hi,h4',hd];rfl)
def qF:Option Rat->Fc
 | none=>Fc.zero
 | some q=>Fc.of q
abbrev qC (v:Option Rat):List Cell:=[.raw (.int .i64 (qF v).s),.ints .i64 (qF v).L,.raw (.int .i64 (qF v).t),.ints .i64 (qF v).M]
abbrev qz (v:Option Rat):Nat:=(qF v).sz
theorem yr3 {v:Option Rat}:(qF v).ok↔v.isSome=true:=by
 cases v with
 | none=>exact ⟨fun h=>absurd h Fc.vc1,fun h=>by cases h⟩
 | some q=>exact ⟨fun _=>rfl,fun _=>Fc.zav q⟩
theorem zym {a b:Option Rat} (h:qF a=qF b):a=b:=by
 cases a with
 | none=>cases b with
  | none=>rfl
  | some y=>exact absurd (show Fc.zero.ok by rw [show Fc.zero=Fc.of y from h];exact Fc.zav y) Fc.vc1
 | some x=>cases b with
  | none=>exact absurd (show Fc.zero.ok by rw [show Fc.zero=Fc.of x from h.symm];exact Fc.zav x) Fc.vc1
  | some y=>rw [Fc.y2b h]
theorem xp2 {f:Fc} (h:f.ok):∃ q,f=qF (some q):=Fc.xst h
def op2O (g:Rat->Rat->Rat) (a b:Option Rat):Option Rat:=match a,b with
 | some x,some y=>some (g x y)
 | _,_=>none
def erO (a b:Option Rat):Int:=bif a.isSome&&b.isSome then 0 else 1
def cmpO (a b:Option Rat):Int:=match a,b with
 | some x,some y=>Fc.ordQ x y
 | _,_=>0
def divO (a b:Option Rat):Option Rat:=match a,b with
 | some x,some y=>bif decide (y=0) then none else some (x / y)
 | _,_=>none
def divE (a b:Option Rat):Int:=match a,b with
 | some _,some y=>bif decide (y=0) then 15 else 0
 | _,_=>1
abbrev addO:=op2O (· + ·)
abbrev subO:=op2O (· - ·)
abbrev mulO:=op2O (· * ·)
abbrev minO:=op2O (fun x y=>min x y)
abbrev maxO:=op2O (fun x y=>max x y)
theorem yqn (g:Rat->Rat->Rat) (a b:Option Rat):Fc.op2 g (qF a) (qF b)=qF (op2O g a b):=by
 cases a with
 | none=>exact Fc.zmk (fun h=>Fc.vc1 h.1)
 | some x=>cases b with
  | none=>exact Fc.zmk (fun h=>Fc.vc1 h.2)
  | some y=>exact Fc.ypk g x y
theorem v7s (a b:Option Rat):Fc.er ((qF a).ok/\(qF b).ok)=erO a b:=by
 cases a with
 | none=>exact Fc.zab (fun h=>Fc.vc1 h.1)
 | some x=>cases b with
  | none=>exact Fc.zab (fun h=>Fc.vc1 h.2)
  | some y=>exact Fc.v2c ⟨Fc.zav x,Fc.zav y⟩
theorem zyd (a b:Option Rat):Fc.cmp (qF a) (qF b)=cmpO a b:=by
 cases a with
 | none=>exact if_neg (fun h=>Fc.vc1 h.1)
 | some x=>cases b with
  | none=>exact if_neg (fun h=>Fc.vc1 h.2)
  | some y=>exact Fc.ysh x y
theorem zpb (a b:Option Rat):-1<=cmpO a b/\cmpO a b<=1:=by rw [<-zyd];exact Fc.yav _ _
abbrev qR (v:Option Rat) (e:Int):AV:=.tup [.agg (qC v),.one (cI e)]
theorem oMul (a b:Option Rat) (ha:qz a<=67108864) (hb:qz b<=67108864):CallsD Γ prog 85 [.agg (qC a),.agg (qC b)] (qR (mulO a b) (erO a b)):=by
 have h:=toD (Γ:=Γ) (xxk (qF a) (qF b) ha hb);rw [show Fc.mul (qF a) (qF b)=_ from yqn _ a b,v7s] at h;exact h
theorem oCmp (a b:Option Rat) (ha:qz a<=67108864) (hb:qz b<=67108864):CallsD Γ prog 43 [.agg (qC a),.agg (qC b)] (.one (cI (cmpO a b))):=by
 have h:=toD (Γ:=Γ) (zrw (qF a) (qF b) ha hb);rw [zyd] at h;exact h
theorem wi6 (v:Option Rat) (h:qz v<=268435456):CallsD Γ prog 44 [.agg (qC v)] (.one (cB v.isSome)):=by
 have h:=toD (Γ:=Γ) (wuf (qF v) h)
 rw [show decide (qF v).ok=v.isSome by cases hv:v.isSome with
  | true=>exact decide_eq_true (yr3.2 hv)
  | false=>exact decide_eq_false (fun h=>by rw [yr3.1 h] at hv;cases hv)] at h
 exact h
theorem oInt (n:Int) (hn:inI n):CallsD Γ prog 37 [.one (cI n)] (.agg (qC (some (n:Rat)))):=toD (x4e n hn)
theorem vmy {e:Int}:RLe (.tup [.agg [cI 0,.zc,cI 0,.zc],.one (cI e)]) (qR none e):=.tup (.cons xxc (.cons (.refl _) .nil))
theorem oDiv (a b:Option Rat) (ha:qz a<=67108864) (hb:qz b<=67108864):CallsD Γ prog 140 [.agg (qC a),.agg (qC b)] (qR (divO a b) (divE a b)):=by
 cases a with
 | none=>
  have r1:CallsD Γ prog 44 [.agg (qC none)] (.one (cB false)):=wi6 none (by omega);refine CallsD.run [] Go.Proofs.Tryz.func140 rfl rfl rfl ?_;simp only [Go.Proofs.Tryz.f140];refine hgR ?_
  repeat' ((first | refine hfk ?_ ?_<;>intros | refine hik ?_ | with_reducible first | refine hcA ?_ | refine hcB ?_)<;>refine hgS ?_)
  exact vmy
 | some x=>
  have r1:CallsD Γ prog 44 [.agg (qC (some x))] (.one (cB true)):=wi6 (some x) (by omega)
  cases b with
  | none=>
   have r2:CallsD Γ prog 44 [.agg (qC none)] (.one (cB false)):=wi6 none (by omega);refine CallsD.run [] Go.Proofs.Tryz.func140 rfl rfl rfl ?_;simp only [Go.Proofs.Tryz.f140];refine hgR ?_
   repeat' ((first | refine hfk ?_ ?_<;>intros | refine hik ?_ | with_reducible first | refine hcA ?_ | refine hcB ?_)<;>refine hgS ?_)
   exact vmy
  | some y=>
   have r2:CallsD Γ prog 44 [.agg (qC (some y))] (.one (cB true)):=wi6 (some y) (by omega);by_cases hy:y=0
   . subst hy;have hs:(qF (some (0:Rat))).s=0:=rfl;have r2:CallsD Γ prog 44 [.agg [.raw (.int .i64 0),.ints .i64 (qF (some (0:Rat))).L,.raw (.int .i64 (qF (some (0:Rat))).t),.ints .i64 (qF (some (0:Rat))).M]] (.one (cB true)):=r2;refine CallsD.run [] Go.Proofs.Tryz.func140 rfl rfl rfl ?_;simp only [Go.Proofs.Tryz.f140];refine hgR ?_
     repeat' ((first | refine hfk ?_ ?_<;>intros | refine hik ?_ | with_reducible first | refine hcA ?_ | refine hcB ?_)<;>refine hgS ?_)
     exact vmy
   . have h:=qDiv (Γ:=Γ) x y hy ha hb;rw [show divO (some x) (some y)=some (x / y) by simp only [divO,hy,decide_false,cond_false],show divE (some x) (some y)=0 by simp only [divE,hy,decide_false,cond_false]];exact h
theorem voq {g:Rat->Rat->Rat} {n:Nat} (h:∀ x y,qs (g x y)<=qs x+qs y+n) (a b:Option Rat):qz (op2O g a b)<=qz a+qz b+n:=by
 cases a with
 | none=>exact Nat.zero_le _
 | some x=>cases b with
  | none=>exact Nat.zero_le _
  | some y=>exact h x y
theorem ylo (a b:Option Rat):qz (mulO a b)<=qz a+qz b:=voq (n:=0) Fc.zxl a b
theorem wtn {n:Int} (h:inI n):qz (some (n:Rat))<=4:=by
 have:=vun (n:=n.natAbs) (by unfold inI at h;omega)
 have h1:=vun (n:=1) (by omega);show max (dig ((n:Rat).num.natAbs)).length (dig (n:Rat).den).length<=4;rw [Rat.num_intCast,Rat.den_intCast];omega
end Go.Hp.T
namespace Go.Slot
open Go Go.RowKit Go.Slot.T
variable {l:List Fc} {i:Nat}
structure Sc where
 low:Fc
 high:Fc
namespace Sc
def C (s:Sc):List Cell:=[.raw (.int .i64 s.low.s),.ints .i64 s.low.L,.raw (.int .i64 s.low.t),.ints .i64 s.low.M,.raw (.int .i64 s.high.s),.ints .i64 s.high.L,.raw (.int .i64 s.high.t),.ints .i64 s.high.M]
theorem C_eq {s:Sc}:s.C=[.raw (.int .i64 s.low.s),.ints .i64 s.low.L,.raw (.int .i64 s.low.t),.ints .i64 s.low.M,.raw (.int .i64 s.high.s),.ints .i64 s.high.L,.raw (.int .i64 s.high.t),.ints .i64 s.high.M]:=_root_.id rfl
def ok (s:Sc):Prop:=s.low.ok/\s.high.ok/\Fc.cmp s.low s.high<=0
instance (s:Sc):Decidable s.ok:=inferInstanceAs (Decidable (_/\_))
def zero:Sc:=⟨Fc.zero,Fc.zero⟩
theorem yu4:zero.low=Fc.zero:=_root_.id rfl
theorem xmn:zero.high=Fc.zero:=_root_.id rfl
def sz (s:Sc):Nat:=max s.low.sz s.high.sz
instance:DecidableEq Sc:=fun a b=>decidable_of_iff (a.low=b.low/\a.high=b.high) ⟨fun h=>by cases a;cases b;simp at h;simp [h],fun h=>by rw [h];exact ⟨rfl,rfl⟩⟩
def has (s:Sc) (f:Fc):Prop:=s.ok/\f.ok/\Fc.cmp s.low f<=0/\Fc.cmp f s.high<=0
instance (s:Sc) (f:Fc):Decidable (s.has f):=inferInstanceAs (Decidable (_/\_))
def inside (a b:Sc):Prop:=a.ok/\b.ok/\Fc.cmp b.low a.low<=0/\Fc.cmp a.high b.high<=0
instance (a b:Sc):Decidable (a.inside b):=inferInstanceAs (Decidable (_/\_))
def add (a b:Sc):Sc:=if a.ok/\b.ok then ⟨Fc.add a.low b.low,Fc.add a.high b.high⟩ else zero
def vc6 (f:Fc):Sc:=if f.ok then ⟨f,f⟩ else zero
def least:Fc->List Fc->Fc
 | m,[]=>m
 | m,x::r=>least (if Fc.cmp x m<0 then x else m) r
def vdz:Fc->List Fc->Fc
 | m,[]=>m
 | m,x::r=>vdz (if Fc.cmp x m > 0 then x else m) r
def y7f (l:List Fc):Sc:=⟨least (l.getD 0 Fc.zero) (l.drop 1),vdz (l.getD 0 Fc.zero) (l.drop 1)⟩
def mul (a b:Sc):Sc:=if a.ok/\b.ok then y7f [Fc.mul a.low b.low,Fc.mul a.low b.high,Fc.mul a.high b.low,Fc.mul a.high b.high] else zero
theorem zp5 {s:Sc} {n:Nat} (h:s.sz<=n):s.low.sz<=n/\s.high.sz<=n:=by unfold sz at h;omega
end Sc
theorem rowF (h:i<l.length):(l.map Fc.C).getD i []=(l.getD i Fc.zero).C:=by
 simp [h]
theorem vuh:(l.map Fc.C).length=l.length:=by simp
attribute [go_sem] Sc.C_eq rowF vuh Sc.yu4 Sc.xmn
theorem drop_cons {α:Type} {l:List α} (d:α) (h:i<l.length):l.drop i=l.getD i d::l.drop (i+1):=by
 rw [List.drop_eq_getElem_cons h];simp [h]
end Go.Slot
namespace Go.Slot.T
open Go Go.RowKit Go.Slot
open Go.Proofs.Tryz (prog)
set_option maxRecDepth 10000
set_option maxHeartbeats 4000000
theorem vwa (f:Fc) (h:f.sz<=268435456) (hb:f.ok):yn2 prog 44 [.agg f.C] (.one (.raw (.bool true))):=by
 have:=wuf f h
 rwa [decide_eq_true hb] at this
theorem yi0 (l:List Fc) (h0:0<l.length) (hl:l.length<=1048576) (hs:∀ f∈l,f.sz<=67108864) :
 yn2 prog 232 [.one (.sl 4 (l.map Fc.C)),.one (.raw (.func (.func 43) #[] #[]))] (.agg (Sc.least (l.getD 0 Fc.zero) (l.drop 1)).C):=by
 have hmem:∀ i,i<l.length->(l.getD i Fc.zero).sz<=67108864:=fun i hi=>hs _ (by simp [hi])
 refine yn2.run [] Go.Proofs.Tryz.func232 rfl rfl ?_;simp only [Go.Proofs.Tryz.f232];refine rgR ?_;refine z08 (fun h=>absurd h (by omega)) (fun _=>?_);refine rg ?_;refine vxs [0,1] (fun x:Nat×Fc=>[(5,.box x.2.C),(6,.one (.raw (.int .i64 x.1)))]) (fun x=>x.1<=l.length/\1<=x.1/\x.2.sz<=67108864/\Sc.least (l.getD 0 Fc.zero) (l.drop 1)=Sc.least x.2 (l.drop x.1)) (fun x=>l.length-x.1) (1,l.getD 0 Fc.zero) ⟨h0,Nat.le_refl _,hmem 0 h0,rfl⟩ ?_ ?_
 . refine rg ?_;exact StLe.weaken (by repeat' first | exact .nil | refine .cons (by first | exact .refl _ | exact .any _) ?_) rfl
 rintro ⟨i,m⟩ ⟨hi,hi1,hm,he⟩;simp only at hi hi1 hm he;refine rg ?_;refine z08 (fun h=>?_) (fun h=>?_)
 . rw [drop_cons Fc.zero (show i<l.length by omega)] at he;refine rg ?_;refine v1h (zrw (l.getD i Fc.zero) m (hmem i (by omega)) hm) ?_;refine rg ?_;refine indk (by kernel_rfl) ?_;refine rg ?_;refine z08 (fun h1=>?_) (fun h1=>?_)
   . refine rg ?_;refine ⟨(i+1,l.getD i Fc.zero),⟨by dsimp only;omega,by dsimp only;omega,hmem i (by omega),?_⟩,by dsimp only;omega,StLe.weaken (by repeat' first | exact .nil | refine .cons (by first | exact .refl _ | exact .any _) ?_) rfl⟩
     rw [he];conv=>lhs;unfold Sc.least
     rw [if_pos h1]
   . refine rg ?_;refine ⟨(i+1,m),⟨by dsimp only;omega,by dsimp only;omega,hm,?_⟩,by dsimp only;omega,StLe.weaken (by repeat' first | exact .nil | refine .cons (by first | exact .refl _ | exact .any _) ?_) rfl⟩
     rw [he];conv=>lhs;unfold Sc.least
     rw [if_neg h1]
 . have hi':i=l.length:=by omega
   rw [hi',List.drop_length] at he;refine rg ?_;exact ⟨_,rfl,by rw [he];exact .one (.refl _)⟩
theorem yvp (l:List Fc) (h0:0<l.length) (hl:l.length<=1048576) (hs:∀ f∈l,f.sz<=67108864) :
 yn2 prog 233 [.one (.sl 4 (l.map Fc.C)),.one (.raw (.func (.func 43) #[] #[]))] (.agg (Sc.vdz (l.getD 0 Fc.zero) (l.drop 1)).C):=by
 have hmem:∀ i,i<l.length->(l.getD i Fc.zero).sz<=67108864:=fun i hi=>hs _ (by simp [hi])
 refine yn2.run [] Go.Proofs.Tryz.func233 rfl rfl ?_;simp only [Go.Proofs.Tryz.f233];refine rgR ?_;refine z08 (fun h=>absurd h (by omega)) (fun _=>?_);refine rg ?_;refine vxs [0,1] (fun x:Nat×Fc=>[(5,.box x.2.C),(6,.one (.raw (.int .i64 x.1)))]) (fun x=>x.1<=l.length/\1<=x.1/\x.2.sz<=67108864/\Sc.vdz (l.getD 0 Fc.zero) (l.drop 1)=Sc.vdz x.2 (l.drop x.1)) (fun x=>l.length-x.1) (1,l.getD 0 Fc.zero) ⟨h0,Nat.le_refl _,hmem 0 h0,rfl⟩ ?_ ?_
 . refine rg ?_;exact StLe.weaken (by repeat' first | exact .nil | refine .cons (by first | exact .refl _ | exact .any _) ?_) rfl
 rintro ⟨i,m⟩ ⟨hi,hi1,hm,he⟩;simp only at hi hi1 hm he;refine rg ?_;refine z08 (fun h=>?_) (fun h=>?_)
 . rw [drop_cons Fc.zero (show i<l.length by omega)] at he;refine rg ?_;refine v1h (zrw (l.getD i Fc.zero) m (hmem i (by omega)) hm) ?_;refine rg ?_;refine indk (by kernel_rfl) ?_;refine rg ?_;refine z08 (fun h1=>?_) (fun h1=>?_)
   . refine rg ?_;refine ⟨(i+1,l.getD i Fc.zero),⟨by dsimp only;omega,by dsimp only;omega,hmem i (by omega),?_⟩,by dsimp only;omega,StLe.weaken (by repeat' first | exact .nil | refine .cons (by first | exact .refl _ | exact .any _) ?_) rfl⟩
     rw [he];conv=>lhs;unfold Sc.vdz
     rw [if_pos h1]
   . refine rg ?_;refine ⟨(i+1,m),⟨by dsimp only;omega,by dsimp only;omega,hm,?_⟩,by dsimp only;omega,StLe.weaken (by repeat' first | exact .nil | refine .cons (by first | exact .refl _ | exact .any _) ?_) rfl⟩
     rw [he];conv=>lhs;unfold Sc.vdz
     rw [if_neg h1]
 . have hi':i=l.length:=by omega
   rw [hi',List.drop_length] at he;refine rg ?_;exact ⟨_,rfl,by rw [he];exact .one (.refl _)⟩
theorem wu9:AV.Le (.agg [.raw (.int .i64 0),.zc,.raw (.int .i64 0),.zc,.raw (.int .i64 0),.zc,.raw (.int .i64 0),.zc]) (.agg Sc.zero.C):=
 .agg (.cons (.refl _) (.cons (.ysc _) (.cons (.refl _) (.cons (.ysc _) (.cons (.refl _) (.cons (.ysc _) (.cons (.refl _) (.cons (.ysc _) .nil))))))))
theorem y65 (s:Sc) (h:s.sz<=67108864):yn2 prog 18 [.agg s.C] (.one (.raw (.bool (decide s.ok)))):=by
 have ⟨hl,hh⟩:=Sc.zp5 h;by_cases h1:s.low.ok
 . by_cases h2:s.high.ok
   . rw [show decide s.ok=decide (Fc.cmp s.low s.high<=0) from decide_eq_decide.2 ⟨fun h=>h.2.2,fun h=>⟨h1,h2,h⟩⟩];refine yn2.run [] Go.Proofs.Tryz.func18 rfl rfl ?_;simp only [Go.Proofs.Tryz.f18];refine rgR ?_;refine v1h (vwa s.low (by omega) h1) ?_;refine rg ?_;refine v1h (vwa s.high (by omega) h2) ?_;refine rg ?_;refine v1h (zrw s.low s.high hl hh) ?_;refine rg ?_;exact ⟨_,rfl,.one (.refl _)⟩
   . rw [decide_eq_false (fun h=>h2 h.2.1)];refine yn2.run [] Go.Proofs.Tryz.func18 rfl rfl ?_;simp only [Go.Proofs.Tryz.f18];refine rgR ?_;refine v1h (vwa s.low (by omega) h1) ?_;refine rg ?_;refine v1h (yx8 s.high (by omega) h2) ?_;refine rg ?_;exact ⟨_,rfl,.one (.refl _)⟩
 . rw [decide_eq_false (fun h=>h1 h.1)];refine yn2.run [] Go.Proofs.Tryz.func18 rfl rfl ?_;simp only [Go.Proofs.Tryz.f18];refine rgR ?_;refine v1h (yx8 s.low (by omega) h1) ?_;refine rg ?_;exact ⟨_,rfl,.one (.refl _)⟩
theorem zs2 (s:Sc) (h:s.sz<=67108864) (hb:s.ok):yn2 prog 18 [.agg s.C] (.one (.raw (.bool true))):=by
 have:=y65 s h
 rwa [decide_eq_true hb] at this
theorem y28 (s:Sc) (h:s.sz<=67108864) (hb:¬s.ok):yn2 prog 18 [.agg s.C] (.one (.raw (.bool false))):=by
 have:=y65 s h
 rwa [decide_eq_false hb] at this
theorem vjc (s:Sc) (f:Fc) (h:s.sz<=67108864) (hf:f.sz<=67108864):yn2 prog 21 [.agg s.C,.agg f.C] (.one (.raw (.bool (decide (s.has f))))):=by
 have ⟨hl,hh⟩:=Sc.zp5 h;obtain ⟨r,hr⟩:∃ r,r=decide (s.has f):=⟨_,rfl⟩;rw [<-hr]
 have bad:¬s.has f->r=false:=fun h=>by rw [hr,decide_eq_false h]
 by_cases h1:s.ok
 . by_cases h2:f.ok
   . have hc1:=zrw s.low f hl hf;have hc2:=zrw f s.high hf hh;refine yn2.run [] Go.Proofs.Tryz.func21 rfl rfl ?_;simp only [Go.Proofs.Tryz.f21];refine rgR ?_;refine v1h (zs2 s h h1) ?_;refine rg ?_;refine v1h (vwa f (by omega) h2) ?_;refine rg ?_;refine v1h hc1 ?_;refine rg ?_;refine z4u (fun h3=>?_) (fun h3=>?_)
     . have h3':=decide_eq_true h3;refine rg1 @h3' ?_;refine v1h hc2 ?_;refine rg ?_
       have e:decide (Fc.cmp f s.high<=0)=r:=by rw [hr];exact decide_eq_decide.2 ⟨fun h=>⟨h1,h2,h3,h⟩,fun h=>h.2.2.2⟩
       exact ⟨_,rfl,by rw [e];exact .one (.refl _)⟩
     . have h3':=decide_eq_false h3;refine rg1 @h3' ?_;exact ⟨_,rfl,by rw [bad (fun h=>h3 h.2.2.1)];exact .one (.refl _)⟩
   . rw [bad (fun h=>h2 h.2.1)];refine yn2.run [] Go.Proofs.Tryz.func21 rfl rfl ?_;simp only [Go.Proofs.Tryz.f21];refine rgR ?_;refine v1h (zs2 s h h1) ?_;refine rg ?_;refine v1h (yx8 f (by omega) h2) ?_;refine rg ?_;exact ⟨_,rfl,.one (.refl _)⟩
 . rw [bad (fun h=>h1 h.1)];refine yn2.run [] Go.Proofs.Tryz.func21 rfl rfl ?_;simp only [Go.Proofs.Tryz.f21];refine rgR ?_;refine v1h (y28 s h h1) ?_;refine rg ?_;exact ⟨_,rfl,.one (.refl _)⟩
theorem vbs (a b:Sc) (ha:a.sz<=67108864) (hb:b.sz<=67108864):yn2 prog 17 [.agg a.C,.agg b.C] (.one (.raw (.bool (decide (a.inside b))))):=by
 have ⟨hal,hah⟩:=Sc.zp5 ha;have ⟨hbl,hbh⟩:=Sc.zp5 hb;obtain ⟨r,hr⟩:∃ r,r=decide (a.inside b):=⟨_,rfl⟩;rw [<-hr]
 have bad:¬a.inside b->r=false:=fun h=>by rw [hr,decide_eq_false h]
 by_cases h1:a.ok
 . by_cases h2:b.ok
   . have hc1:=zrw b.low a.low hbl hal;have hc2:=zrw a.high b.high hah hbh;refine yn2.run [] Go.Proofs.Tryz.func17 rfl rfl ?_;simp only [Go.Proofs.Tryz.f17];refine rgR ?_;refine v1h (zs2 a ha h1) ?_;refine rg ?_;refine v1h (zs2 b hb h2) ?_;refine rg ?_;refine v1h hc1 ?_;refine rg ?_;refine z4u (fun h3=>?_) (fun h3=>?_)
     . have h3':=decide_eq_true h3;refine rg1 @h3' ?_;refine v1h hc2 ?_;refine rg ?_
       have e:decide (Fc.cmp a.high b.high<=0)=r:=by rw [hr];exact decide_eq_decide.2 ⟨fun h=>⟨h1,h2,h3,h⟩,fun h=>h.2.2.2⟩
       exact ⟨_,rfl,by rw [e];exact .one (.refl _)⟩
     . have h3':=decide_eq_false h3;refine rg1 @h3' ?_;exact ⟨_,rfl,by rw [bad (fun h=>h3 h.2.2.1)];exact .one (.refl _)⟩
   . rw [bad (fun h=>h2 h.2.1)];refine yn2.run [] Go.Proofs.Tryz.func17 rfl rfl ?_;simp only [Go.Proofs.Tryz.f17];refine rgR ?_;refine v1h (zs2 a ha h1) ?_;refine rg ?_;refine v1h (y28 b hb h2) ?_;refine rg ?_;exact ⟨_,rfl,.one (.refl _)⟩
 . rw [bad (fun h=>h1 h.1)];refine yn2.run [] Go.Proofs.Tryz.func17 rfl rfl ?_;simp only [Go.Proofs.Tryz.f17];refine rgR ?_;refine v1h (y28 a ha h1) ?_;refine rg ?_;exact ⟨_,rfl,.one (.refl _)⟩
theorem vs2 (f:Fc) (h:f.sz<=67108864):yn2 prog 52 [.agg f.C] (.agg f.C):=by
 have ⟨h1,h2⟩:=szL h;refine yn2.run [] Go.Proofs.Tryz.func52 rfl rfl ?_;simp only [Go.Proofs.Tryz.f52];refine rgR ?_;refine v1h (yud f.L (by omega)) ?_;refine rg ?_;refine v1h (yud f.M (by omega)) ?_;refine rg ?_;refine indk (by kernel_rfl) ?_;refine rg ?_;exact ⟨_,rfl,.one (.refl _)⟩
theorem zx7 (f:Fc) (h:f.sz<=67108864):yn2 prog 23 [.agg f.C] (.agg (Sc.vc6 f).C):=by
 by_cases h1:f.ok
 . rw [show Sc.vc6 f=⟨f,f⟩ from if_pos h1];refine yn2.run [] Go.Proofs.Tryz.func23 rfl rfl ?_;simp only [Go.Proofs.Tryz.f23];refine rgR ?_;refine v1h (vwa f (by omega) h1) ?_;refine rg ?_;refine v1h (vs2 f h) ?_;refine rg ?_;refine v1h (vs2 f h) ?_;refine rg ?_;refine indk (by kernel_rfl) ?_;refine rg ?_;exact ⟨_,rfl,.one (.refl _)⟩
 . rw [show Sc.vc6 f=Sc.zero from if_neg h1];refine yn2.run [] Go.Proofs.Tryz.func23 rfl rfl ?_;simp only [Go.Proofs.Tryz.f23];refine rgR ?_;refine v1h (yx8 f (by omega) h1) ?_;refine rg ?_;exact ⟨_,rfl,.one wu9⟩
theorem xqt (a b:Sc) (ha:a.sz<=67108864) (hb:b.sz<=67108864):yn2 prog 149 [.agg a.C,.agg b.C] (.tup [.agg (Sc.add a b).C,.one (.raw (.int .i64 (Fc.er (a.ok/\b.ok))))]):=by
 have ⟨hal,hah⟩:=Sc.zp5 ha;have ⟨hbl,hbh⟩:=Sc.zp5 hb;by_cases h1:a.ok
 . by_cases h2:b.ok
   . rw [Fc.v2c ⟨h1,h2⟩,show Sc.add a b=⟨Fc.add a.low b.low,Fc.add a.high b.high⟩ from if_pos ⟨h1,h2⟩];refine yn2.run [] Go.Proofs.Tryz.func149 rfl rfl ?_;simp only [Go.Proofs.Tryz.f149];refine rgR ?_;refine v1h (zs2 a ha h1) ?_;refine rg ?_;refine v1h (zs2 b hb h2) ?_;refine rg ?_;refine v1h (wnb a.low b.low hal hbl) ?_;refine rg ?_;refine v1h (wnb a.high b.high hah hbh) ?_;refine rg ?_;exact ⟨_,rfl,.tup (.cons (.refl _) (.cons (.refl _) .nil))⟩
   . rw [Fc.zab (fun h=>h2 h.2),show Sc.add a b=Sc.zero from if_neg (fun h=>h2 h.2)];refine yn2.run [] Go.Proofs.Tryz.func149 rfl rfl ?_;simp only [Go.Proofs.Tryz.f149];refine rgR ?_;refine v1h (zs2 a ha h1) ?_;refine rg ?_;refine v1h (y28 b hb h2) ?_;refine rg ?_;exact ⟨_,rfl,.tup (.cons wu9 (.cons (.refl _) .nil))⟩
 . rw [Fc.zab (fun h=>h1 h.1),show Sc.add a b=Sc.zero from if_neg (fun h=>h1 h.1)];refine yn2.run [] Go.Proofs.Tryz.func149 rfl rfl ?_;simp only [Go.Proofs.Tryz.f149];refine rgR ?_;refine v1h (y28 a ha h1) ?_;refine rg ?_;exact ⟨_,rfl,.tup (.cons wu9 (.cons (.refl _) .nil))⟩
theorem wah (a b:Fc) (ha:a.sz<=67108864) (hb:b.sz<=67108864):yn2 prog 195 [.agg a.C,.agg b.C] (.agg (Fc.mul a b).C):=by
 refine yn2.run [] Go.Proofs.Tryz.func195 rfl rfl ?_;simp only [Go.Proofs.Tryz.f195];refine rgR ?_;refine v1h (xxk a b ha hb) ?_;refine rg ?_;exact ⟨_,rfl,.one (.refl _)⟩
theorem vej:∀(l:List Fc) (m:Fc),Sc.least m l∈m::l
 | [],m=>by simp [Sc.least]
 | x::r,m=>by
  have h0:=vej r (if Fc.cmp x m<0 then x else m);show Sc.least (if Fc.cmp x m<0 then x else m) r∈_;by_cases hc:Fc.cmp x m<0
  . rw [if_pos hc] at h0 ⊢;exact List.mem_cons_of_mem _ h0
  . rw [if_neg hc] at h0 ⊢
    rcases List.mem_cons.1 h0 with h | h
    . rw [h];exact List.mem_cons_self
    . exact List.mem_cons_of_mem _ (List.mem_cons_of_mem _ h)
theorem zgd:∀(l:List Fc) (m:Fc),Sc.vdz m l∈m::l
 | [],m=>by simp [Sc.vdz]
 | x::r,m=>by
  have h0:=zgd r (if Fc.cmp x m > 0 then x else m);show Sc.vdz (if Fc.cmp x m > 0 then x else m) r∈_;by_cases hc:Fc.cmp x m > 0
  . rw [if_pos hc] at h0 ⊢;exact List.mem_cons_of_mem _ h0
  . rw [if_neg hc] at h0 ⊢
    rcases List.mem_cons.1 h0 with h | h
    . rw [h];exact List.mem_cons_self
    . exact List.mem_cons_of_mem _ (List.mem_cons_of_mem _ h)
theorem y4y {l:List Fc} {n:Nat} (h0:0<l.length) (hs:∀ f∈l,f.sz<=n):(Sc.y7f l).low.sz<=n/\(Sc.y7f l).high.sz<=n:=by
 have e:l=l.getD 0 Fc.zero::l.drop 1:=drop_cons (i:=0) Fc.zero h0;refine ⟨hs _ ?_,hs _ ?_⟩
 . rw [e];exact vej _ _
 . rw [e];exact zgd _ _
theorem y82 (l:List Fc) (h0:0<l.length) (hl:l.length<=1048576) (hs:∀ f∈l,f.sz<=67108864):yn2 prog 194 [.one (.sl 4 (l.map Fc.C))] (.agg (Sc.y7f l).C):=by
 have ⟨h1,h2⟩:=y4y h0 hs;refine yn2.run [] Go.Proofs.Tryz.func194 rfl rfl ?_;simp only [Go.Proofs.Tryz.f194];refine rgR ?_;refine v1h (yi0 l h0 hl hs) ?_;refine rg ?_;refine v1h (vs2 (Sc.y7f l).low h1) ?_;refine rg ?_;refine v1h (yvp l h0 hl hs) ?_;refine rg ?_;refine v1h (vs2 (Sc.y7f l).high h2) ?_;refine rg ?_;exact ⟨_,rfl,.one (.refl _)⟩
theorem wev (a b:Sc) (ha:a.sz<=33554432) (hb:b.sz<=33554432):yn2 prog 151 [.agg a.C,.agg b.C] (.tup [.agg (Sc.mul a b).C,.one (.raw (.int .i64 (Fc.er (a.ok/\b.ok))))]):=by
 have ⟨hal,hah⟩:=Sc.zp5 ha;have ⟨hbl,hbh⟩:=Sc.zp5 hb;by_cases h1:a.ok
 . by_cases h2:b.ok
   . rw [Fc.v2c ⟨h1,h2⟩,show Sc.mul a b=Sc.y7f [Fc.mul a.low b.low,Fc.mul a.low b.high,Fc.mul a.high b.low,Fc.mul a.high b.high] from if_pos ⟨h1,h2⟩];have s1:=Fc.xgg a.low b.low;have s2:=Fc.xgg a.low b.high;have s3:=Fc.xgg a.high b.low;have s4:=Fc.xgg a.high b.high
     have hA:=y82 [Fc.mul a.low b.low,Fc.mul a.low b.high,Fc.mul a.high b.low,Fc.mul a.high b.high] (by simp) (by simp) (fun f hf=>by
      simp only [List.mem_cons,List.not_mem_nil,or_false] at hf
      rcases hf with rfl | rfl | rfl | rfl<;>omega)
     refine yn2.run [] Go.Proofs.Tryz.func151 rfl rfl ?_;simp only [Go.Proofs.Tryz.f151];refine rgR ?_;refine v1h (zs2 a (by omega) h1) ?_;refine rg ?_;refine v1h (zs2 b (by omega) h2) ?_;refine rg ?_;refine v1h (wah a.low b.low (by omega) (by omega)) ?_;refine rg ?_;refine v1h (wah a.low b.high (by omega) (by omega)) ?_;refine rg ?_;refine v1h (wah a.high b.low (by omega) (by omega)) ?_;refine rg ?_;refine v1h (wah a.high b.high (by omega) (by omega)) ?_;refine rg ?_;refine v1h hA ?_;refine rg ?_;refine indk (by kernel_rfl) ?_;refine rg ?_;exact ⟨_,rfl,.tup (.cons (.refl _) (.cons (.refl _) .nil))⟩
   . rw [Fc.zab (fun h=>h2 h.2),show Sc.mul a b=Sc.zero from if_neg (fun h=>h2 h.2)];refine yn2.run [] Go.Proofs.Tryz.func151 rfl rfl ?_;simp only [Go.Proofs.Tryz.f151];refine rgR ?_;refine v1h (zs2 a (by omega) h1) ?_;refine rg ?_;refine v1h (y28 b (by omega) h2) ?_;refine rg ?_;exact ⟨_,rfl,.tup (.cons wu9 (.cons (.refl _) .nil))⟩
 . rw [Fc.zab (fun h=>h1 h.1),show Sc.mul a b=Sc.zero from if_neg (fun h=>h1 h.1)];refine yn2.run [] Go.Proofs.Tryz.func151 rfl rfl ?_;simp only [Go.Proofs.Tryz.f151];refine rgR ?_;refine v1h (y28 a (by omega) h1) ?_;refine rg ?_;exact ⟨_,rfl,.tup (.cons wu9 (.cons (.refl _) .nil))⟩
end Go.Slot.T
namespace Go.Hp.T
open Go Go.RowKit Go.Slot Go.Hp Go.Slot.T
open Go.Proofs.Tryz (prog)
set_option maxRecDepth 10000
set_option maxHeartbeats 4000000
variable {Γ:List (Nat×List Cell)}
variable {a b x y:Rat} {m:Nat}
theorem v16 {c:Rat} (h1:a<b) (h2:b<=c):a<c:=Rat.not_le.1 (fun h=>Rat.not_le.2 h1 (Rat.le_trans h2 h))
theorem wgr {c:Rat} (h1:a<=b) (h2:b<c):a<c:=Rat.not_le.1 (fun h=>Rat.not_le.2 h2 (Rat.le_trans h h1))
theorem x1r {c d:Rat} (h1:a<=c) (h2:b<=d):a+b<=c+d:=Rat.le_trans (Rat.add_le_add_right.2 h1) (Rat.add_le_add_left.2 h2)
theorem vrf (h:x≠0):(-x)⁻¹ = -x⁻¹:=by
 have h':-x≠0:=fun e=>h (by have:=congrArg (fun y=>-y) e;simp only [Rat.neg_neg,Rat.neg_zero] at this;exact this)
 have e1:-x * -x⁻¹=1:=by rw [Rat.neg_mul,Rat.mul_neg,Rat.neg_neg,Rat.mul_inv_cancel _ h]
 have e2:(-x)⁻¹*(-x * -x⁻¹) = -x⁻¹:=by rw [<-Rat.mul_assoc,Rat.inv_mul_cancel _ h',Rat.one_mul]
 rw [<-e2,e1,Rat.mul_one]
structure Iv where
 lo:Rat
 hi:Rat
 h:lo<=hi
theorem Iv.ext' {a b:Iv} (h1:a.lo=b.lo) (h2:a.hi=b.hi):a=b:=by
 cases a;cases b;cases h1;cases h2;rfl
instance:DecidableEq Iv:=fun a b=>decidable_of_iff (a.lo=b.lo/\a.hi=b.hi) ⟨fun h=>Iv.ext' h.1 h.2,fun h=>by rw [h];exact ⟨rfl,rfl⟩⟩
def Iv.pt (q:Rat):Iv:=⟨q,q,Rat.le_refl⟩
instance:Inhabited Iv:=⟨Iv.pt 0⟩
def Iv.neg (a:Iv):Iv:=⟨-a.hi,-a.lo,Rat.neg_le_neg a.h⟩
def Iv.add (a b:Iv):Iv:=⟨a.lo+b.lo,a.hi+b.hi,x1r a.h b.h⟩
def Iv.sub (a b:Iv):Iv:=a.add b.neg
def mn4 (a b c d:Rat):Rat:=min (min (min a b) c) d
def mx4 (a b c d:Rat):Rat:=max (max (max a b) c) d
theorem zgf (a b:Rat):min a b<=a:=by
 rw [Rat.min_def];split
 . exact Rat.le_refl
 . rename_i h;exact Rat.le_of_lt (Rat.not_le.1 h)
theorem xvo (a b:Rat):min a b<=b:=by
 rw [Rat.min_def];split
 . assumption
 . exact Rat.le_refl
theorem wod (a b:Rat):a<=max a b:=by
 rw [Rat.max_def];split
 . assumption
 . exact Rat.le_refl
theorem vbu (a b:Rat):b<=max a b:=by
 rw [Rat.max_def];split
 . exact Rat.le_refl
 . rename_i h;exact Rat.le_of_lt (Rat.not_le.1 h)
theorem wm6 {c:Rat} (h1:c<=a) (h2:c<=b):c<=min a b:=by
 rw [Rat.min_def];split<;>assumption
theorem vq9 {c:Rat} (h1:a<=c) (h2:b<=c):max a b<=c:=by
 rw [Rat.max_def];split<;>assumption
theorem vdp (a b:Rat):min a b=a\/min a b=b:=by
 rw [Rat.min_def];split
 . exact .inl rfl
 . exact .inr rfl
theorem yqy (a b:Rat):max a b=a\/max a b=b:=by
 rw [Rat.max_def];split
 . exact .inr rfl
 . exact .inl rfl
theorem x3q (a b c d:Rat):mn4 a b c d<=a/\mn4 a b c d<=b/\mn4 a b c d<=c/\mn4 a b c d<=d:=by
 have h1:=zgf (min (min a b) c) d;have h2:=xvo (min (min a b) c) d;have h3:=zgf (min a b) c;have h4:=xvo (min a b) c;exact ⟨Rat.le_trans h1 (Rat.le_trans h3 (zgf a b)),Rat.le_trans h1 (Rat.le_trans h3 (xvo a b)),Rat.le_trans h1 h4,h2⟩
theorem vxc (a b c d:Rat):a<=mx4 a b c d/\b<=mx4 a b c d/\c<=mx4 a b c d/\d<=mx4 a b c d:=by
 have h1:=wod (max (max a b) c) d;have h2:=vbu (max (max a b) c) d;have h3:=wod (max a b) c;have h4:=vbu (max a b) c;exact ⟨Rat.le_trans (wod a b) (Rat.le_trans h3 h1),Rat.le_trans (vbu a b) (Rat.le_trans h3 h1),Rat.le_trans h4 h1,h2⟩
theorem xbl {c d:Rat} (h1:x<=a) (h2:x<=b) (h3:x<=c) (h4:x<=d):x<=mn4 a b c d:=wm6 (wm6 (wm6 h1 h2) h3) h4
theorem xvb {c d:Rat} (h1:a<=x) (h2:b<=x) (h3:c<=x) (h4:d<=x):mx4 a b c d<=x:=vq9 (vq9 (vq9 h1 h2) h3) h4
theorem xva (a b c d:Rat):mn4 a b c d=a\/mn4 a b c d=b\/mn4 a b c d=c\/mn4 a b c d=d:=by
 unfold mn4
 rcases vdp (min (min a b) c) d with h | h<;>rw [h]
 . rcases vdp (min a b) c with h | h<;>rw [h]
   . rcases vdp a b with h | h<;>rw [h]<;>simp
   . simp
 . simp
theorem y66 (a b c d:Rat):mx4 a b c d=a\/mx4 a b c d=b\/mx4 a b c d=c\/mx4 a b c d=d:=by
 unfold mx4
 rcases yqy (max (max a b) c) d with h | h<;>rw [h]
 . rcases yqy (max a b) c with h | h<;>rw [h]
   . rcases yqy a b with h | h<;>rw [h]<;>simp
   . simp
 . simp
def Iv.round (a b c d:Rat):Iv:=⟨mn4 a b c d,mx4 a b c d,Rat.le_trans (x3q a b c d).1 (vxc a b c d).1⟩
def Iv.mul (a b:Iv):Iv:=Iv.round (a.lo*b.lo) (a.lo*b.hi) (a.hi*b.lo) (a.hi*b.hi)
def Iv.hull (a b:Iv):Iv:=Iv.round a.lo a.hi b.lo b.hi
def Iv.has (a:Iv) (q:Rat):Bool:=decide (a.lo<=q)&&decide (q<=a.hi)
def Iv.inside (a b:Iv):Bool:=decide (b.lo<=a.lo)&&decide (a.hi<=b.hi)
theorem x07 (h:x<=y) (hp:0<x):1 / y<=1 / x:=by
 have hy:0<y:=v16 hp h;rw [Rat.div_def,Rat.div_def,Rat.one_mul,Rat.one_mul];have h1:0<x⁻¹:=Rat.inv_pos.2 hp;have h2:0<y⁻¹:=Rat.inv_pos.2 hy;have h3:=Rat.mul_le_mul_of_nonneg_right (Rat.mul_le_mul_of_nonneg_left h (Rat.le_of_lt h1)) (Rat.le_of_lt h2)
 rwa [Rat.inv_mul_cancel _ (Rat.ne_of_gt hp),Rat.one_mul,Rat.mul_assoc,Rat.mul_inv_cancel _ (Rat.ne_of_gt hy),Rat.mul_one] at h3
theorem xao (h:x<=y) (hn:y<0):1 / y<=1 / x:=by
 have h1:=x07 (x:=-y) (y:=-x) (Rat.neg_le_neg h) (by have:=Rat.neg_lt_neg hn;rwa [Rat.neg_zero] at this);have hx:x≠0:=Rat.ne_of_lt (wgr h hn);have hy:y≠0:=Rat.ne_of_lt hn;rw [Rat.div_def,Rat.div_def,Rat.one_mul,Rat.one_mul,vrf hx,vrf hy] at h1;rw [Rat.div_def,Rat.div_def,Rat.one_mul,Rat.one_mul]
 have:=Rat.neg_le_neg h1
 rwa [Rat.neg_neg,Rat.neg_neg] at this
theorem Iv.xap {b:Iv} (h:b.has 0=false):1 / b.hi<=1 / b.lo:=by
 unfold Iv.has at h;rw [Bool.and_eq_false_iff] at h
 rcases h with h | h
 . exact x07 b.h (Rat.not_le.1 (of_decide_eq_false h))
 . exact xao b.h (Rat.not_le.1 (of_decide_eq_false h))
def Iv.inv (b:Iv):Iv:=if h:b.has 0=false then ⟨1 / b.hi,1 / b.lo,Iv.xap h⟩ else b
def Iv.minI (a b:Iv):Iv:=⟨min a.lo b.lo,min a.hi b.hi,wm6 (Rat.le_trans (zgf _ _) a.h) (Rat.le_trans (xvo _ _) b.h)⟩
def Iv.maxI (a b:Iv):Iv:=⟨max a.lo b.lo,max a.hi b.hi,vq9 (Rat.le_trans a.h (wod _ _)) (Rat.le_trans b.h (vbu _ _))⟩
def Iv.meets (a b:Iv):Bool:=decide (max a.lo b.lo<=min a.hi b.hi)
abbrev ivC (v:Iv):List Cell:=[.raw (.int .i64 (qF (some v.lo)).s),.ints .i64 (qF (some v.lo)).L,.raw (.int .i64 (qF (some v.lo)).t),.ints .i64 (qF (some v.lo)).M,.raw (.int .i64 (qF (some v.hi)).s),.ints .i64 (qF (some v.hi)).L,.raw (.int .i64 (qF (some v.hi)).t),.ints .i64 (qF (some v.hi)).M]
def ivS (v:Iv):Sc:=⟨qF (some v.lo),qF (some v.hi)⟩
abbrev ivZ (v:Iv):Nat:=max (qz (some v.lo)) (qz (some v.hi))
theorem zlo {v:Iv} {n:Nat} (h:ivZ v<=n) (hm:n<=m:=by decide):qz (some v.lo)<=m:=Nat.le_trans (Nat.le_max_left _ _) (Nat.le_trans h hm)
theorem zhi {v:Iv} {n:Nat} (h:ivZ v<=n) (hm:n<=m:=by decide):qz (some v.hi)<=m:=Nat.le_trans (Nat.le_max_right _ _) (Nat.le_trans h hm)
theorem yxx (v:Iv):(ivS v).ok:=⟨Fc.zav _,Fc.zav _,by
 have:=v.h
 show Fc.cmp (Fc.of v.lo) (Fc.of v.hi)<=0;rw [Fc.ysh]
 rcases Fc.ygb v.lo v.hi with ⟨_,e⟩ | ⟨_,e⟩ | ⟨q,e⟩<;>rw [e]
 . decide
 . decide
 . exact absurd q (Rat.not_lt.2 this)⟩
theorem vjq {x y:Rat}:decide (Fc.ordQ x y<=0)=decide (x<=y):=by
 apply decide_eq_decide.2
 rcases Fc.ygb x y with ⟨q,e⟩ | ⟨q,e⟩ | ⟨q,e⟩<;>rw [e]
 . exact ⟨fun _=>Rat.le_of_lt q,fun _=>by decide⟩
 . exact ⟨fun _=>by rw [q];exact Rat.le_refl,fun _=>by decide⟩
 . exact ⟨fun h=>absurd h (by decide),fun h=>absurd q (Rat.not_lt.2 h)⟩
theorem vn7 {x y:Rat}:decide (Fc.ordQ x y<0)=decide (x<y):=by
 apply decide_eq_decide.2
 rcases Fc.ygb x y with ⟨q,e⟩ | ⟨q,e⟩ | ⟨q,e⟩<;>rw [e]
 . exact ⟨fun _=>q,fun _=>by decide⟩
 . exact ⟨fun h=>absurd h (by decide),fun h=>absurd (q▸h) Rat.lt_irrefl⟩
 . exact ⟨fun h=>absurd h (by decide),fun h=>absurd (Rat.le_of_lt h) (Rat.not_le.2 q)⟩
theorem x6c {s:Sc} (h:s.ok):∃ v:Iv,s=ivS v:=by
 obtain ⟨h1,h2,h3⟩:=h;obtain ⟨p,hp⟩:=xp2 h1;obtain ⟨q,hq⟩:=xp2 h2;obtain ⟨l,u⟩:=s;simp only at hp hq;subst hp;subst hq
 have h4:Fc.ordQ p q<=0:=by rw [<-Fc.ysh];exact h3
 exact ⟨⟨p,q,of_decide_eq_true (vjq▸decide_eq_true h4)⟩,rfl⟩
theorem wdq (m:Rat):∀ l:List Rat,Sc.least (Fc.of m) (l.map Fc.of)=Fc.of (l.foldl min m)
 | []=>rfl
 | x::l=>by
  have e:(if Fc.cmp (Fc.of x) (Fc.of m)<0 then Fc.of x else Fc.of m)=Fc.of (min m x):=by
   rw [Fc.ysh,Rat.min_def]
   rcases Fc.ygb x m with ⟨q,e⟩ | ⟨q,e⟩ | ⟨q,e⟩<;>rw [e]
   . rw [if_pos (by decide),if_neg (Rat.not_le.2 q)]
   . rw [if_neg (by decide),q,if_pos Rat.le_refl]
   . rw [if_neg (by decide),if_pos (Rat.le_of_lt q)]
  show Sc.least (if Fc.cmp (Fc.of x) (Fc.of m)<0 then Fc.of x else Fc.of m) (l.map Fc.of)=_;rw [e];exact wdq (min m x) l
theorem zc2 (m:Rat):∀ l:List Rat,Sc.vdz (Fc.of m) (l.map Fc.of)=Fc.of (l.foldl max m)
 | []=>rfl
 | x::l=>by
  have e:(if Fc.cmp (Fc.of x) (Fc.of m) > 0 then Fc.of x else Fc.of m)=Fc.of (max m x):=by
   rw [Fc.ysh,Rat.max_def]
   rcases Fc.ygb x m with ⟨q,e⟩ | ⟨q,e⟩ | ⟨q,e⟩<;>rw [e]
   . rw [if_neg (by decide),if_neg (Rat.not_le.2 q)]
   . rw [if_neg (by decide),q,if_pos Rat.le_refl]
   . rw [if_pos (by decide),if_pos (Rat.le_of_lt q)]
  show Sc.vdz (if Fc.cmp (Fc.of x) (Fc.of m) > 0 then Fc.of x else Fc.of m) (l.map Fc.of)=_;rw [e];exact zc2 (max m x) l
theorem ww1 (a b c d:Rat):Sc.y7f [Fc.of a,Fc.of b,Fc.of c,Fc.of d]=ivS (Iv.round a b c d):=by
 have h1:=wdq a [b,c,d];have h2:=zc2 a [b,c,d];show (⟨Sc.least (Fc.of a) ([b,c,d].map Fc.of),Sc.vdz (Fc.of a) ([b,c,d].map Fc.of)⟩:Sc)=_;rw [h1,h2];rfl
theorem ymg (v:Iv) (h:ivZ v<=67108864):CallsD Γ prog 18 [.agg (ivC v)] (.one (cB true)):=toD (zs2 (ivS v) h (yxx v))
theorem wsb (q:Rat) (h:qs q<=67108864):CallsD Γ prog 23 [.agg (qC (some q))] (.agg (ivC (Iv.pt q))):=by
 have h:=toD (Γ:=Γ) (zx7 (qF (some q)) h);rw [show Sc.vc6 (qF (some q))=ivS (Iv.pt q) from if_pos (Fc.zav q)] at h;exact h
theorem zw8 (v:Iv) (q:Rat):decide ((ivS v).has (qF (some q)))=v.has q:=by
 unfold Iv.has;rw [<-vjq,<-vjq,<-Fc.ysh,<-Fc.ysh,<-Bool.decide_and];exact decide_eq_decide.2 ⟨fun h=>h.2.2,fun h=>⟨yxx v,Fc.zav q,h⟩⟩
theorem iHas (v:Iv) (q:Rat) (h:ivZ v<=67108864) (hq:qs q<=67108864):CallsD Γ prog 21 [.agg (ivC v),.agg (qC (some q))] (.one (cB (v.has q))):=by
 have h:=toD (Γ:=Γ) (vjc (ivS v) (qF (some q)) h hq);rw [zw8] at h;exact h
theorem oNeg (q:Rat) (h:qs q<=67108864):CallsD Γ prog 62 [.agg (qC (some q))] (.agg (qC (some (-q)))):=by
 have h:=toD (Γ:=Γ) (wzp (qF (some q)) h);rw [show Fc.neg (qF (some q))=qF (some (-q)) from Fc.x6d q] at h;exact h
theorem z9e (a b:Option Rat) (ha:qz a<=67108864) (hb:qz b<=67108864):CallsD Γ prog 53 [.agg (qC a),.agg (qC b)] (.one (cB (decide (a=b)))):=by
 have h:=toD (Γ:=Γ) (yf9 (qF a) (qF b) ha hb);rw [show decide (qF a=qF b)=decide (a=b) from decide_eq_decide.2 ⟨zym,fun h=>by rw [h]⟩] at h;exact h
theorem iNeg (v:Iv) (h:ivZ v<=67108864):CallsD Γ prog 40 [.agg (ivC v)] (.agg (ivC v.neg)):=by
 have h1:=ymg (Γ:=Γ) v h;have h2:=oNeg (Γ:=Γ) v.lo (zlo h);have h3:=oNeg (Γ:=Γ) v.hi (zhi h);refine CallsD.run [] Go.Proofs.Tryz.func40 rfl rfl rfl ?_;simp only [Go.Proofs.Tryz.f40];refine hgR ?_
 repeat' ((first | refine hfk ?_ ?_<;>intros | refine hik ?_ | with_reducible first | refine hcA ?_ | refine hcB ?_)<;>refine hgS ?_)
 exact RLe.ofEq rfl
abbrev ivR (v:Iv):AV:=.tup [.agg (ivC v),.one (cI 0)]
theorem iAdd (a b:Iv) (ha:ivZ a<=67108864) (hb:ivZ b<=67108864):CallsD Γ prog 149 [.agg (ivC a),.agg (ivC b)] (ivR (a.add b)):=by
 have h:=toD (Γ:=Γ) (xqt (ivS a) (ivS b) ha hb)
 have e:Sc.add (ivS a) (ivS b)=ivS (a.add b):=by
  show (if (ivS a).ok/\(ivS b).ok then (⟨Fc.add (qF (some a.lo)) (qF (some b.lo)),Fc.add (qF (some a.hi)) (qF (some b.hi))⟩:Sc) else Sc.zero)=_;rw [if_pos ⟨yxx a,yxx b⟩,show Fc.add (qF (some a.lo)) (qF (some b.lo))=_ from yqn _ _ _,show Fc.add (qF (some a.hi)) (qF (some b.hi))=_ from yqn _ _ _];rfl
 rw [e,show Fc.er ((ivS a).ok/\(ivS b).ok)=0 from if_pos ⟨yxx a,yxx b⟩] at h;exact h
theorem za4 (v:Iv):ivZ v.neg=ivZ v:=by
 show max (qs (-v.hi)) (qs (-v.lo))=max (qs v.lo) (qs v.hi);have e:∀ x:Rat,qs (-x)=qs x:=Fc.wr7;rw [e,e];exact Nat.max_comm _ _
theorem iSub (a b:Iv) (ha:ivZ a<=67108864) (hb:ivZ b<=67108864):CallsD Γ prog 150 [.agg (ivC a),.agg (ivC b)] (ivR (a.sub b)):=by
 have h1:=iNeg (Γ:=Γ) b hb;have h2:=iAdd (Γ:=Γ) a b.neg ha (by rw [za4];exact hb);refine CallsD.run [] Go.Proofs.Tryz.func150 rfl rfl rfl ?_;simp only [Go.Proofs.Tryz.f150];refine hgR ?_
 repeat' ((first | refine hfk ?_ ?_<;>intros | refine hik ?_ | with_reducible first | refine hcA ?_ | refine hcB ?_)<;>refine hgS ?_)
 exact RLe.ofEq rfl
theorem iMul (a b:Iv) (ha:ivZ a<=33554432) (hb:ivZ b<=33554432):CallsD Γ prog 151 [.agg (ivC a),.agg (ivC b)] (ivR (a.mul b)):=by
 have h:=toD (Γ:=Γ) (wev (ivS a) (ivS b) ha hb)
 have e:Sc.mul (ivS a) (ivS b)=ivS (a.mul b):=by
  show (if (ivS a).ok/\(ivS b).ok then Sc.y7f [Fc.mul (qF (some a.lo)) (qF (some b.lo)),Fc.mul (qF (some a.lo)) (qF (some b.hi)),Fc.mul (qF (some a.hi)) (qF (some b.lo)),Fc.mul (qF (some a.hi)) (qF (some b.hi))] else Sc.zero)=_;rw [if_pos ⟨yxx a,yxx b⟩,show Fc.mul (qF (some a.lo)) (qF (some b.lo))=_ from yqn _ _ _,show Fc.mul (qF (some a.lo)) (qF (some b.hi))=_ from yqn _ _ _,show Fc.mul (qF (some a.hi)) (qF (some b.lo))=_ from yqn _ _ _,show Fc.mul (qF (some a.hi)) (qF (some b.hi))=_ from yqn _ _ _];exact ww1 _ _ _ _
 rw [e,show Fc.er ((ivS a).ok/\(ivS b).ok)=0 from if_pos ⟨yxx a,yxx b⟩] at h;exact h
theorem v7c (s:ByteArray):CallsD Γ prog 77 [.one (cS s)] (.one (cB (isWord s))):=by
 refine CallsD.run [] Go.Proofs.Tryz.func77 rfl rfl rfl ?_;simp only [Go.Proofs.Tryz.f77];refine hgR ?_
 repeat' ((first | refine hfk ?_ ?_<;>intros | refine hik ?_)<;>refine hgS ?_)
 all_goals refine lf1 @isWord.eq_def ?_;first | exact trivial | rfl
theorem xd2 (s:ByteArray) (hs:s.size<=1099511627776):CallsD Γ prog 177 [.one (cS s)] (.one (cB (isNamed s))):=by
 refine CallsD.run [] Go.Proofs.Tryz.func177 rfl rfl rfl ?_;simp only [Go.Proofs.Tryz.f177];refine hgR ?_
 repeat' ((first | refine hfk ?_ ?_<;>intros | refine hik ?_ | with_reducible first | refine v6l (vv6 s hs) ?_ | refine vgi (vv6 s hs) ?_ | refine v6l (v7c s) ?_ | refine vgi (v7c s) ?_)<;>refine hgS ?_)
 all_goals refine lf1 @isNamed.eq_def ?_;first | exact trivial | rfl
theorem w3e (o:Int):CallsD Γ prog 178 [.one (cI o)] (.tup [.one (cS (zgj o)),.one (cB (isOp o))]):=by
 refine CallsD.run [] Go.Proofs.Tryz.func178 rfl rfl rfl ?_;simp only [Go.Proofs.Tryz.f178];refine hgR ?_
 repeat' ((first | refine hfk ?_ ?_<;>intros | refine hik ?_)<;>refine hgS ?_)
 all_goals refine lf2 @isOp.eq_def @zgj.eq_def ?_;first | exact trivial | rfl
theorem zyp (x:Ex) (hx:x.Sm):CallsD Γ prog 121 [.agg (exC x)] (.one (cB (yxn x))):=by
 have hu:=hx.u;have hs:=hx.s;have hl:=hx.len;obtain ⟨q,hq⟩:∃ q,CallsD Γ prog 176 [.one (cS x.unit)] (.tup [.one (cS q),.one (cB (wku x.unit))]):=yph x.unit (by omega);refine CallsD.run [] Go.Proofs.Tryz.func121 rfl rfl rfl ?_;simp only [Go.Proofs.Tryz.f121];refine hgR ?_
 repeat' ((first | refine hfk ?_ ?_<;>intros | refine hik ?_ | with_reducible first | refine hcA ?_ | refine hcB ?_ | refine v6l (xd2 x.name (by omega)) ?_ | refine vgi (xd2 x.name (by omega)) ?_ | refine v6l (w3e _) ?_ | refine vgi (w3e _) ?_)<;>refine hgS ?_)
 all_goals refine lf1 @yxn.eq_def ?_;first | exact trivial | rfl
theorem xcj (l:List Ex) (f:FuncId) (p:Ex->Bool) (hl:l.length<=1073741824) (h:∀ y∈l,CallsD Γ prog f [.agg (exC y)] (.one (cB (p y)))) :
 CallsD Γ prog 122 [.one (.sl 5 (l.map Ex.cells)),fN f] (.one (cI (idxF p l))):=by
 refine CallsD.run [] Go.Proofs.Tryz.func122 rfl rfl rfl ?_;simp only [Go.Proofs.Tryz.f122];refine hgR ?_;refine y55 [0,1,7] (fun i:Nat=>[(8,.one (.dat (cI i)))]) (fun _=>[]) (fun i=>i<=l.length/\∀ j,j<i->p (l.getD j default)=false) (fun i=>l.length-i) 0 ⟨Nat.zero_le _,fun j hj=>by omega⟩ ?_ ?_
 . refine hg ?_;exact StH.same svl rfl
 intro i hi;obtain ⟨hi,hj⟩:=hi;refine hg ?_
 repeat' ((first | refine hfk ?_ ?_<;>intros | refine hik ?_ | with_reducible first | refine v6l (h _ (w4t (show i<l.length by omega))) ?_ | refine vgi (h _ (w4t (show i<l.length by omega))) ?_)<;>refine hgS ?_)
 . rename_i hp;rw [(yo6 hi hj).2 (by omega) hp];exact RLe.ofEq rfl
 . rename_i hp;refine ⟨i+1,⟨by omega,fun j hj'=>?_⟩,by omega,StH.same svl rfl⟩
   rcases Nat.lt_or_eq_of_le (Nat.le_of_lt_succ hj') with h2 | h2
   . exact hj j h2
   . rw [h2];exact hp
 . rw [(yo6 hi hj).1 (by omega)];exact RLe.ofEq rfl
theorem ynb (l:List Ex) (f:FuncId) (p:Ex->Bool) (hl:l.length<=1073741824) (h:∀ y∈l,CallsD Γ prog f [.agg (exC y)] (.one (cB (p y)))) :
 CallsD Γ prog 75 [.one (.sl 5 (l.map Ex.cells)),fN f] (.one (cB (l.any p))):=by
 refine CallsD.run [] Go.Proofs.Tryz.func75 rfl rfl rfl ?_;simp only [Go.Proofs.Tryz.f75];refine hgR ?_
 repeat' ((first | refine hfk ?_ ?_<;>intros | refine hik ?_ | with_reducible first | refine v6l (xcj l f p hl h) ?_ | refine vgi (xcj l f p hl h) ?_)<;>refine hgS ?_)
 exact RLe.ofEq (by rw [<-wb5])
theorem zl5:∀ x:Ex,x.Sm->CallsD Γ prog 74 [.agg (exC x)] (.one (cB x.shaped)):=by
 refine Ex.ind (fun x ih hx=>?_);have hl:=hx.len
 have hw:∀ y∈x.args,CallsD Γ prog 120 [.agg (exC y)] (.one (cB (!y.shaped))):=fun y hy=>by
  refine CallsD.run [] Go.Proofs.Tryz.func120 rfl rfl rfl ?_;simp only [Go.Proofs.Tryz.f120];refine hgR ?_
  repeat' ((first | refine hfk ?_ ?_<;>intros | refine hik ?_ | with_reducible first | refine v6l (ih y hy (hx.arg y hy)) ?_ | refine vgi (ih y hy (hx.arg y hy)) ?_)<;>refine hgS ?_)
  exact RLe.ofEq rfl
 refine CallsD.run [] Go.Proofs.Tryz.func74 rfl rfl rfl ?_;simp only [Go.Proofs.Tryz.f74];refine hgR ?_
 repeat' ((first | refine hfk ?_ ?_<;>intros | refine hik ?_ | with_reducible first | refine v6l (zyp x hx) ?_ | refine vgi (zyp x hx) ?_ | refine v6l (ynb x.args _ _ hl hw) ?_ | refine vgi (ynb x.args _ _ hl hw) ?_)<;>refine hgS ?_)
 all_goals refine RLe.ofEq ?_
 . rename_i h;rw [Ex.xg3,h];simp [List.all_eq_not_any_not]
 . rename_i h;rw [Ex.xg3,h];rfl
abbrev nB (n:Int) (T:Option TypeId):SB:=.box [.dat (cI n)] T
theorem xmk:∀ x:Ex,x.Sm->∀(n lv:Int) (T:Option TypeId),0<=n->n<=1000->0<=lv->lv<=1000->
 vfe Γ prog 73 [nB n T] [.agg ((exC x).map .dat),.one (.ptr 0 0),.one (.dat (cI lv))] [nB (x.cnt n lv).2 T] (.one (.dat (cB (x.cnt n lv).1))):=by
 refine Ex.ind (fun x ih hx n lv T h0 h1 h2 h3=>?_);have hl:=hx.len
 have fin:∀(b:Bool) (k:Int),x.cnt n lv=(b,k)->StH Γ [nB n T] [SV.one (.dat (cB b))] [nB k T,.box ((exC x).map .dat) (some 24)] [SV.one (.dat (cB (x.cnt n lv).1))] [nB (x.cnt n lv).2 T]:=fun b k h=>by
  rw [h];exact StH.done 1 rfl (by kernel_rfl) rfl rfl
 refine vfe.run [] Go.Proofs.Tryz.func73 rfl rfl ?_;simp only [Go.Proofs.Tryz.f73];refine hgR ?_
 repeat' ((first | refine hfk ?_ ?_<;>intros | refine hik ?_)<;>refine hgS ?_)
 . exact fin _ _ (by rw [Ex.vrw];simp only [*];rfl)
 . have e0:x.cnt n lv=Ex.cntL x.args (n+1) (lv+1):=by rw [Ex.vrw];simp only [*];rfl
   refine y55 [1,2,23,24] (fun p:Nat×Int=>[(25,.one (.dat (cI p.1)))]) (fun p=>[nB p.2 T,.box ((exC x).map .dat) (some 24)]) (fun p=>p.1<=x.args.length/\0<=p.2/\p.2<=200/\Ex.cntL (x.args.drop p.1) p.2 (lv+1)=Ex.cntL x.args (n+1) (lv+1)) (fun p=>x.args.length-p.1) (0,n+1) ⟨Nat.zero_le _,by simp only;omega,by simp only;omega,rfl⟩ ?_ ?_
   . refine hg ?_;exact StH.same svl rfl
   rintro ⟨i,m⟩ ⟨hi,hm0,hm1,hc⟩;simp only at hi hm0 hm1 hc;refine hg ?_;refine vnx (fun hlt hd=>?_) (fun hlt _=>?_)
   . have hlt':i<x.args.length:=by omega
     have hy:=w4t hlt';rw [xqz hlt'] at hc;refine hg ?_;refine z4m [0] (ih _ hy (hx.arg _ hy) m (lv+1) T (by omega) (by omega) (by omega) (by omega)) rfl (by decide) rfl rfl rfl ?_;have hstep:=hc;rw [Ex.cntL] at hstep;generalize hr:(x.args.getD i default).cnt m (lv+1)=r at hstep ⊢;obtain ⟨b,k⟩:=r;refine hg ?_
     cases b with
     | true=>
      have hk:=Ex.v24 _ _ _ _ hr;refine hg ?_;exact ⟨(i+1,k),⟨by simp only;omega,by simp only;omega,hk.2,hstep⟩,by simp only;omega,StH.back [1,2,23,24,25] 2 2 2 rfl rfl rfl rfl rfl (by kernel_rfl) (StH.same svl rfl)⟩
     | false=>
      refine hg ?_;rw [e0,<-hstep];exact StH.done 1 rfl (by kernel_rfl) rfl rfl
   . refine hg ?_;rw [e0,<-hc,List.drop_eq_nil_of_le (by omega),Ex.cntL];exact StH.done 1 rfl (by kernel_rfl) rfl rfl
 . exact fin _ _ (by rw [Ex.vrw];simp only [*];rfl)
theorem xz2 (x:Ex) (hx:x.Sm):CallsD Γ prog 45 [.agg (exC x)] (.one (cB (xub x))):=by
 refine CallsD.run [] Go.Proofs.Tryz.func45 rfl rfl rfl ?_;simp only [Go.Proofs.Tryz.f45];refine hgR ?_;refine z4m [1] (xmk x hx 0 1 _ (by decide) (by decide) (by decide) (by decide)) rfl (by decide) rfl rfl rfl ?_;refine hg ?_
 repeat' ((first | refine hfk ?_ ?_<;>intros | refine hik ?_ | with_reducible first | refine v6l (zl5 x hx) ?_ | refine vgi (zl5 x hx) ?_)<;>refine hgS ?_)
 all_goals refine lf1 @xub.eq_def ?_;first | exact trivial | rfl
end Go.Hp.T
namespace Go.Hp
open Go Go.RowKit Go.Slot
variable {P:Program} {Γ:List (Nat×List Cell)}
theorem x8i {n N i:Nat} (h:i<n):atR (List.range n) N i=i:=v84 (by simp [h])
theorem vfe.pre {f:FuncId} {ηs ξ:List SB} {args:List SV} {res:SV} (h:vfe Γ P f ηs args ηs res) (hs:∀ r,ηs.map (rnSB r)=ηs) (ha:args.map (yo9 (atR (List.range ηs.length) (ηs++ξ).length))=args) (hr:rnSV (atR (List.range ηs.length) (ηs++ξ).length) res=res):vfe Γ P f (ηs++ξ) args (ηs++ξ) res:=by
 have hfix:∀(r:Nat->Nat) (i:Nat) (x:SB),ηs[i]? = some x->rnSB r x=x:=fun r i x hx=>by
  have:=congrArg (fun l=>l[i]?) (hs r)
  simp only [List.getElem?_map,hx,Option.map_some] at this;exact Option.some.inj this
 have hlt:∀ j∈List.range ηs.length,j<(ηs++ξ).length:=fun j hj=>by
  rw [List.mem_range] at hj;rw [List.length_append];omega
 have hk:=vfe.frame (φ:=List.range ηs.length) (J:=ηs++ξ) List.nodup_range hlt ⟨by simp,fun i x hx=>by
  have hi:i<ηs.length:=(List.getElem?_eq_some_iff.1 hx).1
  exact ⟨i,by simp [hi],by rw [hfix _ i x hx,List.getElem?_append_left hi];exact hx⟩⟩ (by simp) h
 rw [ha,hr] at hk
 have hp:putR (List.range ηs.length) (ηs++ξ) ηs=ηs++ξ:=by
  apply List.ext_getElem?;intro i;by_cases hi:i<ηs.length
  . have h1:=y6r (φ:=List.range ηs.length) (J:=ηs++ξ) (ηs':=ηs) List.nodup_range hlt (List.getElem?_eq_getElem hi);rw [x8i hi,hfix _ i _ (List.getElem?_eq_getElem hi)] at h1;rw [h1,List.getElem?_append_left hi,List.getElem?_eq_getElem hi]
  . by_cases hi2:i<(ηs++ξ).length
    . exact xxa hi2 (by simpa using hi)
    . rw [List.getElem?_eq_none (by rw [yvj];simp at hi2 ⊢;omega),List.getElem?_eq_none (by omega)]
 rw [hp] at hk;exact hk
end Go.Hp
namespace Go.Hp.T
open Go Go.RowKit Go.Slot Go.Hp
theorem x6z {x:Ex} (h:yxn x=true) (h3:x.op≠3) (h0:x.args.length≠0):(x.op≠2->x.op≠4->2<=x.args.length)/\(x.op=5->3<=x.args.length):=by
 unfold yxn at h;by_cases a0:x.op=0
 . rw [decide_eq_true a0,cond_true] at h;simp only [Bool.and_eq_true,decide_eq_true_eq] at h;omega
 rw [decide_eq_false a0,cond_false] at h
 cases hb:(decide (¬x.n=0)||decide (¬x.unit.size=0)) with
 | true=>rw [hb,cond_true] at h;cases h
 | false=>
 rw [hb,cond_false] at h;by_cases a1:x.op=1
 . rw [decide_eq_true a1,cond_true] at h;simp only [Bool.and_eq_true,decide_eq_true_eq] at h;omega
 rw [decide_eq_false a1,cond_false] at h;by_cases a2:x.op=2
 . rw [decide_eq_true a2,cond_true] at h;simp only [Bool.and_eq_true,decide_eq_true_eq] at h;omega
 rw [decide_eq_false a2,cond_false] at h;by_cases a3:x.op=3
 . rw [decide_eq_true a3,cond_true] at h;simp only [Bool.and_eq_true,decide_eq_true_eq] at h;omega
 rw [decide_eq_false a3,cond_false] at h;by_cases a4:x.op=4
 . rw [decide_eq_true a4,cond_true] at h;simp only [Bool.and_eq_true,decide_eq_true_eq] at h;omega
 rw [decide_eq_false a4,cond_false] at h;by_cases a5:x.op=5
 . rw [decide_eq_true a5,cond_true] at h;simp only [Bool.and_eq_true,decide_eq_true_eq] at h;omega
 rw [decide_eq_false a5,cond_false] at h
 cases hc:(decide (x.op=10)||decide (x.op=11)) with
 | true=>rw [hc,cond_true] at h;simp only [Bool.and_eq_true,decide_eq_true_eq] at h;omega
 | false=>rw [hc,cond_false] at h;simp only [Bool.and_eq_true,decide_eq_true_eq] at h;omega
end Go.Hp.T
namespace Go.Hp.T
open Go Go.RowKit Go.Slot Go.Hp Go.Slot.T
open Go.Proofs.Tryz (prog)
set_option maxRecDepth 10000
set_option maxHeartbeats 4000000
variable {Γ:List (Nat×List Cell)}
variable {l:List Rw}
theorem cTIn (n:Int):CallsD Γ prog 129 [.one (cI n)] (.one (cB (inT n))):=by
 refine CallsD.run [] Go.Proofs.Tryz.func129 rfl rfl rfl ?_;simp only [Go.Proofs.Tryz.f129];refine hgR ?_
 repeat' ((first | refine hfk ?_ ?_<;>intros | refine hik ?_)<;>refine hgS ?_)
 all_goals refine lf1 @inT.eq_def ?_;first | exact trivial | rfl
theorem vqa (s:ByteArray) (hs:s.size<=1073741824):CallsD Γ prog 79 [.one (cS s)] (.tup [.agg (unX (zte s).1),.one (cI (zte s).2)]):=by
 have:=zhn (Γ:=Γ) s hs
 rw [vtx] at this;exact this
theorem vv4 (t:Tb) (h1:t.name.size<=1073741824) (h2:t.unit.size<=1073741824) (h3:t.rows.length<=1073741824):CallsD Γ prog 80 [.agg (tbC t)] (.one (cB (zi4 (fun s=>(zte s).2) t))):=by
 refine CallsD.run [] Go.Proofs.Tryz.func80 rfl rfl rfl ?_;simp only [Go.Proofs.Tryz.f80];refine hgR ?_
 repeat' ((first | refine hfk ?_ ?_<;>intros | refine hik ?_ | with_reducible first | refine v6l (vqa t.unit h2) ?_ | refine vgi (vqa t.unit h2) ?_ | refine v6l (vv6 t.name (by omega)) ?_ | refine vgi (vv6 t.name (by omega)) ?_)<;>refine hgS ?_)
 . refine lf1 @zi4.eq_def ?_;first | exact trivial | rfl
 . refine y55 [1,28,29] (fun i:Nat=>[(30,.one (.dat (cI i)))]) (fun _=>[.box ((tbC t).map .dat) (some 122),.box ((unX (zte t.unit).1).map .dat) (some 143)]) (fun i=>i<=t.rows.length/\∀ j,j<i->rowAt t.rows j=true) (fun i=>t.rows.length-i) 0 ⟨Nat.zero_le _,fun j hj=>by omega⟩ ?_ ?_
   . refine hg ?_;exact StH.same svl rfl
   rintro i ⟨hi,hj⟩
   have hbad:rowAt t.rows i=false->i<t.rows.length->zi4 (fun s=>(zte s).2) t=false:=fun h h'=>by
    unfold zi4 zx5;rw [zch h' h,Bool.and_false]
   refine hg ?_
   repeat' ((first | refine hfk ?_ ?_<;>intros | refine hik ?_ | with_reducible first | refine v6l (cTIn _) ?_ | refine vgi (cTIn _) ?_)<;>refine hgS ?_)
   all_goals first
    | (rw [hbad (by (refine bs1 @rowAt.eq_def ?_;try exact trivial)) (by omega)];exact RLe.ofEq rfl)
    | (refine ⟨i+1,⟨by omega,xrx hj (by (refine bs1 @rowAt.eq_def ?_;try exact trivial))⟩,by omega,StH.back [1,28,29,30] 2 2 2 rfl rfl rfl rfl rfl (by kernel_rfl) (StH.same svl rfl)⟩)
    | (refine RLe.ofEq ?_;rw [show zi4 (fun s=>(zte s).2) t=true from by unfold zi4 zx5;rw [ye8 (fun j hj'=>hj j (by omega))];(refine bsE ?_;try exact trivial)])
 . refine lf1 @zi4.eq_def ?_;first | exact trivial | rfl
 . refine lf1 @zi4.eq_def ?_;first | exact trivial | rfl
def zgx (V:List (ByteArray×Dm)) (x:Ex):Ty×Int:=bif decide (x.op=1) then (match ycr V x.name with
 | none=>(Ty.zero,11)
 | some d=>(⟨false,d⟩,0)) else
 bif decide (¬(zte x.unit).2=0) then (Ty.zero,14) else (⟨false,dmO (zte x.unit).1⟩,0)
mutual
def Ex.ty (V T:List (ByteArray×Dm)):Ex->Ty×Int
 | .mk o n u s l=>bif decide ((l.length:Int)=0) then zgx V (.mk o n u s l) else
  match Ex.tyL V T l with
  | .inl e=>(Ty.zero,e)
  | .inr ts=>wqq T o s ts
def Ex.tyL (V T:List (ByteArray×Dm)):List Ex->Int ⊕ List Ty
 | []=>.inr []
 | y::l=>match Ex.ty V T y with
  | (t,e)=>bif decide (¬e=0) then .inl e else match Ex.tyL V T l with
   | .inl e=>.inl e
   | .inr ts=>.inr (t::ts)
end
theorem vl5:∀(l:List It) (u v:Un),wf3 l u=some v->(∀ x∈l,x.ok)->qs v.f<=qs u.f+100*l.length
 | [],u,v,h,_=>by rw [wf3] at h;cases h;omega
 | x::l,u,v,h,hx=>by
  rw [wf3] at h;split at h
  . cases h
  . rename_i w hw;have h1:=vl5 l _ _ h (fun y hy=>hx y (by simp [hy]));obtain ⟨_,h2,_⟩:=xk3 hw;obtain ⟨_,_,h3,h4⟩:=hx x (by simp)
    have hq:qs (ymb u.f w.f x.e)<=qs u.f+9*(qs w.f+1):=by
     have:=zki u.f w.f x.e x.e.natAbs
     rw [<-xbq] at this;have h9:x.e.natAbs*(qs w.f+1)<=9*(qs w.f+1):=Nat.mul_le_mul_right _ (by omega);omega
    simp only at h1;rw [List.length_cons];omega
theorem v4u (s:ByteArray):(∃ u,zte s=(some u,0)/\qs u.f<=4200)\/(∃ e,e≠0/\zte s=(none,e)):=by
 unfold zte
 split
 . exact .inr ⟨12,by decide,rfl⟩
 . rename_i l hl
   split
   . exact .inr ⟨11,by decide,rfl⟩
   . rename_i u hu
     cases hd:zmf u.d with
     | false=>exact .inr ⟨3,by decide,rfl⟩
     | true=>
      refine .inl ⟨u,rfl,?_⟩;have h1:=yqi hl;have h2:=vl5 _ _ _ hu h1.2
      have:=zn5
      simp only at h2;omega
def facO (s:ByteArray):Option Rat:=(zte s).1.map (·.f)
theorem yzw (s:ByteArray):qz (facO s)<=4200:=by
 unfold facO
 rcases v4u s with ⟨u,h,hq⟩ | ⟨e,_,h⟩
 . rw [h];exact hq
 . rw [h];exact Nat.zero_le _
def aft (q:Rat):List Rw->Nat
 | []=>0
 | r::l=>bif decide ((r.k:Rat)<=q) then aft q l+1 else 0
theorem z7c {q:Rat}:∀{l:List Rw} {i:Nat},i<=l.length->(∀ j,j<i->(((l.getD j default).k:Rat)<=q))->(i<l.length->¬(((l.getD i default).k:Rat)<=q))->aft q l=i
 | [],i,hi,_,_=>by simp at hi;subst hi;rfl
 | x::l,0,_,_,h=>by
  have h':¬(x.k:Rat)<=q:=h (by simp);unfold aft;rw [decide_eq_false h'];rfl
 | x::l,i+1,hi,hj,h=>by
  have h0:(x.k:Rat)<=q:=hj 0 (by omega)
  have:=z7c (l:=l) (i:=i) (by simpa using hi) (fun j hj'=>by simpa using hj (j+1) (by omega)) (fun h'=>by simpa using h (by simpa using h'))
  unfold aft;rw [decide_eq_true h0,this];rfl
theorem xds (q:Rat):∀ l:List Rw,aft q l<=l.length
 | []=>Nat.le_refl _
 | x::l=>by
  have:=xds q l
  unfold aft
  cases decide ((x.k:Rat)<=q) with
  | true=>rw [cond_true,List.length_cons];omega
  | false=>rw [cond_false];omega
def Rows (l:List Rw):Prop:=∀ i,i<l.length->inT (l.getD i default).k=true/\inT (l.getD i default).v=true/\(0<i->(l.getD (i-1) default).k<(l.getD i default).k)
theorem wju {n:Int} (h:inT n=true):-1099511627776<=n/\n<=1099511627776:=by
 unfold inT at h;simpa using h
theorem zhg (h:zx5 l=true):Rows l:=fun i hi=>by
 have:=List.all_eq_true.1 h i (List.mem_range.2 hi)
 unfold rowAt at this;simp only [Bool.and_eq_true,Bool.not_eq_true',Bool.and_eq_false_iff,decide_eq_false_iff_not] at this;exact ⟨this.1.1,this.1.2,fun h0=>by rcases this.2 with h | h<;>omega⟩
theorem Rows.mono (h:Rows l):∀{i j:Nat},i<=j->j<l.length->(l.getD i default).k<=(l.getD j default).k:=by
 intro i j hij
 induction j with
 | zero => intro _; have : i = 0 := by omega
           subst this;exact Int.le_refl _
 | succ j ih=>
  intro hj
  rcases Nat.lt_or_eq_of_le hij with h1 | h1
  . have h2:=ih (by omega) (by omega);have h3:=(h (j+1) hj).2.2 (by omega);rw [Nat.add_sub_cancel] at h3;omega
  . subst h1;exact Int.le_refl _
theorem y6s {a b:Int} (h:a<=b):(a:Rat)<=(b:Rat):=Rat.intCast_le_intCast.2 h
theorem yun {t:Tb} (h:zi4 (fun s=>(zte s).2) t=true):(∃ u,zte t.unit=(some u,0)/\qs u.f<=4200)/\isName t.name=true/\t.rows.length<=100/\Rows t.rows:=by
 unfold zi4 at h;simp only [Bool.and_eq_true,Bool.not_eq_true',decide_eq_false_iff_not,Classical.not_not] at h;obtain ⟨⟨⟨h1,h2⟩,h3⟩,h4⟩:=h;refine ⟨?_,h2,by omega,zhg h4⟩
 rcases v4u t.unit with h | ⟨e,he,h⟩
 . exact h
 . rw [h] at h1;exact absurd h1 he
theorem zps {k:Int} {q:Rat}:decide (cmpO (some (k:Rat)) (some q)<=0)=decide ((k:Rat)<=q):=by
 apply decide_eq_decide.2;show Fc.ordQ _ _<=0↔_
 rcases Fc.ygb (k:Rat) q with ⟨h,e⟩ | ⟨h,e⟩ | ⟨h,e⟩<;>rw [e]
 . exact ⟨fun _=>Rat.le_of_lt h,fun _=>by decide⟩
 . rw [h];exact ⟨fun _=>Rat.le_refl,fun _=>by decide⟩
 . exact ⟨fun h'=>absurd h' (by decide),fun h'=>absurd h' (Rat.not_le.2 h)⟩
theorem yo8 (r:Rw) (q:Rat) (hr:inT r.k=true) (hq:qs q<=67108864):CallsD Γ prog 230 [.agg (rwC r),.agg (qC (some q))] (.one (cI (bif decide ((r.k:Rat)<=q) then -1 else 1))):=by
 have hk:=wju hr
 have hin:inI r.k:=by unfold inI;omega
 have h1:=oInt (Γ:=Γ) r.k hin;have hz:=wtn hin;have h2:=oCmp (Γ:=Γ) (some (r.k:Rat)) (some q) (by omega) hq;rw [<-zps];have hcr:=zpb (some (r.k:Rat)) (some q);generalize cmpO (some (r.k:Rat)) (some q)=c at *;refine CallsD.run [] Go.Proofs.Tryz.func230 rfl rfl rfl ?_;simp only [Go.Proofs.Tryz.f230];refine hgR ?_
 repeat' ((first | refine hfk ?_ ?_<;>intros | refine hik ?_ | with_reducible first | refine hcA ?_ | refine hcB ?_)<;>refine hgS ?_)
 all_goals refine lfE ?_;first | exact trivial | rfl
theorem vv5 {i j:Nat} (h:i+j<=4611686018427387904):IntKind.i64.wrap (ishr .u64 ((i:Int)+j) 1)=(((i+j) / 2:Nat):Int):=by
 have e:ishr .u64 ((i:Int)+j) 1=((i:Int)+j) / 2:=by
  unfold ishr;rw [show (min (1:Int).toNat IntKind.u64.bits)=1 by decide];rw [Int.fdiv_eq_ediv_of_nonneg _ (by decide)];rfl
 rw [e,w64 (by omega)];omega
abbrev unQ (u:Un):List Cell:=[cI u.d.a,cI u.d.b,cI u.d.c,cI u.d.d,cI u.d.e,cI u.d.f,.raw (.int .i64 (qF (some u.f)).s),.ints .i64 (qF (some u.f)).L,.raw (.int .i64 (qF (some u.f)).t),.ints .i64 (qF (some u.f)).M]
theorem v1q {s:ByteArray} {u:Un} (hs:s.size<=1073741824) (h:zte s=(some u,0)):CallsD Γ prog 79 [.one (cS s)] (.tup [.agg (unQ u),.one (cI 0)]):=by
 have hr:=vqa (Γ:=Γ) s hs;rw [h] at hr;exact hr
theorem cBin (l:List Rw) (q:Rat) (f:FuncId) (hl:l.length<=1073741824) (hs:Rows l)
 (h:∀ r∈l,CallsD Γ prog f [.agg (rwC r),.agg (qC (some q))] (.one (cI (bif decide ((r.k:Rat)<=q) then -1 else 1)))) :
 CallsD Γ prog 229 [.one (.sl 2 (l.map Rw.C)),.agg (qC (some q)),fN f] (.tup [.one (cI (aft q l)),.one (cB false)]):=by
 generalize hR:aft q l=R;refine CallsD.run [] Go.Proofs.Tryz.func229 rfl rfl rfl ?_;simp only [Go.Proofs.Tryz.f229];refine hgR ?_;refine y55 [0,2,4,8] (fun p:Nat×Nat=>[(9,.one (.dat (cI p.1))),(10,.one (.dat (cI p.2)))]) (fun _=>[.box ((qC (some q)).map .dat) (some 33)])
  (fun p=>p.1<=p.2/\p.2<=l.length/\(∀ j,j<p.1->(((l.getD j default).k:Rat)<=q))/\(∀ j,p.2<=j->j<l.length->¬(((l.getD j default).k:Rat)<=q))) (fun p=>p.2-p.1) (0,l.length) ⟨Nat.zero_le _,Nat.le_refl _,fun j hj=>by omega,fun j h1 h2=>by omega⟩ ?_ ?_
 . refine hg ?_;exact StH.same svl rfl
 rintro ⟨i,j⟩ ⟨h1,h2,h3,h4⟩;simp only at h1 h2 h3 h4;refine hg ?_;refine vnx (fun hlt _=>?_) (fun hlt _=>?_)
 . have hw:=vv5 (i:=i) (j:=j) (by omega)
   have hm:(i+j) / 2<l.length:=by omega
   have hmi:i<=(i+j) / 2:=by omega
   have hmj:(i+j) / 2<j:=by omega
   have hc:=h _ (w4t hm)
   have hlo:decide (((l.getD ((i+j) / 2) default).k:Rat)<=q)=true->∀ k,k<(i+j) / 2+1->(((l.getD k default).k:Rat)<=q):=fun hq k hk=>Rat.le_trans (y6s (hs.mono (by omega) hm)) (of_decide_eq_true hq)
   have hhi:decide (((l.getD ((i+j) / 2) default).k:Rat)<=q)=false->∀ k,(i+j) / 2<=k->k<l.length->¬(((l.getD k default).k:Rat)<=q):=fun hq k hk hk2 hle=>of_decide_eq_false hq (Rat.le_trans (y6s (hs.mono hk hk2)) hle)
   clear h hs;generalize hM:(i+j) / 2=m at *;clear hM;generalize decide (((l.getD m default).k:Rat)<=q)=b at hc hlo hhi;refine hg1 @hw ?_
   cases b with
   | true=>
    repeat' ((first | refine hfk ?_ ?_<;>intros | refine hik ?_ | with_reducible first | refine hcA ?_ | refine hcB ?_)<;>refine hgS ?_)
    all_goals first
     | exact ⟨(m+1,j),⟨by dsimp only;omega,h2,hlo rfl,h4⟩,by dsimp only;omega,StH.same svl rfl⟩
     | (exfalso;simp_all;done)
   | false=>
    repeat' ((first | refine hfk ?_ ?_<;>intros | refine hik ?_ | with_reducible first | refine hcA ?_ | refine hcB ?_)<;>refine hgS ?_)
    all_goals first
     | exact ⟨(i,m),⟨by dsimp only;omega,by dsimp only;omega,h3,hhi rfl⟩,by dsimp only;omega,StH.same svl rfl⟩
     | (exfalso;simp_all;done)
 . have h4':∀ k,i<=k->k<l.length->¬(((l.getD k default).k:Rat)<=q):=fun k hk=>h4 k (by omega)
   have hR2:R=i:=by rw [<-hR];exact z7c (by omega) h3 (fun h=>h4' i (Nat.le_refl _) h)
   rw [hR2];refine hg ?_;by_cases hn:i<l.length
   . have hc:=h _ (w4t hn);rw [decide_eq_false (h4' i (Nat.le_refl _) hn),cond_false] at hc
     repeat' ((first | refine hfk ?_ ?_<;>intros | refine hik ?_ | with_reducible first | refine hcA ?_ | refine hcB ?_)<;>refine hgS ?_)
     all_goals refine lfE ?_;first | exact trivial | rfl
   . repeat' ((first | refine hfk ?_ ?_<;>intros | refine hik ?_)<;>refine hgS ?_)
     all_goals first
      | (exfalso;omega)
      | refine lfE ?_;first | exact trivial | rfl
theorem zt6 (t:Tb) (q:Rat) (ht:zi4 (fun s=>(zte s).2) t=true) (hq:qs q<=67108864):CallsD Γ prog 190 [.agg (tbC t),.agg (qC (some q))] (.tup [.one (cI (aft q t.rows)),.one (cB (decide (0<(aft q t.rows:Int))&&decide (cmpO (some (((t.rows.getD (aft q t.rows-1) default).k:Int):Rat)) (some q)=0)))]):=by
 obtain ⟨_,_,hl,hrows⟩:=yun ht
 have hb:=cBin (Γ:=Γ) t.rows q 230 (by omega) hrows (fun r hr=>yo8 r q (by
  obtain ⟨i,hi,rfl⟩:=List.getElem_of_mem hr
  have:=(hrows i hi).1
  rw [show t.rows.getD i default=t.rows[i] from by simp [hi]] at this
  exact this) hq)
 have hle:=xds q t.rows;have hcr:=zpb (some (((t.rows.getD (aft q t.rows-1) default).k:Int):Rat)) (some q);by_cases h0:aft q t.rows=0
 . rw [h0] at hb ⊢;refine CallsD.run [] Go.Proofs.Tryz.func190 rfl rfl rfl ?_;simp only [Go.Proofs.Tryz.f190];refine hgR ?_
   repeat' ((first | refine hfk ?_ ?_<;>intros | refine hik ?_ | with_reducible first | refine hcA ?_ | refine hcB ?_)<;>refine hgS ?_)
   all_goals first
    | (exfalso;omega)
    | refine lfE ?_;first | exact trivial | rfl
 . have hk:=wju (hrows (aft q t.rows-1) (by omega)).1
   have hin:inI (t.rows.getD (aft q t.rows-1) default).k:=by unfold inI;omega
   have hz:=wtn hin;have o1:=oInt (Γ:=Γ) (t.rows.getD (aft q t.rows-1) default).k hin;have o2:=oCmp (Γ:=Γ) (some (((t.rows.getD (aft q t.rows-1) default).k:Int):Rat)) (some q) (by omega) hq;generalize cmpO (some (((t.rows.getD (aft q t.rows-1) default).k:Int):Rat)) (some q)=c at *;generalize aft q t.rows=k at *;refine CallsD.run [] Go.Proofs.Tryz.func190 rfl rfl rfl ?_;simp only [Go.Proofs.Tryz.f190];refine hgR ?_
   repeat' ((first | refine hfk ?_ ?_<;>intros | refine hik ?_ | with_reducible first | refine hcA ?_ | refine hcB ?_)<;>refine hgS ?_)
   all_goals refine lfE ?_;first | exact trivial | rfl
def zxb (t:Tb) (n:Int):Option Rat:=mulO (some (n:Rat)) (facO t.unit)
theorem xan (t:Tb) (n:Int) (ht:zi4 (fun s=>(zte s).2) t=true) (hu:t.unit.size<=1073741824) (hn:inI n):CallsD Γ prog 191 [.agg (tbC t),.one (cI n)] (.agg (qC (zxb t n))):=by
 obtain ⟨u,h1,h2⟩:=(yun ht).1;have hr:=v1q (Γ:=Γ) hu h1;have hz:=wtn hn;have hm:=oMul (Γ:=Γ) (some (n:Rat)) (some u.f) (by omega) (by show qs u.f<=_;omega);rw [show zxb t n=mulO (some (n:Rat)) (some u.f) by unfold zxb facO;rw [h1];rfl];refine CallsD.run [] Go.Proofs.Tryz.func191 rfl rfl rfl ?_;simp only [Go.Proofs.Tryz.f191];refine hgR ?_
 repeat' ((first | refine hfk ?_ ?_<;>intros | refine hik ?_ | with_reducible first | refine hcA ?_ | refine hcB ?_ | refine v6l (oInt n hn) ?_ | refine vgi (oInt n hn) ?_)<;>refine hgS ?_)
 all_goals refine lfE ?_;first | exact trivial | rfl
def wyo (t:Tb) (v:Option Rat):Option Rat×Int:=bif !zi4 (fun s=>(zte s).2) t then (none,1) else match v with
 | none=>(none,1)
 | some q=>bif decide (aft q t.rows=0) then (none,4) else (zxb t (t.rows.getD (aft q t.rows-1) default).v,0)
theorem ymc (t:Tb) (v:Option Rat) (hv:qz v<=67108864) (h1:t.name.size<=1073741824) (h2:t.unit.size<=1073741824) (h3:t.rows.length<=1073741824):CallsD Γ prog 137 [.agg (tbC t),.agg (qC v)] (qR (wyo t v).1 (wyo t v).2):=by
 have hr:=vv4 (Γ:=Γ) t h1 h2 h3
 cases ht:zi4 (fun s=>(zte s).2) t with
 | false=>
  rw [ht] at hr;rw [show wyo t v=(none,1) by unfold wyo;rw [ht];rfl];refine CallsD.run [] Go.Proofs.Tryz.func137 rfl rfl rfl ?_;simp only [Go.Proofs.Tryz.f137];refine hgR ?_
  repeat' ((first | refine hfk ?_ ?_<;>intros | refine hik ?_ | with_reducible first | refine hcA ?_ | refine hcB ?_)<;>refine hgS ?_)
  exact vmy
 | true=>
  rw [ht] at hr
  cases v with
  | none=>
   have hv2:CallsD Γ prog 44 [.agg (qC none)] (.one (cB false)):=wi6 none (by omega);rw [show wyo t none=(none,1) by unfold wyo;rw [ht];rfl];refine CallsD.run [] Go.Proofs.Tryz.func137 rfl rfl rfl ?_;simp only [Go.Proofs.Tryz.f137];refine hgR ?_
   repeat' ((first | refine hfk ?_ ?_<;>intros | refine hik ?_ | with_reducible first | refine hcA ?_ | refine hcB ?_)<;>refine hgS ?_)
   exact vmy
  | some q=>
   have hv2:CallsD Γ prog 44 [.agg (qC (some q))] (.one (cB true)):=wi6 (some q) (by omega);have ha:=zt6 (Γ:=Γ) t q ht hv;have hle:=xds q t.rows;by_cases h0:aft q t.rows=0
   . rw [show wyo t (some q)=(none,4) by unfold wyo;rw [ht];simp only [Bool.not_true,cond_false,h0,decide_true,cond_true]];rw [h0] at ha;refine CallsD.run [] Go.Proofs.Tryz.func137 rfl rfl rfl ?_;simp only [Go.Proofs.Tryz.f137];refine hgR ?_
     repeat' ((first | refine hfk ?_ ?_<;>intros | refine hik ?_ | with_reducible first | refine hcA ?_ | refine hcB ?_)<;>refine hgS ?_)
     all_goals first
      | exact vmy
      | (exfalso;omega)
   . rw [show wyo t (some q)=(zxb t (t.rows.getD (aft q t.rows-1) default).v,0) by unfold wyo;rw [ht];simp only [Bool.not_true,cond_false,decide_eq_false h0]];obtain ⟨_,_,hl,hrows⟩:=yun ht;have hn:=wju (hrows (aft q t.rows-1) (by omega)).2.1;have hw:=xan (Γ:=Γ) t (t.rows.getD (aft q t.rows-1) default).v ht h2 (by unfold inI;omega);generalize aft q t.rows=k at *;refine CallsD.run [] Go.Proofs.Tryz.func137 rfl rfl rfl ?_;simp only [Go.Proofs.Tryz.f137];refine hgR ?_
     repeat' ((first | refine hfk ?_ ?_<;>intros | refine hik ?_ | with_reducible first | refine hcA ?_ | refine hcB ?_)<;>refine hgS ?_)
     all_goals first
      | (exfalso;omega)
      | refine lfE ?_;first | exact trivial | rfl
def ivO:Option Iv->Sc
 | none=>Sc.zero
 | some v=>ivS v
abbrev scC (s:Sc):List Cell:=[.raw (.int .i64 s.low.s),.ints .i64 s.low.L,.raw (.int .i64 s.low.t),.ints .i64 s.low.M,.raw (.int .i64 s.high.s),.ints .i64 s.high.L,.raw (.int .i64 s.high.t),.ints .i64 s.high.M]
abbrev scZ:List Cell:=[cI 0,.zc,cI 0,.zc,cI 0,.zc,cI 0,.zc]
theorem vr3 {e:Int}:RLe (.tup [.agg scZ,.one (cI e)]) (.tup [.agg (scC Sc.zero),.one (cI e)]):=.tup (.cons wu9 (.cons (.refl _) .nil))
theorem wyz {b:Bool}:RLe (.tup [.agg scZ,.one (cB b)]) (.tup [.agg (scC Sc.zero),.one (cB b)]):=.tup (.cons wu9 (.cons (.refl _) .nil))
theorem vr2:qs (0:Rat)<=67108864:=by have:=wtn (n:=0) (by unfold inI;omega);exact Nat.le_trans this (by decide)
theorem wsd:qs ((1:Int):Rat)<=4:=wtn (n:=1) (by unfold inI;omega)
theorem vfo (a b:Iv) (h:b.has 0=true) (ha:ivZ a<=67108864) (hb:ivZ b<=67108864):CallsD Γ prog 152 [.agg (ivC a),.agg (ivC b)] (.tup [.agg (scC Sc.zero),.one (cI 15)]):=by
 have h1:=ymg (Γ:=Γ) a ha;have h2:=ymg (Γ:=Γ) b hb;have h3:=oInt (Γ:=Γ) 0 (by unfold inI;omega);have h4:=iHas (Γ:=Γ) b ((0:Int):Rat) hb vr2;rw [show b.has ((0:Int):Rat)=true from h] at h4;refine CallsD.run [] Go.Proofs.Tryz.func152 rfl rfl rfl ?_;simp only [Go.Proofs.Tryz.f152];refine hgR ?_
 repeat' ((first | refine hfk ?_ ?_<;>intros | refine hik ?_ | with_reducible first | refine hcA ?_ | refine hcB ?_)<;>refine hgS ?_)
 exact vr3
theorem vk8 {b:Iv} (h:b.has 0=false):b.lo≠0/\b.hi≠0:=by
 have:=b.h
 unfold Iv.has at h;constructor
 . intro e;rw [e] at h this;simp [this] at h
 . intro e;rw [e] at h this;simp [this] at h
theorem yol (a b:Iv) (h:b.has 0=false) (ha:ivZ a<=33554432) (hb:ivZ b<=33554400):CallsD Γ prog 152 [.agg (ivC a),.agg (ivC b)] (ivR (a.mul b.inv)):=by
 have h1:=ymg (Γ:=Γ) a (by omega);have h2:=ymg (Γ:=Γ) b (by omega);have h3:=oInt (Γ:=Γ) 0 (by unfold inI;omega);have h4:=iHas (Γ:=Γ) b ((0:Int):Rat) (by omega) vr2;rw [show b.has ((0:Int):Rat)=false from h] at h4;have h5:=oInt (Γ:=Γ) 1 (by unfold inI;omega);have q1:=wsd;have d1:=oDiv (Γ:=Γ) (some ((1:Int):Rat)) (some b.hi) (Nat.le_trans q1 (by omega)) (zhi hb);have d2:=oDiv (Γ:=Γ) (some ((1:Int):Rat)) (some b.lo) (Nat.le_trans q1 (by omega)) (zlo hb)
 have e1:∀ x:Rat,x≠0->divO (some ((1:Int):Rat)) (some x)=some (1 / x)/\divE (some ((1:Int):Rat)) (some x)=0:=fun x hx=>by
  simp only [divO,divE,hx,decide_false,cond_false];exact ⟨rfl,trivial⟩
 obtain ⟨n1,n2⟩:=vk8 h;rw [(e1 _ n2).1,(e1 _ n2).2] at d1;rw [(e1 _ n1).1,(e1 _ n1).2] at d2;have e2:b.inv=⟨1 / b.hi,1 / b.lo,Iv.xap h⟩:=dif_pos h;have s1:=x3y ((1:Int):Rat) b.hi;have s2:=x3y ((1:Int):Rat) b.lo;have m:=iMul (Γ:=Γ) a b.inv ha (by rw [e2];show max (qs (1 / b.hi)) (qs (1 / b.lo))<=_;have s1:qs (1 / b.hi)<=_:=s1;have s2:qs (1 / b.lo)<=_:=s2;have z1:qs b.hi<=33554400:=zhi hb;have z2:qs b.lo<=33554400:=zlo hb;omega);rw [e2] at m ⊢;refine CallsD.run [] Go.Proofs.Tryz.func152 rfl rfl rfl ?_;simp only [Go.Proofs.Tryz.f152];refine hgR ?_
 repeat' ((first | refine hfk ?_ ?_<;>intros | refine hik ?_ | with_reducible first | refine hcA ?_ | refine hcB ?_)<;>refine hgS ?_)
 exact RLe.ofEq rfl
theorem xh7 (q:Rat) (h:qs q<=67108864):CallsD Γ prog 52 [.agg (qC (some q))] (.agg (qC (some q))):=toD (vs2 (qF (some q)) h)
theorem z8z (x y:Rat) (hx:qs x<=67108864) (hy:qs y<=67108864):CallsD Γ prog 196 [.agg (qC (some x)),.agg (qC (some y))] (.tup [.agg (qC (some (min x y))),.agg (qC (some (max x y)))]):=by
 have h1:=oCmp (Γ:=Γ) (some x) (some y) hx hy;have h2:=xh7 (Γ:=Γ) x hx;have h3:=xh7 (Γ:=Γ) y hy;have e:=@vjq x y;by_cases hle:x<=y
 . rw [decide_eq_true hle] at e;have e:=of_decide_eq_true e;rw [show min x y=x by rw [Rat.min_def,if_pos hle],show max x y=y by rw [Rat.max_def,if_pos hle]];have e:cmpO (some x) (some y)<=0:=e;generalize cmpO (some x) (some y)=c at h1 e;refine CallsD.run [] Go.Proofs.Tryz.func196 rfl rfl rfl ?_;simp only [Go.Proofs.Tryz.f196];refine hgR ?_
   repeat' ((first | refine hfk ?_ ?_<;>intros | refine hik ?_ | with_reducible first | refine hcA ?_ | refine hcB ?_)<;>refine hgS ?_)
   all_goals first
    | (exfalso;omega)
    | exact RLe.ofEq rfl
 . rw [decide_eq_false hle] at e;have e:=of_decide_eq_false e;rw [show min x y=y by rw [Rat.min_def,if_neg hle],show max x y=x by rw [Rat.max_def,if_neg hle]];have e:¬cmpO (some x) (some y)<=0:=e;generalize cmpO (some x) (some y)=c at h1 e;refine CallsD.run [] Go.Proofs.Tryz.func196 rfl rfl rfl ?_;simp only [Go.Proofs.Tryz.f196];refine hgR ?_
   repeat' ((first | refine hfk ?_ ?_<;>intros | refine hik ?_ | with_reducible first | refine hcA ?_ | refine hcB ?_)<;>refine hgS ?_)
   all_goals first
    | (exfalso;omega)
    | exact RLe.ofEq rfl
theorem iMin (a b:Iv) (ha:ivZ a<=67108864) (hb:ivZ b<=67108864):CallsD Γ prog 153 [.agg (ivC a),.agg (ivC b)] (ivR (a.minI b)):=by
 have h1:=ymg (Γ:=Γ) a ha;have h2:=ymg (Γ:=Γ) b hb;have h3:=z8z (Γ:=Γ) a.lo b.lo (zlo ha) (zlo hb);have h4:=z8z (Γ:=Γ) a.hi b.hi (zhi ha) (zhi hb);refine CallsD.run [] Go.Proofs.Tryz.func153 rfl rfl rfl ?_;simp only [Go.Proofs.Tryz.f153];refine hgR ?_
 repeat' ((first | refine hfk ?_ ?_<;>intros | refine hik ?_ | with_reducible first | refine hcA ?_ | refine hcB ?_)<;>refine hgS ?_)
 exact RLe.ofEq rfl
theorem iMax (a b:Iv) (ha:ivZ a<=67108864) (hb:ivZ b<=67108864):CallsD Γ prog 154 [.agg (ivC a),.agg (ivC b)] (ivR (a.maxI b)):=by
 have h1:=ymg (Γ:=Γ) a ha;have h2:=ymg (Γ:=Γ) b hb;have h3:=z8z (Γ:=Γ) a.lo b.lo (zlo ha) (zlo hb);have h4:=z8z (Γ:=Γ) a.hi b.hi (zhi ha) (zhi hb);refine CallsD.run [] Go.Proofs.Tryz.func154 rfl rfl rfl ?_;simp only [Go.Proofs.Tryz.f154];refine hgR ?_
 repeat' ((first | refine hfk ?_ ?_<;>intros | refine hik ?_ | with_reducible first | refine hcA ?_ | refine hcB ?_)<;>refine hgS ?_)
 exact RLe.ofEq rfl
theorem yul (a b:Iv) (ha:ivZ a<=67108864) (hb:ivZ b<=67108864):CallsD Γ prog 148 [.agg (ivC a),.agg (ivC b)] (ivR (a.hull b)):=by
 have h1:=ymg (Γ:=Γ) a ha;have h2:=ymg (Γ:=Γ) b hb
 have h3:=toD (Γ:=Γ) (y82 [qF (some a.lo),qF (some a.hi),qF (some b.lo),qF (some b.hi)] (Nat.succ_pos _) (show (4:Nat)<=1048576 by decide) (fun f hf=>by
  simp only [List.mem_cons,List.not_mem_nil,or_false] at hf
  rcases hf with rfl | rfl | rfl | rfl
  . exact Nat.le_trans (Nat.le_max_left _ _) ha
  . exact Nat.le_trans (Nat.le_max_right _ _) ha
  . exact Nat.le_trans (Nat.le_max_left _ _) hb
  . exact Nat.le_trans (Nat.le_max_right _ _) hb))
 rw [show Sc.y7f [qF (some a.lo),qF (some a.hi),qF (some b.lo),qF (some b.hi)]=ivS (a.hull b) from ww1 _ _ _ _] at h3;have h3:CallsD Γ prog 194 [.one (.sl 4 [qC (some a.lo),qC (some a.hi),qC (some b.lo),qC (some b.hi)])] (.agg (ivC (a.hull b))):=h3;refine CallsD.run [] Go.Proofs.Tryz.func148 rfl rfl rfl ?_;simp only [Go.Proofs.Tryz.f148];refine hgR ?_
 repeat' ((first | refine hfk ?_ ?_<;>intros | refine hik ?_ | with_reducible first | refine hcA ?_ | refine hcB ?_)<;>refine hgS ?_)
 exact RLe.ofEq rfl
def Iv.meet (a b:Iv):Option Iv:=if h:max a.lo b.lo<=min a.hi b.hi then some ⟨_,_,h⟩ else none
theorem v1d (a b:Iv) (ha:ivZ a<=67108864) (hb:ivZ b<=67108864):CallsD Γ prog 155 [.agg (ivC a),.agg (ivC b)] (.tup [.agg (scC (ivO (a.meet b))),.one (cB (a.meets b))]):=by
 have h1:=ymg (Γ:=Γ) a ha;have h2:=ymg (Γ:=Γ) b hb;have h3:=z8z (Γ:=Γ) a.lo b.lo (zlo ha) (zlo hb);have h4:=z8z (Γ:=Γ) a.hi b.hi (zhi ha) (zhi hb)
 have hs1:qs (max a.lo b.lo)<=67108864:=by rcases yqy a.lo b.lo with e | e<;>rw [e]<;>first | exact zlo ha | exact zlo hb
 have hs2:qs (min a.hi b.hi)<=67108864:=by rcases vdp a.hi b.hi with e | e<;>rw [e]<;>first | exact zhi ha | exact zhi hb
 have h5:=oCmp (Γ:=Γ) (some (max a.lo b.lo)) (some (min a.hi b.hi)) hs1 hs2;have e:=@vjq (max a.lo b.lo) (min a.hi b.hi);by_cases hle:max a.lo b.lo<=min a.hi b.hi
 . rw [decide_eq_true hle] at e;have e:=of_decide_eq_true e;have e:cmpO (some (max a.lo b.lo)) (some (min a.hi b.hi))<=0:=e;rw [show a.meet b=some ⟨_,_,hle⟩ from dif_pos hle,show a.meets b=true from decide_eq_true hle];generalize cmpO (some (max a.lo b.lo)) (some (min a.hi b.hi))=c at h5 e;refine CallsD.run [] Go.Proofs.Tryz.func155 rfl rfl rfl ?_;simp only [Go.Proofs.Tryz.f155];refine hgR ?_
   repeat' ((first | refine hfk ?_ ?_<;>intros | refine hik ?_ | with_reducible first | refine hcA ?_ | refine hcB ?_)<;>refine hgS ?_)
   all_goals first
    | (exfalso;omega)
    | exact RLe.ofEq rfl
 . rw [decide_eq_false hle] at e;have e:=of_decide_eq_false e;have e:¬cmpO (some (max a.lo b.lo)) (some (min a.hi b.hi))<=0:=e;rw [show a.meet b=none from dif_neg hle,show a.meets b=false from decide_eq_false hle];generalize cmpO (some (max a.lo b.lo)) (some (min a.hi b.hi))=c at h5 e;refine CallsD.run [] Go.Proofs.Tryz.func155 rfl rfl rfl ?_;simp only [Go.Proofs.Tryz.f155];refine hgR ?_
   repeat' ((first | refine hfk ?_ ?_<;>intros | refine hik ?_ | with_reducible first | refine hcA ?_ | refine hcB ?_)<;>refine hgS ?_)
   all_goals first
    | (exfalso;omega)
    | exact wyz
theorem ws1 (a b:Iv) (ha:ivZ a<=67108864) (hb:ivZ b<=67108864):CallsD Γ prog 156 [.agg (ivC a),.agg (ivC b)] (.one (cB (decide (a=b)))):=by
 have h1:=z9e (Γ:=Γ) (some a.lo) (some b.lo) (zlo ha) (zlo hb);have h2:=z9e (Γ:=Γ) (some a.hi) (some b.hi) (zhi ha) (zhi hb)
 have e:decide (a=b)=(decide (some a.lo=some b.lo)&&decide (some a.hi=some b.hi)):=by
  rw [<-Bool.decide_and];exact decide_eq_decide.2 ⟨fun h=>by rw [h];exact ⟨rfl,rfl⟩,fun h=>Iv.ext' (Option.some.inj h.1) (Option.some.inj h.2)⟩
 rw [e];generalize decide (some a.lo=some b.lo)=c at h1;generalize decide (some a.hi=some b.hi)=d at h2;refine CallsD.run [] Go.Proofs.Tryz.func156 rfl rfl rfl ?_;simp only [Go.Proofs.Tryz.f156];refine hgR ?_
 repeat' ((first | refine hfk ?_ ?_<;>intros | refine hik ?_ | with_reducible first | refine hcA ?_ | refine hcB ?_)<;>refine hgS ?_)
 all_goals refine lfE ?_;first | exact trivial | rfl
theorem yxo {p q:Int} (hp:1<=p) (hq:1<=q):0<Rat.divInt p q:=by
 rw [Rat.divInt_eq_div,Rat.div_def];exact Rat.mul_pos (Rat.intCast_pos.2 (by omega)) (Rat.inv_pos.2 (Rat.intCast_pos.2 (by omega)))
theorem x9l {s:ByteArray} {u:Un} (h:symF s=some u):0<u.f:=by
 unfold symF at h
 repeat' first
  | (cases h;exact yxo (by omega) (by omega))
  | (cases hc:seq s _<;>rw [hc] at h<;>simp only [cond_true,cond_false] at h)
 cases h
theorem v4v {s:ByteArray} {u:Un} (h:ykz s=some u):0<u.f:=by
 unfold ykz at h
 cases h1:(symF s).isSome with
 | true=>rw [h1,cond_true] at h;exact x9l h
 | false=>
  rw [h1,cond_false] at h
  cases h2:(!(preF (x41 s 0)).isSome||!(symF (wcs s 1)).isSome||!wem (wcs s 1)) with
  | true=>rw [h2,cond_true] at h;cases h
  | false=>
   rw [h2,cond_false] at h;split at h
   . rename_i p v hp hv
     cases h;obtain ⟨d,e⟩:=zz2 hp;exact Rat.mul_pos (x9l hv) (yxo d.1 e.1)
   . cases h
theorem xff {g:Rat->Rat} (h:∀ x,0<x->0<g x):∀(n:Nat) (a:Rat),0<a->0<iter g n a
 | 0,_,ha=>ha
 | n+1,a,ha=>xff h n (g a) (h a ha)
theorem zzz:∀(l:List It) (u v:Un),wf3 l u=some v->0<u.f->0<v.f
 | [],u,v,h,hu=>by cases h;exact hu
 | x::l,u,v,h,hu=>by
  unfold wf3 at h;split at h
  . cases h
  . rename_i w hw;have hp:=v4v hw;refine zzz l _ v h ?_;show 0<ymb u.f w.f x.e;unfold ymb
    cases decide (0<x.e) with
    | true=>exact xff (fun y hy=>Rat.mul_pos hy hp) _ _ hu
    | false=>exact xff (fun y hy=>by rw [Rat.div_def];exact Rat.mul_pos hy (Rat.inv_pos.2 hp)) _ _ hu
theorem wrr {s : ByteArray} {u : Un} (h : zte s = (some u, 0)) : zmf u.d = true ∧ 0 < u.f := by
 unfold zte at h;split at h
 . cases h
 . split at h
   . cases h
   . rename_i l hl w hw
     cases hd:zmf w.d with
     | false=>rw [hd,cond_false] at h;cases h
     | true=>
      rw [hd,cond_true] at h
      cases h;exact ⟨hd,zzz _ _ _ hw (show (0:Rat)<((1:Int):Rat) by decide)⟩
end Go.Hp.T
