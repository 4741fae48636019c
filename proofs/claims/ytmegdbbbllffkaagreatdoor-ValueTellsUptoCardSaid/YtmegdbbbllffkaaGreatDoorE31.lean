/- The proof, part E31: Nd, Ga, Qa. -/
import Derived.Test.YtmegdbbbllffkaaGreatDoorE26
import Derived.Test.YtmegdbbbllffkaaGreatDoorE27
import Derived.Test.YtmegdbbbllffkaaGreatDoorE30
namespace Go.Hp.T
open Go Go.RowKit Go.Slot Go.Hp Go.Slot.T
open Go.Proofs.Tryz (prog)
set_option maxRecDepth 10000
set_option maxHeartbeats 4000000
variable {Γ:List (Nat×List Cell)}
variable {i:Nat} {c:Int}
theorem wte (c:Int):CallsD Γ prog 136 [.one (c8 c)] (.one (cB (yio c))):=by
 refine CallsD.run [] Go.Proofs.Tryz.func136 rfl rfl rfl ?_;simp only [Go.Proofs.Tryz.f136];refine hgR ?_
 repeat' ((first | refine hfk ?_ ?_<;>intros | refine hik ?_)<;>refine hgS ?_)
 all_goals refine lf1 @yio.eq_def ?_;first | exact trivial | rfl
theorem y7z (b e p q:Int) (hb:b=0\/b=1\/b=2\/b=3\/b=4\/b=5) (hp:inI p) (hq:inI q) (hq0:q≠0):CallsD Γ prog 137 [.one (cI b),.one (cI e),.one (cI p),.one (cI q)] (.agg (unC (unOf b e p q))):=by
 rcases hb with rfl | rfl | rfl | rfl | rfl | rfl
 all_goals
  refine CallsD.run [] Go.Proofs.Tryz.func137 rfl rfl rfl ?_;simp only [Go.Proofs.Tryz.f137];refine hgR ?_
  repeat' ((first | refine hfk ?_ ?_<;>intros | refine hik ?_ | with_reducible first | refine v6l (qOf p q hp hq hq0) ?_ | refine vgi (qOf p q hp hq hq0) ?_)<;>refine hgS ?_)
  exact RLe.ofEq rfl
theorem vq6 (s:ByteArray):CallsD Γ prog 84 [.one (cS s)] (.tup [.agg (unO (symF s)),.one (cB (symF s).isSome)]):=by
 have h1:=y7z (Γ:=Γ) 0 1 1 1 (by decide) (by decide) (by decide) (by decide);have h2:=y7z (Γ:=Γ) 0 1 1000000 1 (by decide) (by decide) (by decide) (by decide);have h3:=y7z (Γ:=Γ) 1 1 1 1 (by decide) (by decide) (by decide) (by decide);have h4:=y7z (Γ:=Γ) 1 3 1 1000 (by decide) (by decide) (by decide) (by decide);have h5:=y7z (Γ:=Γ) 2 1 1 1 (by decide) (by decide) (by decide) (by decide);have h6:=y7z (Γ:=Γ) 2 1 3600 1 (by decide) (by decide) (by decide) (by decide);have h7:=y7z (Γ:=Γ) 2 1 86400 1 (by decide) (by decide) (by decide) (by decide);have h8:=y7z (Γ:=Γ) 3 1 1 1 (by decide) (by decide) (by decide) (by decide);have h9:=y7z (Γ:=Γ) 3 1 3600 1 (by decide) (by decide) (by decide) (by decide);have h10:=y7z (Γ:=Γ) 4 1 1 1 (by decide) (by decide) (by decide) (by decide);have h11:=y7z (Γ:=Γ) 4 1 100 1 (by decide) (by decide) (by decide) (by decide);have h12:=y7z (Γ:=Γ) 5 1 1 1 (by decide) (by decide) (by decide) (by decide);refine CallsD.run [] Go.Proofs.Tryz.func84 rfl rfl rfl ?_;simp only [Go.Proofs.Tryz.f84];refine hgR ?_
 repeat' ((first | refine hfk ?_ ?_<;>intros | refine hik ?_ | with_reducible first | refine hcA ?_ | refine hcB ?_)<;>refine hgS ?_)
 all_goals (refine RLe.ofEq ?_;conv=>simp only [Bool.and_true,Bool.true_and,Bool.and_false,Bool.false_and,Bool.or_true,Bool.true_or,Bool.or_false,Bool.false_or,Bool.not_true,Bool.not_false,decide_true,decide_false,not_true_eq_false,not_false_eq_true,wgp,if_true,if_false,Bool.and_self,Bool.or_self,cond_true,cond_false,List.length_map,ne_eq,Int.reduceEq,Int.reduceLT,Int.reduceLE, *,symF,unO,Option.isSome]);first | exact trivial | rfl
theorem yr4 (c:Int):CallsD Γ prog 85 [.one (c8 c)] (.tup [.one (cI (preO (preF c)).1),.one (cI (preO (preF c)).2),.one (cB (preF c).isSome)]):=by
 refine CallsD.run [] Go.Proofs.Tryz.func85 rfl rfl rfl ?_;simp only [Go.Proofs.Tryz.f85];refine hgR ?_
 repeat' ((first | refine hfk ?_ ?_<;>intros | refine hik ?_)<;>refine hgS ?_)
 all_goals (refine RLe.ofEq ?_;conv=>simp only [Bool.and_true,Bool.true_and,Bool.and_false,Bool.false_and,Bool.or_true,Bool.true_or,Bool.or_false,Bool.false_or,Bool.not_true,Bool.not_false,decide_true,decide_false,not_true_eq_false,not_false_eq_true,wgp,if_true,if_false,Bool.and_self,Bool.or_self,cond_true,cond_false,List.length_map,ne_eq,Int.reduceEq,Int.reduceLT,Int.reduceLE, *,preF,preO,Option.isSome]);first | exact trivial | rfl
theorem zma (s:ByteArray):CallsD Γ prog 86 [.one (cS s)] (.one (cB (wem s))):=by
 refine CallsD.run [] Go.Proofs.Tryz.func86 rfl rfl rfl ?_;simp only [Go.Proofs.Tryz.f86];refine hgR ?_
 repeat' ((first | refine hfk ?_ ?_<;>intros | refine hik ?_)<;>refine hgS ?_)
 all_goals refine lf1 @wem.eq_def ?_;first | exact trivial | rfl
theorem sExt (s:ByteArray) (i:Nat):s.extract 0 i=zt0 s i:=rfl
theorem z7x (s:ByteArray) (i:Nat):s.extract i s.size=wcs s i:=rfl
attribute [go_sem] sExt z7x
theorem w6h (s p:ByteArray) (_hs:s.size<=1073741824) (hp:p.size<=1073741824):CallsD Γ prog 182 [.one (cS s),.one (cS p)] (.one (cB (vhb s p))):=by
 refine CallsD.run [] Go.Proofs.Tryz.func182 rfl rfl rfl ?_;simp only [Go.Proofs.Tryz.f182];refine hgR ?_
 repeat' ((first | refine hfk ?_ ?_<;>intros | refine hik ?_)<;>refine hgS ?_)
 all_goals refine lf1 @vhb.eq_def ?_;first | exact trivial | rfl
theorem vz2 (s p:ByteArray) (hs:s.size<=1073741824) (hp:p.size<=1073741824):CallsD Γ prog 135 [.one (cS s),.one (cS p)] (.tup [.one (cS (bif vhb s p then wcs s p.size else s)),.one (cB (vhb s p))]):=by
 refine CallsD.run [] Go.Proofs.Tryz.func135 rfl rfl rfl ?_;simp only [Go.Proofs.Tryz.f135];refine hgR ?_;refine v6l (w6h s p hs hp) ?_;refine hg ?_;refine wzf (fun h=>?_) (fun h=>?_)
 . refine hg ?_
   refine lfE ?_;first | exact trivial | rfl
 . have hle:p.size<=s.size:=by
    simp only [vhb,Bool.and_eq_true,decide_eq_true_eq] at h;omega
   refine hg ?_
   refine lfE ?_;first | exact trivial | rfl
theorem xs0 (s p:ByteArray) (hs:s.size<=1073741824) (hp:p.size<=1073741824):CallsD Γ prog 81 [.one (cS s),.one (cS p)] (.tup [.one (cS (bif vhb s p then wcs s p.size else s)),.one (cB (vhb s p))]):=by
 refine CallsD.run [] Go.Proofs.Tryz.func81 rfl rfl rfl ?_;simp only [Go.Proofs.Tryz.f81];refine hgR ?_
 repeat' ((first | refine hfk ?_ ?_<;>intros | refine hik ?_ | with_reducible first | refine v6l (vz2 s p hs hp) ?_ | refine vgi (vz2 s p hs hp) ?_)<;>refine hgS ?_)
 all_goals refine lfE ?_;first | exact trivial | rfl
theorem cCut (s:ByteArray) (hs:s.size<=1073741824):CallsD Γ prog 82 [.one (cS s)] (.tup [.agg (itC (vl9 s)),.one (cS (x9p s)),.one (cB (zr8 s))]):=by
 refine CallsD.run [] Go.Proofs.Tryz.func82 rfl rfl rfl ?_;simp only [Go.Proofs.Tryz.f82];refine hgR ?_;refine y55 [0,2] (fun n:Nat=>[(5,.one (.dat (cI n)))]) (fun _=>[.box [.dat (cS ⟨⟨[]⟩⟩),.dat (cI 0)] (some 88)]) (fun n=>n<=s.size/\∀ j,j<n->yio (x41 s j)=true) (fun n=>s.size-n) 0 ⟨Nat.zero_le _,fun j hj=>by omega⟩ ?_ ?_
 . refine hg ?_;exact StH.same svl rfl
 intro n hn;obtain ⟨hn,hj⟩:=hn;refine hg ?_;refine vtf (fun hlt hd=>?_) (fun hlt _=>?_)
 . refine hg1 @hd ?_;refine v6l (wte _) ?_;refine hg ?_;refine wdg (fun h1=>?_) (fun h1=>?_)
   . refine hg ?_;refine ⟨n+1,⟨by omega,fun j hj'=>?_⟩,by omega,StH.same svl rfl⟩
     rcases Nat.lt_or_eq_of_le (Nat.le_of_lt_succ hj') with h2 | h2
     . exact hj j h2
     . rw [h2];exact h1
   . have hsp:=xwo hn hj (.inr h1);clear h1;refine hg ?_
     repeat' ((first | refine hfk ?_ ?_<;>intros | refine hik ?_)<;>refine hgS ?_)
     all_goals (refine RLe.ofEq ?_;conv=>simp only [Bool.and_true,Bool.true_and,Bool.and_false,Bool.false_and,Bool.or_true,Bool.true_or,Bool.or_false,Bool.false_or,Bool.not_true,Bool.not_false,decide_true,decide_false,not_true_eq_false,not_false_eq_true,wgp,if_true,if_false,Bool.and_self,Bool.or_self,cond_true,cond_false,List.length_map,ne_eq,Int.reduceEq,Int.reduceLT,Int.reduceLE, *,vl9,x9p,x6x,y6h,zr8,hsp]);first | exact trivial | rfl
 . have hsp:=xwo hn hj (.inl (by omega));refine hgS ?_
   repeat' ((first | refine hfk ?_ ?_<;>intros | refine hik ?_)<;>refine hgS ?_)
   all_goals (refine RLe.ofEq ?_;conv=>simp only [Bool.and_true,Bool.true_and,Bool.and_false,Bool.false_and,Bool.or_true,Bool.true_or,Bool.or_false,Bool.false_or,Bool.not_true,Bool.not_false,decide_true,decide_false,not_true_eq_false,not_false_eq_true,wgp,if_true,if_false,Bool.and_self,Bool.or_self,cond_true,cond_false,List.length_map,ne_eq,Int.reduceEq,Int.reduceLT,Int.reduceLE, *,vl9,x9p,x6x,y6h,zr8,hsp]);first | exact trivial | rfl
theorem v1o (s:ByteArray) (hs:s.size<=1073741824) (h1:1<=s.size):CallsD Γ prog 40 [.one (cS s)] (.tup [.agg (unO (ykz s)),.one (cB (ykz s).isSome)]):=by
 refine CallsD.run [] Go.Proofs.Tryz.func40 rfl rfl rfl ?_;simp only [Go.Proofs.Tryz.f40];refine hgR ?_;refine v6l (vq6 s) ?_
 cases hy:symF s with
 | some u=>
  conv=>simp (maxSteps:=2000000) (disch:=omega) only [go_sem,Nat.reduceAdd,Nat.reduceSub,Nat.reduceMul,Int.reduceToNat,Nat.reduceEqDiff,Nat.reduceBEq,Nat.reduceBneDiff,Nat.reduceLT,Int.reduceEq,Int.reduceLT,Int.reduceLE,Int.reduceNeg,Int.reduceAdd,Int.reduceSub,Int.reduceMul,unO,Option.isSome]
  exact RLe.ofEq (by simp only [ykz,hy];rfl)
 | none=>
  conv=>simp (maxSteps:=2000000) (disch:=omega) only [go_sem,Nat.reduceAdd,Nat.reduceSub,Nat.reduceMul,Int.reduceToNat,Nat.reduceEqDiff,Nat.reduceBEq,Nat.reduceBneDiff,Nat.reduceLT,Int.reduceEq,Int.reduceLT,Int.reduceLE,Int.reduceNeg,Int.reduceAdd,Int.reduceSub,Int.reduceMul,unO,Option.isSome]
  refine v6l (yr4 _) ?_;refine hg ?_;refine v6l (vq6 _) ?_
  cases hp:preF (x41 s 0) with
  | none=>
   cases hy2:symF (wcs s 1)<;>
   . conv=>simp (maxSteps:=2000000) (disch:=omega) only [go_sem,Nat.reduceAdd,Nat.reduceSub,Nat.reduceMul,Int.reduceToNat,Nat.reduceEqDiff,Nat.reduceBEq,Nat.reduceBneDiff,Nat.reduceLT,Int.reduceEq,Int.reduceLT,Int.reduceLE,Int.reduceNeg,Int.reduceAdd,Int.reduceSub,Int.reduceMul,unO,Option.isSome]
     exact RLe.ofEq (by simp only [ykz,hy,hp];rfl)
  | some p=>
   cases hy2:symF (wcs s 1) with
   | none=>
    conv=>simp (maxSteps:=2000000) (disch:=omega) only [go_sem,Nat.reduceAdd,Nat.reduceSub,Nat.reduceMul,Int.reduceToNat,Nat.reduceEqDiff,Nat.reduceBEq,Nat.reduceBneDiff,Nat.reduceLT,Int.reduceEq,Int.reduceLT,Int.reduceLE,Int.reduceNeg,Int.reduceAdd,Int.reduceSub,Int.reduceMul,unO,Option.isSome]
    exact RLe.ofEq (by simp only [ykz,hy,hp,hy2];rfl)
   | some u=>
    obtain ⟨_,hu1,_⟩:=xhk hy2;obtain ⟨hp1,hp2⟩:=zz1 hp;obtain ⟨hf1,_⟩:=x8s hp1 hp2
    conv=>simp (maxSteps:=2000000) (disch:=omega) only [go_sem,Nat.reduceAdd,Nat.reduceSub,Nat.reduceMul,Int.reduceToNat,Nat.reduceEqDiff,Nat.reduceBEq,Nat.reduceBneDiff,Nat.reduceLT,Int.reduceEq,Int.reduceLT,Int.reduceLE,Int.reduceNeg,Int.reduceAdd,Int.reduceSub,Int.reduceMul,unO,Option.isSome,preO]
    repeat' ((first | refine hfk ?_ ?_<;>intros | refine hik ?_ | with_reducible first | refine v6l (zma _) ?_ | refine vgi (zma _) ?_ | refine v6l (qOf p.1 p.2 (by unfold inI;omega) (by unfold inI;omega) (by omega)) ?_ | refine vgi (qOf p.1 p.2 (by unfold inI;omega) (by unfold inI;omega) (by omega)) ?_ | refine v6l (qMul _ _ (Nat.le_trans hu1 (by decide)) (Nat.le_trans hf1 (by decide))) ?_ | refine vgi (qMul _ _ (Nat.le_trans hu1 (by decide)) (Nat.le_trans hf1 (by decide))) ?_)<;>refine hgS ?_)
    all_goals rename_i hq
    all_goals exact RLe.ofEq (by simp only [ykz,hy,hp,hy2,hq];rfl)
theorem xhe (a f:Rat) (x:Int) (hx:x.natAbs<=1000) (ha:qs a<=100000) (hf:qs f<=1000) (hf0:f≠0):CallsD Γ prog 41 [.agg (fQ a),.agg (fQ f),.one (cI x)] (.agg (fQ (ymb a f x))):=by
 refine CallsD.run [] Go.Proofs.Tryz.func41 rfl rfl rfl ?_;simp only [Go.Proofs.Tryz.f41];refine hgR ?_;refine y55 [2,3,4,6,10] (fun i:Nat=>[(11,.one (.dat (cI i)))]) (fun i=>[.box ((fQ (pw a f x i)).map .dat) (some 33),.box ((fQ f).map .dat) (some 33),.box [.dat (cI 0),.dat .zc,.dat (cI 0),.dat .zc] (some 33)]) (fun i=>i<=x.natAbs) (fun i=>x.natAbs-i) 0 (Nat.zero_le _) ?_ ?_
 . refine hg ?_;exact StH.same svl (by rw [wuy])
 intro i hi;have hq:=zki a f x i;have hm:i*(qs f+1)<=1000*1001:=Nat.mul_le_mul (by omega) (by omega);refine hg ?_;refine vnx (fun hlt _=>?_) (fun hlt _=>?_)
 . refine hg ?_;refine vnx (fun hp hd=>?_) (fun hp hd=>?_)
   . refine hg ?_;refine v6l (qMul (pw a f x i) f (by omega) (by omega)) ?_;refine hg ?_;exact ⟨i+1,by omega,by omega,StH.same svl (by rw [xg4 hp])⟩
   . refine hg ?_;refine v6l (qDiv (pw a f x i) f hf0 (by omega) (by omega)) ?_;refine hg ?_;exact ⟨i+1,by omega,by omega,StH.same svl (by rw [zqi hp])⟩
 . refine hg ?_
   have e:i=x.natAbs:=by omega
   subst e;exact RLe.ofEq rfl
theorem zfe (s:ByteArray) (hs:s.size<=1073741824):CallsD Γ prog 38 [.one (cS s)] (.tup [.one (.sl 2 ((itO (vhi s)).map It.C)),.one (cB (vhi s).isSome)]):=by
 have bad:∀ b,vhi s=none->b=false->RLe (.tup [.one (.raw (.slice none 0 0)),.one (cB b)]) (.tup [.one (.sl 2 ((itO (vhi s)).map It.C)),.one (cB (vhi s).isSome)]):=fun b h hb=>by
  rw [h,hb];exact .tup (.cons (.one (.nilSl 2)) (.cons (.refl _) .nil))
 refine CallsD.run [(9,[.join])] Go.Proofs.Tryz.func38 rfl rfl rfl ?_;simp only [Go.Proofs.Tryz.f38];refine hgR ?_
 repeat' ((first | refine hfk ?_ ?_<;>intros | refine hik ?_)<;>refine hgS ?_)
 . exact .tup (.cons (.one (by rename_i h;simp only [vhi,h];exact .nilSl 2)) (.cons (by rename_i h;simp only [vhi,h];exact .refl _) .nil))
 . refine bad _ (by simp only [vhi, *];rfl) rfl
 refine v6l (xs0 _ _ hs (by decide)) ?_;refine hgS ?_;refine ztg [2,3,4] (fun r:ByteArray=>[(5,.one (.dat (cS r)))]) (fun _=>[]) (fun r=>r=ztm s) ?_ ?_
 . refine hg ?_;refine wzf (fun h=>?_) (fun h=>?_)
   . refine hg ?_;refine ⟨_,rfl,?_⟩;simp only [ztm,h];exact StH.same svl rfl
   . refine hg ?_;refine ⟨_,rfl,?_⟩;simp only [ztm,h];exact StH.same svl rfl
 intro r0 hr0
 have h0:vhi s=ymw (s.size+2) r0 []:=by simp only [vhi, *];rfl
 have hsz:r0.size<=s.size+1:=by
  rw [hr0];unfold ztm;have h42:(⟨#[42]⟩:ByteArray).size=1:=rfl
  cases vhb s ⟨#[49]⟩
  . simp only [cond_false,ByteArray.size_append];omega
  . simp only [cond_true,yxt];omega
 clear hr0;refine hg ?_;refine y55 [2,3] (fun p:Nat×ByteArray×List It=>[(4,.one (.sl 0 2 0 p.2.2.length)),(5,.one (.dat (cS p.2.1)))]) (fun p=>[.arr (.sl 2 (p.2.2.map It.C)) 0 (some 88)])
  (fun p=>p.2.1.size<p.1/\p.2.1.size<=1073741824/\p.2.2.length+p.2.1.size<=100/\ymw p.1 p.2.1 p.2.2=vhi s) (fun p=>p.2.1.size) (s.size+2,r0,[]) ⟨by simp only;omega,by simp only;omega,by simp only [List.length_nil];omega,h0.symm⟩ ?_ ?_
 . refine hg ?_;refine StH.trans (StH.empty (d:=4) (es:=2) (c:=.sl 2 []) (T:=some 88) rfl rfl (fun r hr=>by cases hr) rfl) ?_;refine hg ?_;exact StH.same svl rfl
 rintro ⟨k,r,acc⟩ ⟨h1,h2,h3,h4⟩;simp only at h1 h2 h3 h4;clear h0 hsz;obtain ⟨k,rfl⟩:∃ m,k=m+1:=⟨k-1,by omega⟩;rw [ymw] at h4;refine hg ?_;refine vnx (fun hne _=>?_) (fun he _=>?_)
 . have hne':=decide_eq_false hne;rw [hne',cond_false] at h4;have hd':=yxt r 1;refine hg ?_;have hcs:=x87 (wcs r 1);have hce:=z0m (wcs r 1);rw [hd'] at hcs;refine v6l (cCut (wcs r 1) (by rw [hd'];omega)) ?_;refine hg ?_
   have g1:(x9p (wcs r 1)).size<k:=by omega
   have g2:(x9p (wcs r 1)).size<=1073741824:=by omega
   have g3:∀ x:It,(acc++[x]).length+(x9p (wcs r 1)).size<=100:=fun x=>by rw [List.length_append,List.length_singleton];omega
   have g4:(x9p (wcs r 1)).size<r.size:=by omega
   have hmap:∀ x:It,acc.map It.C++[itC x]=(acc++[x]).map It.C:=fun x=>by simp;rfl
   repeat' ((first | refine hfk ?_ ?_<;>intros | refine hik ?_)<;>refine hgS ?_)
   . exact bad _ (by rw [<-h4];simp only [*];rfl) rfl
   . rename_i h47 _
     have h4':ymw k (x9p (wcs r 1)) (acc++[⟨(vl9 (wcs r 1)).w,0-(vl9 (wcs r 1)).e⟩])=vhi s:=by
      rw [<-h4];simp only [*,y5c];rfl
     refine ⟨(k,x9p (wcs r 1),acc++[⟨(vl9 (wcs r 1)).w,0-(vl9 (wcs r 1)).e⟩]),?_,?_,?_⟩
     . dsimp only;exact ⟨g1,g2,g3 _,h4'⟩
     . dsimp only;exact g4
     rw [hmap ⟨(vl9 (wcs r 1)).w,0-(vl9 (wcs r 1)).e⟩];refine StH.back [2,3,4,5] 0 2 1 rfl rfl rfl rfl rfl (by kernel_rfl) ?_;refine hg ?_;exact StH.same svl rfl
   . exfalso;omega
   . exfalso;omega
   . have h4':ymw k (x9p (wcs r 1)) (acc++[vl9 (wcs r 1)])=vhi s:=by
      rw [<-h4];simp only [*,y5c];rfl
     refine ⟨(k,x9p (wcs r 1),acc++[vl9 (wcs r 1)]),?_,?_,?_⟩
     . dsimp only;exact ⟨g1,g2,g3 _,h4'⟩
     . dsimp only;exact g4
     try rw [hmap (vl9 (wcs r 1))]
     refine StH.back [2,3,4,5] 0 2 1 rfl rfl rfl rfl rfl (by kernel_rfl) ?_;refine hg ?_;exact StH.same svl rfl
   . exact bad _ (by rw [<-h4];simp only [*];rfl) rfl
 . refine hg ?_;have he':decide (r.size=0)=true:=decide_eq_true (by omega);rw [he',cond_true] at h4;rw [<-h4];exact RLe.ofEq rfl
theorem zhn (s:ByteArray) (hs:s.size<=1073741824):CallsD Γ prog 15 [.one (cS s)] (.tup [.agg (unO (zte s).1),.one (cI (zte s).2)]):=by
 refine CallsD.run [] Go.Proofs.Tryz.func15 rfl rfl rfl ?_;simp only [Go.Proofs.Tryz.f15];refine hgR ?_;refine v6l (zfe s hs) ?_
 cases hi:vhi s with
 | none=>
  conv=>simp (maxSteps:=2000000) (disch:=omega) only [go_sem,Nat.reduceAdd,Nat.reduceSub,Nat.reduceMul,Int.reduceToNat,Nat.reduceEqDiff,Nat.reduceBEq,Nat.reduceBneDiff,Nat.reduceLT,Int.reduceEq,Int.reduceLT,Int.reduceLE,Int.reduceNeg,Int.reduceAdd,Int.reduceSub,Int.reduceMul,Option.isSome,itO]
  exact RLe.ofEq (by simp only [zte,hi];rfl)
 | some l=>
  obtain ⟨hl,hx⟩:=yqi hi
  conv=>simp (maxSteps:=2000000) (disch:=omega) only [go_sem,Nat.reduceAdd,Nat.reduceSub,Nat.reduceMul,Int.reduceToNat,Nat.reduceEqDiff,Nat.reduceBEq,Nat.reduceBneDiff,Nat.reduceLT,Int.reduceEq,Int.reduceLT,Int.reduceLE,Int.reduceNeg,Int.reduceAdd,Int.reduceSub,Int.reduceMul,Option.isSome,itO]
  refine v6l (qInt 1 (by decide)) ?_;refine hg ?_;refine y55 [2,6,23,24] (fun p:Nat×Un=>[(25,.one (.dat (cI p.1)))]) (fun p=>[.box (unZ.map .dat) (some 44),.box ((unC p.2).map .dat) (some 44)])
   (fun p=>p.1<=l.length/\p.2.d.le (27*p.1)/\qs p.2.f<=1+100*p.1/\wf3 (l.drop p.1) p.2=wf3 l ⟨Dm.zero,(1:Int)⟩) (fun p=>l.length-p.1) (0,⟨Dm.zero,(1:Int)⟩) ⟨Nat.zero_le _,by unfold Dm.le;decide,zn6,rfl⟩ ?_ ?_
  . refine hg ?_;exact StH.same svl rfl
  rintro ⟨i,u⟩ ⟨h1,h2,h3,h4⟩;simp only at h1 h2 h3 h4;refine hg ?_;refine vnx (fun hlt _=>?_) (fun hlt _=>?_)
  . have hlt':i<l.length:=by omega
    have hok:=hx _ (w4t hlt');rw [xqz hlt',wf3] at h4;refine hg ?_;refine v6l (v1o _ (by have:=hok.2.1;omega) hok.1) ?_
    cases hw:ykz (l.getD i default).w with
    | none=>
     conv=>simp (maxSteps:=2000000) (disch:=omega) only [go_sem,Nat.reduceAdd,Nat.reduceSub,Nat.reduceMul,Int.reduceToNat,Nat.reduceEqDiff,Nat.reduceBEq,Nat.reduceBneDiff,Nat.reduceLT,Int.reduceEq,Int.reduceLT,Int.reduceLE,Int.reduceNeg,Int.reduceAdd,Int.reduceSub,Int.reduceMul,Option.isSome,unO]
     rw [hw] at h4;exact RLe.ofEq (by simp only [zte,hi,<-h4])
    | some v=>
     obtain ⟨hv1,hv2,hv3⟩:=xk3 hw;rw [hw] at h4;obtain ⟨b1,b2,b3,b4,b5,b6⟩:=h2;obtain ⟨d1,d2,d3,d4,d5,d6⟩:=hv1;have he:=hok.2.2;have c1:=yos d1 he;have c2:=yos d2 he;have c3:=yos d3 he;have c4:=yos d4 he;have c5:=yos d5 he;have c6:=yos d6 he
     have hq:qs (ymb u.f v.f (l.getD i default).e)<=qs u.f+9*(qs v.f+1):=by
      have:=zki u.f v.f (l.getD i default).e (l.getD i default).e.natAbs
      rw [<-xbq] at this;have h9:(l.getD i default).e.natAbs*(qs v.f+1)<=9*(qs v.f+1):=Nat.mul_le_mul_right _ (by omega);omega
     have hle:(u.d.acc v.d (l.getD i default).e).le (27*(i+1:Nat)):=by
      have:=Dm.v1r (x:=u.d) ⟨b1,b2,b3,b4,b5,b6⟩ ⟨d1,d2,d3,d4,d5,d6⟩ he
      rw [show (27*((i+1:Nat):Int))=27*i+27 from by omega];exact this
     conv=>simp (maxSteps:=2000000) (disch:=omega) only [go_sem,Nat.reduceAdd,Nat.reduceSub,Nat.reduceMul,Int.reduceToNat,Nat.reduceEqDiff,Nat.reduceBEq,Nat.reduceBneDiff,Nat.reduceLT,Int.reduceEq,Int.reduceLT,Int.reduceLE,Int.reduceNeg,Int.reduceAdd,Int.reduceSub,Int.reduceMul,Option.isSome,unO]
     repeat' ((first | refine hfk ?_ ?_<;>intros | refine hik ?_ | with_reducible refine zum ?_ | with_reducible refine v3j ?_ | with_reducible first | refine v6l (xhe u.f v.f (l.getD i default).e (by omega) (by omega) (by omega) hv3) ?_ | refine vgi (xhe u.f v.f (l.getD i default).e (by omega) (by omega) (by omega) hv3) ?_)<;>refine hgS ?_)
     refine ⟨(i+1,⟨u.d.acc v.d (l.getD i default).e,ymb u.f v.f (l.getD i default).e⟩),?_,?_,?_⟩
     . dsimp only;exact ⟨by omega,hle,by omega,h4⟩
     . dsimp only;omega
     refine StH.back [2,6,23,24,25] 2 2 2 rfl rfl rfl rfl rfl (by kernel_rfl) ?_;refine hg ?_;exact StH.same svl rfl
  . have h4':wf3 l ⟨Dm.zero,(1:Int)⟩=some u:=by rw [<-h4,List.drop_eq_nil_of_le (by omega)];rfl
    refine hg ?_
    repeat' ((first | refine hfk ?_ ?_<;>intros | refine hik ?_ | with_reducible first | refine v6l (ygx _) ?_ | refine vgi (ygx _) ?_)<;>refine hgS ?_)
    all_goals
     rename_i hd;exact RLe.ofEq (by simp only [zte,hi,h4',hd];rfl)
def qF:Option Rat->Fc
 | none=>Fc.zero
 | some q=>Fc.of q
abbrev qC (v:Option Rat):List Cell:=[.raw (.int .i64 (qF v).s),.ints .i64 (qF v).L,.raw (.int .i64 (qF v).t),.ints .i64 (qF v).M]
abbrev qz (v:Option Rat):Nat:=(qF v).sz
theorem yr3 {v:Option Rat}:(qF v).ok↔v.isSome=true:=by
 cases v with
 | none=>exact ⟨fun h=>absurd h Fc.vc1,fun h=>by cases h⟩
 | some q=>exact ⟨fun _=>rfl,fun _=>Fc.zav q⟩
theorem zym {a b:Option Rat} (h:qF a=qF b):a=b:=by
 cases a with
 | none=>cases b with
  | none=>rfl
  | some y=>exact absurd (show Fc.zero.ok by rw [show Fc.zero=Fc.of y from h];exact Fc.zav y) Fc.vc1
 | some x=>cases b with
  | none=>exact absurd (show Fc.zero.ok by rw [show Fc.zero=Fc.of x from h.symm];exact Fc.zav x) Fc.vc1
  | some y=>rw [Fc.y2b h]
theorem xp2 {f:Fc} (h:f.ok):∃ q,f=qF (some q):=Fc.xst h
def op2O (g:Rat->Rat->Rat) (a b:Option Rat):Option Rat:=match a,b with
 | some x,some y=>some (g x y)
 | _,_=>none
def erO (a b:Option Rat):Int:=bif a.isSome&&b.isSome then 0 else 1
def cmpO (a b:Option Rat):Int:=match a,b with
 | some x,some y=>Fc.ordQ x y
 | _,_=>0
def divO (a b:Option Rat):Option Rat:=match a,b with
 | some x,some y=>bif decide (y=0) then none else some (x / y)
 | _,_=>none
def divE (a b:Option Rat):Int:=match a,b with
 | some _,some y=>bif decide (y=0) then 15 else 0
 | _,_=>1
abbrev addO:=op2O (· + ·)
abbrev subO:=op2O (· - ·)
abbrev mulO:=op2O (· * ·)
abbrev minO:=op2O (fun x y=>min x y)
abbrev maxO:=op2O (fun x y=>max x y)
theorem yqn (g:Rat->Rat->Rat) (a b:Option Rat):Fc.op2 g (qF a) (qF b)=qF (op2O g a b):=by
 cases a with
 | none=>exact Fc.zmk (fun h=>Fc.vc1 h.1)
 | some x=>cases b with
  | none=>exact Fc.zmk (fun h=>Fc.vc1 h.2)
  | some y=>exact Fc.ypk g x y
theorem v7s (a b:Option Rat):Fc.er ((qF a).ok/\(qF b).ok)=erO a b:=by
 cases a with
 | none=>exact Fc.zab (fun h=>Fc.vc1 h.1)
 | some x=>cases b with
  | none=>exact Fc.zab (fun h=>Fc.vc1 h.2)
  | some y=>exact Fc.v2c ⟨Fc.zav x,Fc.zav y⟩
theorem zyd (a b:Option Rat):Fc.cmp (qF a) (qF b)=cmpO a b:=by
 cases a with
 | none=>exact if_neg (fun h=>Fc.vc1 h.1)
 | some x=>cases b with
  | none=>exact if_neg (fun h=>Fc.vc1 h.2)
  | some y=>exact Fc.ysh x y
theorem zpb (a b:Option Rat):-1<=cmpO a b/\cmpO a b<=1:=by rw [<-zyd];exact Fc.yav _ _
abbrev qR (v:Option Rat) (e:Int):AV:=.tup [.agg (qC v),.one (cI e)]
theorem oAdd (a b:Option Rat) (ha:qz a<=67108864) (hb:qz b<=67108864):CallsD Γ prog 69 [.agg (qC a),.agg (qC b)] (qR (addO a b) (erO a b)):=by
 have h:=toD (Γ:=Γ) (wnb (qF a) (qF b) ha hb);rw [show Fc.add (qF a) (qF b)=_ from yqn _ a b,v7s] at h;exact h
theorem oSub (a b:Option Rat) (ha:qz a<=67108864) (hb:qz b<=67108864):CallsD Γ prog 127 [.agg (qC a),.agg (qC b)] (qR (subO a b) (erO a b)):=by
 have h:=toD (Γ:=Γ) (zb4 (qF a) (qF b) ha hb);rw [show Fc.sub (qF a) (qF b)=_ from yqn _ a b,v7s] at h;exact h
theorem oMul (a b:Option Rat) (ha:qz a<=67108864) (hb:qz b<=67108864):CallsD Γ prog 16 [.agg (qC a),.agg (qC b)] (qR (mulO a b) (erO a b)):=by
 have h:=toD (Γ:=Γ) (xxk (qF a) (qF b) ha hb);rw [show Fc.mul (qF a) (qF b)=_ from yqn _ a b,v7s] at h;exact h
theorem oMax (a b:Option Rat) (ha:qz a<=67108864) (hb:qz b<=67108864):CallsD Γ prog 129 [.agg (qC a),.agg (qC b)] (qR (maxO a b) (erO a b)):=by
 have h:=toD (Γ:=Γ) (vdh (qF a) (qF b) ha hb);rw [show Fc.maxf (qF a) (qF b)=_ from yqn _ a b,v7s] at h;exact h
theorem oCmp (a b:Option Rat) (ha:qz a<=67108864) (hb:qz b<=67108864):CallsD Γ prog 130 [.agg (qC a),.agg (qC b)] (.one (cI (cmpO a b))):=by
 have h:=toD (Γ:=Γ) (zrw (qF a) (qF b) ha hb);rw [zyd] at h;exact h
theorem xau (f:Fc) (h:f.sz<=268435456):CallsD Γ prog 26 [.agg f.C] (.one (cB (decide f.ok))):=toD (wuf f h)
theorem wi6 (v:Option Rat) (h:qz v<=268435456):CallsD Γ prog 26 [.agg (qC v)] (.one (cB v.isSome)):=by
 have h:=toD (Γ:=Γ) (wuf (qF v) h)
 rw [show decide (qF v).ok=v.isSome by cases hv:v.isSome with
  | true=>exact decide_eq_true (yr3.2 hv)
  | false=>exact decide_eq_false (fun h=>by rw [yr3.1 h] at hv;cases hv)] at h
 exact h
theorem oInt (n:Int) (hn:inI n):CallsD Γ prog 39 [.one (cI n)] (.agg (qC (some (n:Rat)))):=toD (x4e n hn)
theorem oMin (a b : Option Rat) (ha : qz a ≤ 67108864) (hb : qz b ≤ 67108864) : CallsD Γ prog 128 [.agg (qC a), .agg (qC b)] (qR (minO a b) (erO a b)) := by
 by_cases h:(qF a).ok/\(qF b).ok
 . obtain ⟨h1,h2⟩:=h
   cases a with
   | none=>exact absurd h1 Fc.vc1
   | some x=>cases b with
    | none=>exact absurd h2 Fc.vc1
    | some y=>
     have hE:=toD (Γ:=Γ) (xmd x y (-1) (by decide) ha hb)
     have e:(if Fc.ordQ x y*(-1)<0 then y else x)=min x y:=by
      rw [Rat.min_def]
      rcases Fc.ygb x y with ⟨h,e⟩ | ⟨h,e⟩ | ⟨h,e⟩<;>rw [e]
      . rw [if_neg (by decide),if_pos (Rat.le_of_lt h)]
      . rw [if_neg (by decide),if_pos (by rw [h];exact Rat.le_refl)]
      . rw [if_pos (by decide),if_neg (fun h'=>Rat.not_le.2 h h')]
     rw [e] at hE;have hE:CallsD Γ prog 173 [.agg (qC (some x)),.agg (qC (some y)),.one (cI (-1))] (qR (some (min x y)) 0):=hE;refine CallsD.run [] Go.Proofs.Tryz.func128 rfl rfl rfl ?_;simp only [Go.Proofs.Tryz.f128];refine hgR ?_
     repeat' ((first | refine hfk ?_ ?_<;>intros | refine hik ?_ | with_reducible first | refine hcA ?_ | refine hcB ?_)<;>refine hgS ?_)
     exact RLe.ofEq rfl
 . have hE:=toD (Γ:=Γ) (xwz (qF a) (qF b) (-1) h ha hb)
   have e1:minO a b=none/\erO a b=1:=by
    cases a with
    | none=>exact ⟨rfl,rfl⟩
    | some x=>cases b with
     | none=>exact ⟨rfl,rfl⟩
     | some y=>exact absurd ⟨Fc.zav x,Fc.zav y⟩ h
   rw [e1.1,e1.2];have hE:CallsD Γ prog 173 [.agg (qC a),.agg (qC b),.one (cI (-1))] (qR none 1):=hE;refine CallsD.run [] Go.Proofs.Tryz.func128 rfl rfl rfl ?_;simp only [Go.Proofs.Tryz.f128];refine hgR ?_
   repeat' ((first | refine hfk ?_ ?_<;>intros | refine hik ?_ | with_reducible first | refine hcA ?_ | refine hcB ?_)<;>refine hgS ?_)
   exact RLe.ofEq rfl
theorem vmy {e:Int}:RLe (.tup [.agg [cI 0,.zc,cI 0,.zc],.one (cI e)]) (qR none e):=.tup (.cons xxc (.cons (.refl _) .nil))
theorem oDiv (a b:Option Rat) (ha:qz a<=67108864) (hb:qz b<=67108864):CallsD Γ prog 88 [.agg (qC a),.agg (qC b)] (qR (divO a b) (divE a b)):=by
 cases a with
 | none=>
  have r1:CallsD Γ prog 26 [.agg (qC none)] (.one (cB false)):=wi6 none (by omega);refine CallsD.run [] Go.Proofs.Tryz.func88 rfl rfl rfl ?_;simp only [Go.Proofs.Tryz.f88];refine hgR ?_
  repeat' ((first | refine hfk ?_ ?_<;>intros | refine hik ?_ | with_reducible first | refine hcA ?_ | refine hcB ?_)<;>refine hgS ?_)
  exact vmy
 | some x=>
  have r1:CallsD Γ prog 26 [.agg (qC (some x))] (.one (cB true)):=wi6 (some x) (by omega)
  cases b with
  | none=>
   have r2:CallsD Γ prog 26 [.agg (qC none)] (.one (cB false)):=wi6 none (by omega);refine CallsD.run [] Go.Proofs.Tryz.func88 rfl rfl rfl ?_;simp only [Go.Proofs.Tryz.f88];refine hgR ?_
   repeat' ((first | refine hfk ?_ ?_<;>intros | refine hik ?_ | with_reducible first | refine hcA ?_ | refine hcB ?_)<;>refine hgS ?_)
   exact vmy
  | some y=>
   have r2:CallsD Γ prog 26 [.agg (qC (some y))] (.one (cB true)):=wi6 (some y) (by omega);by_cases hy:y=0
   . subst hy;have hs:(qF (some (0:Rat))).s=0:=rfl;have r2:CallsD Γ prog 26 [.agg [.raw (.int .i64 0),.ints .i64 (qF (some (0:Rat))).L,.raw (.int .i64 (qF (some (0:Rat))).t),.ints .i64 (qF (some (0:Rat))).M]] (.one (cB true)):=r2;refine CallsD.run [] Go.Proofs.Tryz.func88 rfl rfl rfl ?_;simp only [Go.Proofs.Tryz.f88];refine hgR ?_
     repeat' ((first | refine hfk ?_ ?_<;>intros | refine hik ?_ | with_reducible first | refine hcA ?_ | refine hcB ?_)<;>refine hgS ?_)
     exact vmy
   . have h:=qDiv (Γ:=Γ) x y hy ha hb;rw [show divO (some x) (some y)=some (x / y) by simp only [divO,hy,decide_false,cond_false],show divE (some x) (some y)=0 by simp only [divE,hy,decide_false,cond_false]];exact h
theorem voq {g:Rat->Rat->Rat} {n:Nat} (h:∀ x y,qs (g x y)<=qs x+qs y+n) (a b:Option Rat):qz (op2O g a b)<=qz a+qz b+n:=by
 cases a with
 | none=>exact Nat.zero_le _
 | some x=>cases b with
  | none=>exact Nat.zero_le _
  | some y=>exact h x y
theorem zwk (a b:Option Rat):qz (addO a b)<=qz a+qz b+1:=voq Fc.va3 a b
theorem we9 (a b:Option Rat):qz (subO a b)<=qz a+qz b+1:=voq (fun x y=>by
 have:=Fc.va3 x (-y)
 rw [Fc.wr7,<-Rat.sub_eq_add_neg] at this
 exact this) a b
theorem ylq (a b:Option Rat):qz (mulO a b)<=qz a+qz b:=voq (n:=0) Fc.zxl a b
theorem vbu (a b:Option Rat):qz (maxO a b)<=qz a+qz b:=voq (n:=0) (fun x y=>by
 simp only [Rat.max_def]
 split<;>omega) a b
theorem ygs (a b:Option Rat):qz (minO a b)<=qz a+qz b:=voq (n:=0) (fun x y=>by
 simp only [Rat.min_def]
 split<;>omega) a b
theorem wwn (a b:Option Rat):qz (divO a b)<=qz a+qz b+1:=by
 cases a with
 | none=>exact Nat.zero_le _
 | some x=>cases b with
  | none=>exact Nat.zero_le _
  | some y=>
   show qz (bif decide (y=0) then none else some (x / y))<=_
   cases decide (y=0) with
   | true=>exact Nat.zero_le _
   | false=>exact x3w x y
theorem wtn {n:Int} (h:inI n):qz (some (n:Rat))<=4:=by
 have:=vun (n:=n.natAbs) (by unfold inI at h;omega)
 have h1:=vun (n:=1) (by omega);show max (dig ((n:Rat).num.natAbs)).length (dig (n:Rat).den).length<=4;rw [Rat.num_intCast,Rat.den_intCast];omega
theorem xf4 {p:Nat->Prop} (h:∀ j,j<i->p j) (hi:p i):∀ j,j<i+1->p j:=fun j hj=>by
 rcases Nat.lt_or_eq_of_le (Nat.le_of_lt_succ hj) with h2 | h2
 . exact h j h2
 . rw [h2];exact hi
theorem xs8 (c:Int):CallsD Γ prog 151 [.one (c8 c)] (.one (cB (yio c))):=by
 refine CallsD.run [] Go.Proofs.Tryz.func151 rfl rfl rfl ?_;simp only [Go.Proofs.Tryz.f151];refine hgR ?_
 repeat' ((first | refine hfk ?_ ?_<;>intros | refine hik ?_)<;>refine hgS ?_)
 all_goals refine lf1 @yio.eq_def ?_;first | exact trivial | rfl
theorem zgb (c:Int):CallsD Γ prog 152 [.one (c8 c)] (.one (cB (isDigit c))):=by
 refine CallsD.run [] Go.Proofs.Tryz.func152 rfl rfl rfl ?_;simp only [Go.Proofs.Tryz.f152];refine hgR ?_
 repeat' ((first | refine hfk ?_ ?_<;>intros | refine hik ?_)<;>refine hgS ?_)
 all_goals refine lf1 @isDigit.eq_def ?_;first | exact trivial | rfl
theorem x79 (h:c<32\/126<c):ztv c=false:=by
 unfold ztv
 rcases h with h | h
 . rw [decide_eq_false (show ¬32<=c by omega)];rfl
 . rw [decide_eq_false (show ¬c<=126 by omega),Bool.and_false]
theorem yyt (h:¬c<32) (h':¬126<c):ztv c=true:=by
 unfold ztv;rw [decide_eq_true (show 32<=c by omega),decide_eq_true (show c<=126 by omega)];rfl
theorem zj7 {s:ByteArray} (hi:i<s.size) (hj:∀ j,j<i->ztv (x41 s j)=true) (h:ztv (x41 s i)=false):wku s=false:=by
 unfold wku;rw [xwo (by omega) hj (.inr h),decide_eq_true (show ¬((i:Int)=s.size) by omega),Bool.or_true];rfl
theorem xgj {s:ByteArray} (hj:∀ j,j<s.size->ztv (x41 s j)=true):wku s=decide ((s.size:Int)<=400):=by
 unfold wku;rw [xwo (Nat.le_refl _) hj (.inl rfl),decide_eq_false (show ¬¬((s.size:Int)=s.size) from fun h=>h rfl),Bool.or_false];by_cases h:(s.size:Int)<=400
 . rw [decide_eq_true h,decide_eq_false (show ¬400<(s.size:Int) by omega)];rfl
 . rw [decide_eq_false h,decide_eq_true (show 400<(s.size:Int) by omega)];rfl
theorem yyi (s:ByteArray) (hs:s.size<=1073741824):CallsD Γ prog 205 [.one (cS s)] (.one (cB (wku s))):=by
 refine CallsD.run [] Go.Proofs.Tryz.func205 rfl rfl rfl ?_;simp only [Go.Proofs.Tryz.f205];refine hgR ?_;refine y55 [0] (fun n:Nat=>[(3,.one (.dat (cI n)))]) (fun _=>[]) (fun n=>n<=s.size/\∀ j,j<n->ztv (x41 s j)=true) (fun n=>s.size-n) 0 ⟨Nat.zero_le _,fun j hj=>by omega⟩ ?_ ?_
 . refine hg ?_;exact StH.same svl rfl
 intro n hn;obtain ⟨hn,hj⟩:=hn;refine hg ?_
 repeat' ((first | refine hfk ?_ ?_<;>intros | refine hik ?_)<;>refine hgS ?_)
 . rw [zj7 (by omega) hj (x79 (.inr (by assumption)))];exact RLe.ofEq rfl
 . refine ⟨n+1,⟨by omega,xf4 hj (yyt (by assumption) (by assumption))⟩,by omega,StH.same svl rfl⟩
 . rw [zj7 (by omega) hj (x79 (.inl (by assumption)))];exact RLe.ofEq rfl
 . have e:n=s.size:=by omega
   subst e;rw [xgj hj];exact RLe.ofEq rfl
theorem zbh {s:ByteArray} (hi:i<s.size) (hj:∀ j,j<i->ycl (x41 s j)=true) (h:ycl (x41 s i)=false):isName s=false:=by
 unfold isName;rw [xwo (by omega) hj (.inr h),decide_eq_false (show ¬((i:Int)=s.size) by omega),Bool.and_false]
theorem y68 {s:ByteArray} (h:¬(s.size:Int)<=20):isName s=false:=by
 unfold isName;rw [decide_eq_false h,Bool.and_false,Bool.false_and]
theorem w6j (h:yio c=true):ycl c=true:=by unfold ycl;rw [h];rfl
theorem z2u (s:ByteArray) (hs:s.size<=1073741824):CallsD Γ prog 100 [.one (cS s)] (.one (cB (isName s))):=by
 refine CallsD.run [] Go.Proofs.Tryz.func100 rfl rfl rfl ?_;simp only [Go.Proofs.Tryz.f100];refine hgR ?_
 repeat' ((first | refine hfk ?_ ?_<;>intros | refine hik ?_ | with_reducible first | refine v6l (xs8 _) ?_ | refine vgi (xs8 _) ?_)<;>refine hgS ?_)
 . exact RLe.ofEq (by unfold isName;simp [*])
 . rename_i h1 _ h2 _ h3;refine y55 [0] (fun n:Nat=>[(3,.one (.dat (cI n)))]) (fun _=>[]) (fun n=>n<=s.size/\0<n/\∀ j,j<n->ycl (x41 s j)=true) (fun n=>s.size-n) 1 ⟨by omega,by omega,fun j hj=>?_⟩ ?_ ?_
   . have e:j=0:=by omega
     subst e;exact w6j h3
   . refine hg ?_;exact StH.same svl rfl
   intro n hn;obtain ⟨hn,hn0,hj⟩:=hn;refine hg ?_
   repeat' ((first | refine hfk ?_ ?_<;>intros | refine hik ?_ | with_reducible first | refine v6l (xs8 _) ?_ | refine vgi (xs8 _) ?_ | refine v6l (zgb _) ?_ | refine vgi (zgb _) ?_)<;>refine hgS ?_)
   . rename_i h4 h5 h6 _;rw [zbh (by omega) hj (by unfold ycl;rw [h4,h5,decide_eq_false h6];rfl)];exact RLe.ofEq rfl
   . rename_i h6 _;exact ⟨n+1,⟨by omega,by omega,xf4 hj (by unfold ycl;rw [decide_eq_true (show x41 s n=95 by omega),Bool.or_true])⟩,by omega,StH.same svl rfl⟩
   . rename_i h5;exact ⟨n+1,⟨by omega,by omega,xf4 hj (by unfold ycl;rw [h5,Bool.or_true,Bool.true_or])⟩,by omega,StH.same svl rfl⟩
   . rename_i h4;exact ⟨n+1,⟨by omega,by omega,xf4 hj (w6j h4)⟩,by omega,StH.same svl rfl⟩
   . have e:n=s.size:=by omega
     subst e
     have e:isName s=true:=by
      unfold isName;rw [xwo (Nat.le_refl _) hj (.inl rfl),h3,decide_eq_true (show ¬s.size=0 by omega),decide_eq_true (show (s.size:Int)<=20 by omega),decide_eq_true rfl];rfl
     rw [e];exact RLe.ofEq rfl
 . rw [y68 (by omega)];exact RLe.ofEq rfl
 . rename_i h _
   have e:s.size=0:=by omega
   exact RLe.ofEq (by unfold isName;rw [e];rfl)
def rEs (s:ByteArray):Nat->ByteArray
 | 0=>⟨#[34]⟩
 | i+1=>(bif decide (x41 s i=34)||decide (x41 s i=92) then rEs s i++⟨#[92]⟩ else rEs s i)++s.extract i (i+1)
theorem vr7 (s:ByteArray) (i:Nat):rEs s (i+1)=(bif decide (x41 s i=34)||decide (x41 s i=92) then rEs s i++⟨#[92]⟩ else rEs s i)++s.extract i (i+1):=by rw [rEs]
theorem zn2 (s:ByteArray):∀ i,(rEs s i).size<=2*i+1
 | 0=>by unfold rEs;decide
 | i+1=>by
  have:=zn2 s i
  have h2:(⟨#[92]⟩:ByteArray).size=1:=rfl
  have h3:(s.extract i (i+1)).size<=1:=by rw [ByteArray.size_extract];omega
  unfold rEs
  cases decide (x41 s i=34)||decide (x41 s i=92)<;>simp only [cond_true,cond_false,ByteArray.size_append]<;>omega
theorem vwh (s:ByteArray) (hs:s.size<=1073741824):CallsD Γ prog 206 [.one (cS s)] (.one (cS (rEs s s.size++⟨#[34]⟩))):=by
 refine CallsD.run [] Go.Proofs.Tryz.func206 rfl rfl rfl ?_;simp only [Go.Proofs.Tryz.f206];refine hgR ?_;refine y55 [0] (fun n:Nat=>[(3,.one (.dat (cS (rEs s n)))),(4,.one (.dat (cI n)))]) (fun _=>[]) (fun n=>n<=s.size) (fun n=>s.size-n) 0 (Nat.zero_le _) ?_ ?_
 . refine hg ?_;exact StH.same svl rfl
 intro n hn;have hl:=zn2 s n
 have h3:(s.extract n (n+1)).size<=1:=by rw [ByteArray.size_extract];omega
 have h4:(rEs s n).size+1+(s.extract n (n+1)).size<=9223372036854775807:=by omega
 have h5:(rEs s n).size+(s.extract n (n+1)).size<=9223372036854775807:=by omega
 clear h3 hl;refine hg ?_
 repeat' ((first | refine hfk ?_ ?_<;>intros | refine hik ?_)<;>refine hgS ?_)
 . rename_i _ _ h6 _
   have e:rEs s n++⟨#[92]⟩++s.extract n (n+1)=rEs s (n+1):=by rw [vr7,decide_eq_true h6,Bool.or_true];rfl
   rw [e];exact ⟨n+1,by omega,by omega,StH.same svl rfl⟩
 . rename_i h7 _ h6 _
   have e:rEs s n++s.extract n (n+1)=rEs s (n+1):=by rw [vr7,decide_eq_false h6,decide_eq_false h7];rfl
   rw [e];exact ⟨n+1,by omega,by omega,StH.same svl rfl⟩
 . rename_i h7 _
   have e:rEs s n++⟨#[92]⟩++s.extract n (n+1)=rEs s (n+1):=by rw [vr7,decide_eq_true h7,Bool.true_or];rfl
   rw [e];exact ⟨n+1,by omega,by omega,StH.same svl rfl⟩
 . have e:n=s.size:=by omega
   subst e;exact RLe.ofEq rfl
theorem yza (s:ByteArray) (hs:s.size<=1073741824):∃ t,CallsD Γ prog 175 [.one (cS s)] (.tup [.one (cS t),.one (cB (wku s))]):=by
 refine ⟨bif wku s then rEs s s.size++⟨#[34]⟩ else ⟨#[]⟩,?_⟩;refine CallsD.run [] Go.Proofs.Tryz.func175 rfl rfl rfl ?_;simp only [Go.Proofs.Tryz.f175];refine hgR ?_
 repeat' ((first | refine hfk ?_ ?_<;>intros | refine hik ?_ | with_reducible first | refine v6l (yyi s hs) ?_ | refine vgi (yyi s hs) ?_ | refine v6l (vwh s hs) ?_ | refine vgi (vwh s hs) ?_)<;>refine hgS ?_)
 all_goals refine lfE ?_;first | exact trivial | rfl
end Go.Hp.T
