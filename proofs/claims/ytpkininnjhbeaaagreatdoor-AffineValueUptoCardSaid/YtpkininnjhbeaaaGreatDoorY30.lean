import Derived.Test.YtpkininnjhbeaaaGreatDoorY29
import Derived.Test.YtpkininnjhbeaaaGreatDoorY28
namespace Go.Hp.T
open Go Go.RowKit Go.Slot Go.Hp Go.Slot.T
open Go.Proofs.Tryz (prog)
set_option maxRecDepth 10000
set_option maxHeartbeats 0
variable {Γ:List (Nat×List Cell)}
theorem xz2 (c:Int):CallsD Γ prog 241 [.one (c8 c)] (.one (cB (wxl c))):=by
 refine CallsD.run [] Go.Proofs.Tryz.func241 rfl rfl rfl ?_;simp only [Go.Proofs.Tryz.f241];refine hgR ?_
 repeat' ((first | refine hfk ?_ ?_<;>intros | refine hik ?_)<;>refine hgS ?_)
 all_goals refine lf1 @wxl.eq_def ?_;first | exact trivial | rfl
theorem wlf (b e p q:Int) (hb:b=0\/b=1\/b=2\/b=3\/b=4\/b=5) (hp:inI p) (hq:inI q) (hq0:q≠0):CallsD Γ prog 242 [.one (cI b),.one (cI e),.one (cI p),.one (cI q)] (.agg (unC (unOf b e p q))):=by
 rcases hb with rfl | rfl | rfl | rfl | rfl | rfl
 all_goals
  refine CallsD.run [] Go.Proofs.Tryz.func242 rfl rfl rfl ?_;simp only [Go.Proofs.Tryz.f242];refine hgR ?_
  repeat' ((first | refine hfk ?_ ?_<;>intros | refine hik ?_ | with_reducible first | refine wml (qOf p q hp hq hq0) ?_ | refine ysj (qOf p q hp hq hq0) ?_)<;>refine hgS ?_)
  exact RLe.ofEq rfl
theorem x1l (s:ByteArray):CallsD Γ prog 210 [.one (cS s)] (.tup [.agg (unO (symF s)),.one (cB (symF s).isSome)]):=by
 have h1:=wlf (Γ:=Γ) 0 1 1 1 (by decide) (by decide) (by decide) (by decide);have h2:=wlf (Γ:=Γ) 0 1 1000000 1 (by decide) (by decide) (by decide) (by decide);have h3:=wlf (Γ:=Γ) 1 1 1 1 (by decide) (by decide) (by decide) (by decide);have h4:=wlf (Γ:=Γ) 1 3 1 1000 (by decide) (by decide) (by decide) (by decide);have h5:=wlf (Γ:=Γ) 2 1 1 1 (by decide) (by decide) (by decide) (by decide);have h6:=wlf (Γ:=Γ) 2 1 3600 1 (by decide) (by decide) (by decide) (by decide);have h7:=wlf (Γ:=Γ) 2 1 86400 1 (by decide) (by decide) (by decide) (by decide);have h8:=wlf (Γ:=Γ) 3 1 1 1 (by decide) (by decide) (by decide) (by decide);have h9:=wlf (Γ:=Γ) 3 1 3600 1 (by decide) (by decide) (by decide) (by decide);have h10:=wlf (Γ:=Γ) 4 1 1 1 (by decide) (by decide) (by decide) (by decide);have h11:=wlf (Γ:=Γ) 4 1 100 1 (by decide) (by decide) (by decide) (by decide);have h12:=wlf (Γ:=Γ) 5 1 1 1 (by decide) (by decide) (by decide) (by decide);refine CallsD.run [] Go.Proofs.Tryz.func210 rfl rfl rfl ?_;simp only [Go.Proofs.Tryz.f210];refine hgR ?_
 repeat' ((first | refine hfk ?_ ?_<;>intros | refine hik ?_ | with_reducible first | refine hcA ?_ | refine hcB ?_)<;>refine hgS ?_)
 all_goals (refine RLe.ofEq ?_;conv=>simp only [Bool.and_true,Bool.true_and,Bool.and_false,Bool.false_and,Bool.or_true,Bool.true_or,Bool.or_false,Bool.false_or,Bool.not_true,Bool.not_false,decide_true,decide_false,not_true_eq_false,not_false_eq_true,wiu,if_true,if_false,Bool.and_self,Bool.or_self,cond_true,cond_false,List.length_map,ne_eq,Int.reduceEq,Int.reduceLT,Int.reduceLE, *,symF,unO,Option.isSome]);first | exact trivial | rfl
theorem zdz (c:Int):CallsD Γ prog 211 [.one (c8 c)] (.tup [.one (cI (preO (preF c)).1),.one (cI (preO (preF c)).2),.one (cB (preF c).isSome)]):=by
 refine CallsD.run [] Go.Proofs.Tryz.func211 rfl rfl rfl ?_;simp only [Go.Proofs.Tryz.f211];refine hgR ?_
 repeat' ((first | refine hfk ?_ ?_<;>intros | refine hik ?_)<;>refine hgS ?_)
 all_goals (refine RLe.ofEq ?_;conv=>simp only [Bool.and_true,Bool.true_and,Bool.and_false,Bool.false_and,Bool.or_true,Bool.true_or,Bool.or_false,Bool.false_or,Bool.not_true,Bool.not_false,decide_true,decide_false,not_true_eq_false,not_false_eq_true,wiu,if_true,if_false,Bool.and_self,Bool.or_self,cond_true,cond_false,List.length_map,ne_eq,Int.reduceEq,Int.reduceLT,Int.reduceLE, *,preF,preO,Option.isSome]);first | exact trivial | rfl
theorem yvn (s:ByteArray):CallsD Γ prog 212 [.one (cS s)] (.one (cB (v2f s))):=by
 refine CallsD.run [] Go.Proofs.Tryz.func212 rfl rfl rfl ?_;simp only [Go.Proofs.Tryz.f212];refine hgR ?_
 repeat' ((first | refine hfk ?_ ?_<;>intros | refine hik ?_)<;>refine hgS ?_)
 all_goals refine lf1 @v2f.eq_def ?_;first | exact trivial | rfl
theorem sExt (s:ByteArray) (i:Nat):s.extract 0 i=wrv s i:=rfl
theorem wkw (s:ByteArray) (i:Nat):s.extract i s.size=vp6 s i:=rfl
attribute [go_sem] sExt wkw
theorem v5a (s p:ByteArray) (_hs:s.size<=1073741824) (hp:p.size<=1073741824):CallsD Γ prog 224 [.one (cS s),.one (cS p)] (.one (cB (y88 s p))):=by
 refine CallsD.run [] Go.Proofs.Tryz.func224 rfl rfl rfl ?_;simp only [Go.Proofs.Tryz.f224];refine hgR ?_
 repeat' ((first | refine hfk ?_ ?_<;>intros | refine hik ?_)<;>refine hgS ?_)
 all_goals refine lf1 @y88.eq_def ?_;first | exact trivial | rfl
theorem y2f (s p:ByteArray) (hs:s.size<=1073741824) (hp:p.size<=1073741824):CallsD Γ prog 240 [.one (cS s),.one (cS p)] (.tup [.one (cS (bif y88 s p then vp6 s p.size else s)),.one (cB (y88 s p))]):=by
 refine CallsD.run [] Go.Proofs.Tryz.func240 rfl rfl rfl ?_;simp only [Go.Proofs.Tryz.f240];refine hgR ?_;refine wml (v5a s p hs hp) ?_;refine hg ?_;refine zqy (fun h=>?_) (fun h=>?_)
 . refine hg ?_
   refine lfE ?_;first | exact trivial | rfl
 . have hle:p.size<=s.size:=by
    simp only [y88,Bool.and_eq_true,decide_eq_true_eq] at h;omega
   refine hg ?_
   refine lfE ?_;first | exact trivial | rfl
theorem y55 (s p:ByteArray) (hs:s.size<=1073741824) (hp:p.size<=1073741824):CallsD Γ prog 208 [.one (cS s),.one (cS p)] (.tup [.one (cS (bif y88 s p then vp6 s p.size else s)),.one (cB (y88 s p))]):=by
 refine CallsD.run [] Go.Proofs.Tryz.func208 rfl rfl rfl ?_;simp only [Go.Proofs.Tryz.f208];refine hgR ?_
 repeat' ((first | refine hfk ?_ ?_<;>intros | refine hik ?_ | with_reducible first | refine wml (y2f s p hs hp) ?_ | refine ysj (y2f s p hs hp) ?_)<;>refine hgS ?_)
 all_goals refine lfE ?_;first | exact trivial | rfl
theorem cCut (s:ByteArray) (hs:s.size<=1073741824):CallsD Γ prog 209 [.one (cS s)] (.tup [.agg (itC (wfb s)),.one (cS (yu4 s)),.one (cB (wau s))]):=by
 refine CallsD.run [] Go.Proofs.Tryz.func209 rfl rfl rfl ?_;simp only [Go.Proofs.Tryz.f209];refine hgR ?_;refine x20 [0,2] (fun n:Nat=>[(5,.one (.dat (cI n)))]) (fun _=>[.box [.dat (cS ⟨⟨[]⟩⟩),.dat (cI 0)] (some 198)]) (fun n=>n<=s.size/\∀ j,j<n->wxl (yuk s j)=true) (fun n=>s.size-n) 0 ⟨Nat.zero_le _,fun j hj=>by omega⟩ ?_ ?_
 . refine hg ?_;exact StH.same svl rfl
 intro n hn;obtain ⟨hn,hj⟩:=hn;refine hg ?_;refine ywj (fun hlt hd=>?_) (fun hlt _=>?_)
 . refine hg1 @hd ?_;refine wml (xz2 _) ?_;refine hg ?_;refine zub (fun h1=>?_) (fun h1=>?_)
   . refine hg ?_;refine ⟨n+1,⟨by omega,fun j hj'=>?_⟩,by omega,StH.same svl rfl⟩
     rcases Nat.lt_or_eq_of_le (Nat.le_of_lt_succ hj') with h2 | h2
     . exact hj j h2
     . rw [h2];exact h1
   . have hsp:=yxq hn hj (.inr h1);clear h1;refine hg ?_
     repeat' ((first | refine hfk ?_ ?_<;>intros | refine hik ?_)<;>refine hgS ?_)
     all_goals (refine RLe.ofEq ?_;conv=>simp only [Bool.and_true,Bool.true_and,Bool.and_false,Bool.false_and,Bool.or_true,Bool.true_or,Bool.or_false,Bool.false_or,Bool.not_true,Bool.not_false,decide_true,decide_false,not_true_eq_false,not_false_eq_true,wiu,if_true,if_false,Bool.and_self,Bool.or_self,cond_true,cond_false,List.length_map,ne_eq,Int.reduceEq,Int.reduceLT,Int.reduceLE, *,wfb,yu4,x5d,zj9,wau,hsp]);first | exact trivial | rfl
 . have hsp:=yxq hn hj (.inl (by omega));refine hgS ?_
   repeat' ((first | refine hfk ?_ ?_<;>intros | refine hik ?_)<;>refine hgS ?_)
   all_goals (refine RLe.ofEq ?_;conv=>simp only [Bool.and_true,Bool.true_and,Bool.and_false,Bool.false_and,Bool.or_true,Bool.true_or,Bool.or_false,Bool.false_or,Bool.not_true,Bool.not_false,decide_true,decide_false,not_true_eq_false,not_false_eq_true,wiu,if_true,if_false,Bool.and_self,Bool.or_self,cond_true,cond_false,List.length_map,ne_eq,Int.reduceEq,Int.reduceLT,Int.reduceLE, *,wfb,yu4,x5d,zj9,wau,hsp]);first | exact trivial | rfl
theorem yvj (s:ByteArray) (hs:s.size<=1073741824) (h1:1<=s.size):CallsD Γ prog 158 [.one (cS s)] (.tup [.agg (unO (xle s)),.one (cB (xle s).isSome)]):=by
 refine CallsD.run [] Go.Proofs.Tryz.func158 rfl rfl rfl ?_;simp only [Go.Proofs.Tryz.f158];refine hgR ?_;refine wml (x1l s) ?_
 cases hy:symF s with
 | some u=>
  conv=>simp (maxSteps:=2000000) (disch:=omega) only [go_sem,Nat.reduceAdd,Nat.reduceSub,Nat.reduceMul,Int.reduceToNat,Nat.reduceEqDiff,Nat.reduceBEq,Nat.reduceBneDiff,Nat.reduceLT,Int.reduceEq,Int.reduceLT,Int.reduceLE,Int.reduceNeg,Int.reduceAdd,Int.reduceSub,Int.reduceMul,unO,Option.isSome]
  exact RLe.ofEq (by simp only [xle,hy];rfl)
 | none=>
  conv=>simp (maxSteps:=2000000) (disch:=omega) only [go_sem,Nat.reduceAdd,Nat.reduceSub,Nat.reduceMul,Int.reduceToNat,Nat.reduceEqDiff,Nat.reduceBEq,Nat.reduceBneDiff,Nat.reduceLT,Int.reduceEq,Int.reduceLT,Int.reduceLE,Int.reduceNeg,Int.reduceAdd,Int.reduceSub,Int.reduceMul,unO,Option.isSome]
  refine wml (zdz _) ?_;refine hg ?_;refine wml (x1l _) ?_
  cases hp:preF (yuk s 0) with
  | none=>
   cases hy2:symF (vp6 s 1)<;>
   . conv=>simp (maxSteps:=2000000) (disch:=omega) only [go_sem,Nat.reduceAdd,Nat.reduceSub,Nat.reduceMul,Int.reduceToNat,Nat.reduceEqDiff,Nat.reduceBEq,Nat.reduceBneDiff,Nat.reduceLT,Int.reduceEq,Int.reduceLT,Int.reduceLE,Int.reduceNeg,Int.reduceAdd,Int.reduceSub,Int.reduceMul,unO,Option.isSome]
     exact RLe.ofEq (by simp only [xle,hy,hp];rfl)
  | some p=>
   cases hy2:symF (vp6 s 1) with
   | none=>
    conv=>simp (maxSteps:=2000000) (disch:=omega) only [go_sem,Nat.reduceAdd,Nat.reduceSub,Nat.reduceMul,Int.reduceToNat,Nat.reduceEqDiff,Nat.reduceBEq,Nat.reduceBneDiff,Nat.reduceLT,Int.reduceEq,Int.reduceLT,Int.reduceLE,Int.reduceNeg,Int.reduceAdd,Int.reduceSub,Int.reduceMul,unO,Option.isSome]
    exact RLe.ofEq (by simp only [xle,hy,hp,hy2];rfl)
   | some u=>
    obtain ⟨_,hu1,_⟩:=xnl hy2;obtain ⟨hp1,hp2⟩:=y3p hp;obtain ⟨hf1,_⟩:=ysa hp1 hp2
    conv=>simp (maxSteps:=2000000) (disch:=omega) only [go_sem,Nat.reduceAdd,Nat.reduceSub,Nat.reduceMul,Int.reduceToNat,Nat.reduceEqDiff,Nat.reduceBEq,Nat.reduceBneDiff,Nat.reduceLT,Int.reduceEq,Int.reduceLT,Int.reduceLE,Int.reduceNeg,Int.reduceAdd,Int.reduceSub,Int.reduceMul,unO,Option.isSome,preO]
    repeat' ((first | refine hfk ?_ ?_<;>intros | refine hik ?_ | with_reducible first | refine wml (yvn _) ?_ | refine ysj (yvn _) ?_ | refine wml (qOf p.1 p.2 (by unfold inI;omega) (by unfold inI;omega) (by omega)) ?_ | refine ysj (qOf p.1 p.2 (by unfold inI;omega) (by unfold inI;omega) (by omega)) ?_ | refine wml (qMul _ _ (Nat.le_trans hu1 (by decide)) (Nat.le_trans hf1 (by decide))) ?_ | refine ysj (qMul _ _ (Nat.le_trans hu1 (by decide)) (Nat.le_trans hf1 (by decide))) ?_)<;>refine hgS ?_)
    all_goals rename_i hq
    all_goals exact RLe.ofEq (by simp only [xle,hy,hp,hy2,hq];rfl)
theorem x6q (a f:Rat) (x:Int) (hx:x.natAbs<=1000) (ha:qs a<=100000) (hf:qs f<=1000) (hf0:f≠0):CallsD Γ prog 159 [.agg (fQ a),.agg (fQ f),.one (cI x)] (.agg (fQ (vhc a f x))):=by
 refine CallsD.run [] Go.Proofs.Tryz.func159 rfl rfl rfl ?_;simp only [Go.Proofs.Tryz.f159];refine hgR ?_;refine x20 [2,3,4,6,10] (fun i:Nat=>[(11,.one (.dat (cI i)))]) (fun i=>[.box ((fQ (pw a f x i)).map .dat) (some 33),.box ((fQ f).map .dat) (some 33),.box [.dat (cI 0),.dat .zc,.dat (cI 0),.dat .zc] (some 33)]) (fun i=>i<=x.natAbs) (fun i=>x.natAbs-i) 0 (Nat.zero_le _) ?_ ?_
 . refine hg ?_;exact StH.same svl (by rw [w1n])
 intro i hi;have hq:=zcy a f x i;have hm:i*(qs f+1)<=1000*1001:=Nat.mul_le_mul (by omega) (by omega);refine hg ?_;refine vt2 (fun hlt _=>?_) (fun hlt _=>?_)
 . refine hg ?_;refine vt2 (fun hp hd=>?_) (fun hp hd=>?_)
   . refine hg ?_;refine wml (qMul (pw a f x i) f (by omega) (by omega)) ?_;refine hg ?_;exact ⟨i+1,by omega,by omega,StH.same svl (by rw [zn4 hp])⟩
   . refine hg ?_;refine wml (qDiv (pw a f x i) f hf0 (by omega) (by omega)) ?_;refine hg ?_;exact ⟨i+1,by omega,by omega,StH.same svl (by rw [zik hp])⟩
 . refine hg ?_
   have e:i=x.natAbs:=by omega
   subst e;exact RLe.ofEq rfl
theorem y8w (s:ByteArray) (hs:s.size<=1073741824):CallsD Γ prog 157 [.one (cS s)] (.tup [.one (.sl 2 ((itO (w5k s)).map It.C)),.one (cB (w5k s).isSome)]):=by
 have bad:∀ b,w5k s=none->b=false->RLe (.tup [.one (.raw (.slice none 0 0)),.one (cB b)]) (.tup [.one (.sl 2 ((itO (w5k s)).map It.C)),.one (cB (w5k s).isSome)]):=fun b h hb=>by
  rw [h,hb];exact .tup (.cons (.one (.nilSl 2)) (.cons (.refl _) .nil))
 refine CallsD.run [(9,[.join])] Go.Proofs.Tryz.func157 rfl rfl rfl ?_;simp only [Go.Proofs.Tryz.f157];refine hgR ?_
 repeat' ((first | refine hfk ?_ ?_<;>intros | refine hik ?_)<;>refine hgS ?_)
 . exact .tup (.cons (.one (by rename_i h;simp only [w5k,h];exact .nilSl 2)) (.cons (by rename_i h;simp only [w5k,h];exact .refl _) .nil))
 . refine bad _ (by simp only [w5k, *];rfl) rfl
 refine wml (y55 _ _ hs (by decide)) ?_;refine hgS ?_;refine wvz [2,3,4] (fun r:ByteArray=>[(5,.one (.dat (cS r)))]) (fun _=>[]) (fun r=>r=y7w s) ?_ ?_
 . refine hg ?_;refine zqy (fun h=>?_) (fun h=>?_)
   . refine hg ?_;refine ⟨_,rfl,?_⟩;simp only [y7w,h];exact StH.same svl rfl
   . refine hg ?_;refine ⟨_,rfl,?_⟩;simp only [y7w,h];exact StH.same svl rfl
 intro r0 hr0
 have h0:w5k s=zr7 (s.size+2) r0 []:=by simp only [w5k, *];rfl
 have hsz:r0.size<=s.size+1:=by
  rw [hr0];unfold y7w;have h42:(⟨#[42]⟩:ByteArray).size=1:=rfl
  cases y88 s ⟨#[49]⟩
  . simp only [cond_false,ByteArray.size_append];omega
  . simp only [cond_true,xu1];omega
 clear hr0;refine hg ?_;refine x20 [2,3] (fun p:Nat×ByteArray×List It=>[(4,.one (.sl 0 2 0 p.2.2.length)),(5,.one (.dat (cS p.2.1)))]) (fun p=>[.arr (.sl 2 (p.2.2.map It.C)) 0 (some 198)])
  (fun p=>p.2.1.size<p.1/\p.2.1.size<=1073741824/\p.2.2.length+p.2.1.size<=100/\zr7 p.1 p.2.1 p.2.2=w5k s) (fun p=>p.2.1.size) (s.size+2,r0,[]) ⟨by simp only;omega,by simp only;omega,by simp only [List.length_nil];omega,h0.symm⟩ ?_ ?_
 . refine hg ?_;refine StH.trans (StH.empty (d:=4) (es:=2) (c:=.sl 2 []) (T:=some 198) rfl rfl (fun r hr=>by cases hr) rfl) ?_;refine hg ?_;exact StH.same svl rfl
 rintro ⟨k,r,acc⟩ ⟨h1,h2,h3,h4⟩;simp only at h1 h2 h3 h4;clear h0 hsz;obtain ⟨k,rfl⟩:∃ m,k=m+1:=⟨k-1,by omega⟩;rw [zr7] at h4;refine hg ?_;refine vt2 (fun hne _=>?_) (fun he _=>?_)
 . have hne':=decide_eq_false hne;rw [hne',cond_false] at h4;have hd':=xu1 r 1;refine hg ?_;have hcs:=zhx (vp6 r 1);have hce:=xae (vp6 r 1);rw [hd'] at hcs;refine wml (cCut (vp6 r 1) (by rw [hd'];omega)) ?_;refine hg ?_
   have g1:(yu4 (vp6 r 1)).size<k:=by omega
   have g2:(yu4 (vp6 r 1)).size<=1073741824:=by omega
   have g3:∀ x:It,(acc++[x]).length+(yu4 (vp6 r 1)).size<=100:=fun x=>by rw [List.length_append,List.length_singleton];omega
   have g4:(yu4 (vp6 r 1)).size<r.size:=by omega
   have hmap:∀ x:It,acc.map It.C++[itC x]=(acc++[x]).map It.C:=fun x=>by simp;rfl
   repeat' ((first | refine hfk ?_ ?_<;>intros | refine hik ?_)<;>refine hgS ?_)
   . exact bad _ (by rw [<-h4];simp only [*];rfl) rfl
   . rename_i h47 _
     have h4':zr7 k (yu4 (vp6 r 1)) (acc++[⟨(wfb (vp6 r 1)).w,0-(wfb (vp6 r 1)).e⟩])=w5k s:=by
      rw [<-h4];simp only [*,xsw];rfl
     refine ⟨(k,yu4 (vp6 r 1),acc++[⟨(wfb (vp6 r 1)).w,0-(wfb (vp6 r 1)).e⟩]),?_,?_,?_⟩
     . dsimp only;exact ⟨g1,g2,g3 _,h4'⟩
     . dsimp only;exact g4
     rw [hmap ⟨(wfb (vp6 r 1)).w,0-(wfb (vp6 r 1)).e⟩];refine StH.back [2,3,4,5] 0 2 1 rfl rfl rfl rfl rfl (by kernel_rfl) ?_;refine hg ?_;exact StH.same svl rfl
   . exfalso;omega
   . exfalso;omega
   . have h4':zr7 k (yu4 (vp6 r 1)) (acc++[wfb (vp6 r 1)])=w5k s:=by
      rw [<-h4];simp only [*,xsw];rfl
     refine ⟨(k,yu4 (vp6 r 1),acc++[wfb (vp6 r 1)]),?_,?_,?_⟩
     . dsimp only;exact ⟨g1,g2,g3 _,h4'⟩
     . dsimp only;exact g4
     try rw [hmap (wfb (vp6 r 1))]
     refine StH.back [2,3,4,5] 0 2 1 rfl rfl rfl rfl rfl (by kernel_rfl) ?_;refine hg ?_;exact StH.same svl rfl
   . exact bad _ (by rw [<-h4];simp only [*];rfl) rfl
 . refine hg ?_;have he':decide (r.size=0)=true:=decide_eq_true (by omega);rw [he',cond_true] at h4;rw [<-h4];exact RLe.ofEq rfl
theorem zh1 (s:ByteArray) (hs:s.size<=1073741824):CallsD Γ prog 104 [.one (cS s)] (.tup [.agg (unO (xx7 s).1),.one (cI (xx7 s).2)]):=by
 refine CallsD.run [] Go.Proofs.Tryz.func104 rfl rfl rfl ?_;simp only [Go.Proofs.Tryz.f104];refine hgR ?_;refine wml (y8w s hs) ?_
 cases hi:w5k s with
 | none=>
  conv=>simp (maxSteps:=2000000) (disch:=omega) only [go_sem,Nat.reduceAdd,Nat.reduceSub,Nat.reduceMul,Int.reduceToNat,Nat.reduceEqDiff,Nat.reduceBEq,Nat.reduceBneDiff,Nat.reduceLT,Int.reduceEq,Int.reduceLT,Int.reduceLE,Int.reduceNeg,Int.reduceAdd,Int.reduceSub,Int.reduceMul,Option.isSome,itO]
  exact RLe.ofEq (by simp only [xx7,hi];rfl)
 | some l=>
  obtain ⟨hl,hx⟩:=v7b hi
  conv=>simp (maxSteps:=2000000) (disch:=omega) only [go_sem,Nat.reduceAdd,Nat.reduceSub,Nat.reduceMul,Int.reduceToNat,Nat.reduceEqDiff,Nat.reduceBEq,Nat.reduceBneDiff,Nat.reduceLT,Int.reduceEq,Int.reduceLT,Int.reduceLE,Int.reduceNeg,Int.reduceAdd,Int.reduceSub,Int.reduceMul,Option.isSome,itO]
  refine wml (qInt 1 (by decide)) ?_;refine hg ?_;refine x20 [2,6,23,24] (fun p:Nat×Un=>[(25,.one (.dat (cI p.1)))]) (fun p=>[.box (unZ.map .dat) (some 154),.box ((unC p.2).map .dat) (some 154)])
   (fun p=>p.1<=l.length/\p.2.d.le (27*p.1)/\qs p.2.f<=1+100*p.1/\xx0 (l.drop p.1) p.2=xx0 l ⟨Dm.zero,(1:Int)⟩) (fun p=>l.length-p.1) (0,⟨Dm.zero,(1:Int)⟩) ⟨Nat.zero_le _,by unfold Dm.le;decide,vvp,rfl⟩ ?_ ?_
  . refine hg ?_;exact StH.same svl rfl
  rintro ⟨i,u⟩ ⟨h1,h2,h3,h4⟩;simp only at h1 h2 h3 h4;refine hg ?_;refine vt2 (fun hlt _=>?_) (fun hlt _=>?_)
  . have hlt':i<l.length:=by omega
    have hok:=hx _ (y7p hlt');rw [xfc hlt',xx0] at h4;refine hg ?_;refine wml (yvj _ (by have:=hok.2.1;omega) hok.1) ?_
    cases hw:xle (l.getD i default).w with
    | none=>
     conv=>simp (maxSteps:=2000000) (disch:=omega) only [go_sem,Nat.reduceAdd,Nat.reduceSub,Nat.reduceMul,Int.reduceToNat,Nat.reduceEqDiff,Nat.reduceBEq,Nat.reduceBneDiff,Nat.reduceLT,Int.reduceEq,Int.reduceLT,Int.reduceLE,Int.reduceNeg,Int.reduceAdd,Int.reduceSub,Int.reduceMul,Option.isSome,unO]
     rw [hw] at h4;exact RLe.ofEq (by simp only [xx7,hi,<-h4])
    | some v=>
     obtain ⟨hv1,hv2,hv3⟩:=xie hw;rw [hw] at h4;obtain ⟨b1,b2,b3,b4,b5,b6⟩:=h2;obtain ⟨d1,d2,d3,d4,d5,d6⟩:=hv1;have he:=hok.2.2;have c1:=xs8 d1 he;have c2:=xs8 d2 he;have c3:=xs8 d3 he;have c4:=xs8 d4 he;have c5:=xs8 d5 he;have c6:=xs8 d6 he
     have hq:qs (vhc u.f v.f (l.getD i default).e)<=qs u.f+9*(qs v.f+1):=by
      have:=zcy u.f v.f (l.getD i default).e (l.getD i default).e.natAbs
      rw [<-zvw] at this;have h9:(l.getD i default).e.natAbs*(qs v.f+1)<=9*(qs v.f+1):=Nat.mul_le_mul_right _ (by omega);omega
     have hle:(u.d.acc v.d (l.getD i default).e).le (27*(i+1:Nat)):=by
      have:=Dm.z2x (x:=u.d) ⟨b1,b2,b3,b4,b5,b6⟩ ⟨d1,d2,d3,d4,d5,d6⟩ he
      rw [show (27*((i+1:Nat):Int))=27*i+27 from by omega];exact this
     conv=>simp (maxSteps:=2000000) (disch:=omega) only [go_sem,Nat.reduceAdd,Nat.reduceSub,Nat.reduceMul,Int.reduceToNat,Nat.reduceEqDiff,Nat.reduceBEq,Nat.reduceBneDiff,Nat.reduceLT,Int.reduceEq,Int.reduceLT,Int.reduceLE,Int.reduceNeg,Int.reduceAdd,Int.reduceSub,Int.reduceMul,Option.isSome,unO]
     repeat' ((first | refine hfk ?_ ?_<;>intros | refine hik ?_ | with_reducible refine v6k ?_ | with_reducible refine yp8 ?_ | with_reducible first | refine wml (x6q u.f v.f (l.getD i default).e (by omega) (by omega) (by omega) hv3) ?_ | refine ysj (x6q u.f v.f (l.getD i default).e (by omega) (by omega) (by omega) hv3) ?_)<;>refine hgS ?_)
     refine ⟨(i+1,⟨u.d.acc v.d (l.getD i default).e,vhc u.f v.f (l.getD i default).e⟩),?_,?_,?_⟩
     . dsimp only;exact ⟨by omega,hle,by omega,h4⟩
     . dsimp only;omega
     refine StH.back [2,6,23,24,25] 2 2 2 rfl rfl rfl rfl rfl (by kernel_rfl) ?_;refine hg ?_;exact StH.same svl rfl
  . have h4':xx0 l ⟨Dm.zero,(1:Int)⟩=some u:=by rw [<-h4,List.drop_eq_nil_of_le (by omega)];rfl
    refine hg ?_
    repeat' ((first | refine hfk ?_ ?_<;>intros | refine hik ?_ | with_reducible first | refine wml (wuc _) ?_ | refine ysj (wuc _) ?_)<;>refine hgS ?_)
    all_goals
     rename_i hd;exact RLe.ofEq (by simp only [xx7,hi,h4',hd];rfl)
def qF:Option Rat->Fc
 | none=>Fc.zero
 | some q=>Fc.of q
abbrev qC (v:Option Rat):List Cell:=[.raw (.int .i64 (qF v).s),.ints .i64 (qF v).L,.raw (.int .i64 (qF v).t),.ints .i64 (qF v).M]
abbrev qz (v:Option Rat):Nat:=(qF v).sz
theorem vvm {v:Option Rat}:(qF v).ok↔v.isSome=true:=by
 cases v with
 | none=>exact ⟨fun h=>absurd h Fc.x8i,fun h=>by cases h⟩
 | some q=>exact ⟨fun _=>rfl,fun _=>Fc.xd3 q⟩
theorem zr1 {f:Fc} (h:f.ok):∃ q,f=qF (some q):=Fc.vy4 h
def op2O (g:Rat->Rat->Rat) (a b:Option Rat):Option Rat:=match a,b with
 | some x,some y=>some (g x y)
 | _,_=>none
def erO (a b:Option Rat):Int:=bif a.isSome&&b.isSome then 0 else 1
def cmpO (a b:Option Rat):Int:=match a,b with
 | some x,some y=>Fc.ordQ x y
 | _,_=>0
def divO (a b:Option Rat):Option Rat:=match a,b with
 | some x,some y=>bif decide (y=0) then none else some (x / y)
 | _,_=>none
def divE (a b:Option Rat):Int:=match a,b with
 | some _,some y=>bif decide (y=0) then 15 else 0
 | _,_=>1
abbrev addO:=op2O (· + ·)
abbrev subO:=op2O (· - ·)
abbrev mulO:=op2O (· * ·)
abbrev minO:=op2O (fun x y=>min x y)
abbrev maxO:=op2O (fun x y=>max x y)
theorem ykr (g:Rat->Rat->Rat) (a b:Option Rat):Fc.op2 g (qF a) (qF b)=qF (op2O g a b):=by
 cases a with
 | none=>exact Fc.zod (fun h=>Fc.x8i h.1)
 | some x=>cases b with
  | none=>exact Fc.zod (fun h=>Fc.x8i h.2)
  | some y=>exact Fc.vu0 g x y
theorem vke (a b:Option Rat):Fc.er ((qF a).ok/\(qF b).ok)=erO a b:=by
 cases a with
 | none=>exact Fc.w7p (fun h=>Fc.x8i h.1)
 | some x=>cases b with
  | none=>exact Fc.w7p (fun h=>Fc.x8i h.2)
  | some y=>exact Fc.wop ⟨Fc.xd3 x,Fc.xd3 y⟩
theorem yvp (a b:Option Rat):Fc.cmp (qF a) (qF b)=cmpO a b:=by
 cases a with
 | none=>exact if_neg (fun h=>Fc.x8i h.1)
 | some x=>cases b with
  | none=>exact if_neg (fun h=>Fc.x8i h.2)
  | some y=>exact Fc.w7n x y
theorem yt8 (a b:Option Rat):-1<=cmpO a b/\cmpO a b<=1:=by rw [<-yvp];exact Fc.wa3 _ _
abbrev qR (v:Option Rat) (e:Int):AV:=.tup [.agg (qC v),.one (cI e)]
theorem oAdd (a b:Option Rat) (ha:qz a<=67108864) (hb:qz b<=67108864):CallsD Γ prog 21 [.agg (qC a),.agg (qC b)] (qR (addO a b) (erO a b)):=by
 have h:=toD (Γ:=Γ) (wza (qF a) (qF b) ha hb);rw [show Fc.add (qF a) (qF b)=_ from ykr _ a b,vke] at h;exact h
theorem oSub (a b:Option Rat) (ha:qz a<=67108864) (hb:qz b<=67108864):CallsD Γ prog 151 [.agg (qC a),.agg (qC b)] (qR (subO a b) (erO a b)):=by
 have h:=toD (Γ:=Γ) (yjd (qF a) (qF b) ha hb);rw [show Fc.sub (qF a) (qF b)=_ from ykr _ a b,vke] at h;exact h
theorem oMul (a b:Option Rat) (ha:qz a<=67108864) (hb:qz b<=67108864):CallsD Γ prog 23 [.agg (qC a),.agg (qC b)] (qR (mulO a b) (erO a b)):=by
 have h:=toD (Γ:=Γ) (zu5 (qF a) (qF b) ha hb);rw [show Fc.mul (qF a) (qF b)=_ from ykr _ a b,vke] at h;exact h
theorem oMax (a b:Option Rat) (ha:qz a<=67108864) (hb:qz b<=67108864):CallsD Γ prog 163 [.agg (qC a),.agg (qC b)] (qR (maxO a b) (erO a b)):=by
 have h:=toD (Γ:=Γ) (z9y (qF a) (qF b) ha hb);rw [show Fc.maxf (qF a) (qF b)=_ from ykr _ a b,vke] at h;exact h
theorem oCmp (a b:Option Rat) (ha:qz a<=67108864) (hb:qz b<=67108864):CallsD Γ prog 152 [.agg (qC a),.agg (qC b)] (.one (cI (cmpO a b))):=by
 have h:=toD (Γ:=Γ) (vwg (qF a) (qF b) ha hb);rw [yvp] at h;exact h
theorem wm4 (f:Fc) (h:f.sz<=268435456):CallsD Γ prog 19 [.agg f.C] (.one (cB (decide f.ok))):=toD (yg0 f h)
theorem w7o (v:Option Rat) (h:qz v<=268435456):CallsD Γ prog 19 [.agg (qC v)] (.one (cB v.isSome)):=by
 have h:=toD (Γ:=Γ) (yg0 (qF v) h)
 rw [show decide (qF v).ok=v.isSome by cases hv:v.isSome with
  | true=>exact decide_eq_true (vvm.2 hv)
  | false=>exact decide_eq_false (fun h=>by rw [vvm.1 h] at hv;cases hv)] at h
 exact h
theorem oInt (n:Int) (hn:inI n):CallsD Γ prog 12 [.one (cI n)] (.agg (qC (some (n:Rat)))):=toD (wma n hn)
theorem oMin (a b : Option Rat) (ha : qz a ≤ 67108864) (hb : qz b ≤ 67108864) : CallsD Γ prog 162 [.agg (qC a), .agg (qC b)] (qR (minO a b) (erO a b)) := by
 by_cases h:(qF a).ok/\(qF b).ok
 . obtain ⟨h1,h2⟩:=h
   cases a with
   | none=>exact absurd h1 Fc.x8i
   | some x=>cases b with
    | none=>exact absurd h2 Fc.x8i
    | some y=>
     have hE:=toD (Γ:=Γ) (x5s x y (-1) (by decide) ha hb)
     have e:(if Fc.ordQ x y*(-1)<0 then y else x)=min x y:=by
      rw [Rat.min_def]
      rcases Fc.yyv x y with ⟨h,e⟩ | ⟨h,e⟩ | ⟨h,e⟩<;>rw [e]
      . rw [if_neg (by decide),if_pos (Rat.le_of_lt h)]
      . rw [if_neg (by decide),if_pos (by rw [h];exact Rat.le_refl)]
      . rw [if_pos (by decide),if_neg (fun h'=>Rat.not_le.2 h h')]
     rw [e] at hE;have hE:CallsD Γ prog 213 [.agg (qC (some x)),.agg (qC (some y)),.one (cI (-1))] (qR (some (min x y)) 0):=hE;refine CallsD.run [] Go.Proofs.Tryz.func162 rfl rfl rfl ?_;simp only [Go.Proofs.Tryz.f162];refine hgR ?_
     repeat' ((first | refine hfk ?_ ?_<;>intros | refine hik ?_ | with_reducible first | refine hcA ?_ | refine hcB ?_)<;>refine hgS ?_)
     exact RLe.ofEq rfl
 . have hE:=toD (Γ:=Γ) (x59 (qF a) (qF b) (-1) h ha hb)
   have e1:minO a b=none/\erO a b=1:=by
    cases a with
    | none=>exact ⟨rfl,rfl⟩
    | some x=>cases b with
     | none=>exact ⟨rfl,rfl⟩
     | some y=>exact absurd ⟨Fc.xd3 x,Fc.xd3 y⟩ h
   rw [e1.1,e1.2];have hE:CallsD Γ prog 213 [.agg (qC a),.agg (qC b),.one (cI (-1))] (qR none 1):=hE;refine CallsD.run [] Go.Proofs.Tryz.func162 rfl rfl rfl ?_;simp only [Go.Proofs.Tryz.f162];refine hgR ?_
   repeat' ((first | refine hfk ?_ ?_<;>intros | refine hik ?_ | with_reducible first | refine hcA ?_ | refine hcB ?_)<;>refine hgS ?_)
   exact RLe.ofEq rfl
theorem x7m {y:Rat}:sg y.num=0↔y=0:=by
 constructor
 . intro h
   have:=vvv y.num
   exact Rat.num_eq_zero.1 (by omega)
 . rintro rfl;rfl
theorem zcz {e:Int}:RLe (.tup [.agg [cI 0,.zc,cI 0,.zc],.one (cI e)]) (qR none e):=.tup (.cons vtk (.cons (.refl _) .nil))
theorem oDiv (a b:Option Rat) (ha:qz a<=67108864) (hb:qz b<=67108864):CallsD Γ prog 150 [.agg (qC a),.agg (qC b)] (qR (divO a b) (divE a b)):=by
 cases a with
 | none=>
  have r1:CallsD Γ prog 19 [.agg (qC none)] (.one (cB false)):=w7o none (by omega);refine CallsD.run [] Go.Proofs.Tryz.func150 rfl rfl rfl ?_;simp only [Go.Proofs.Tryz.f150];refine hgR ?_
  repeat' ((first | refine hfk ?_ ?_<;>intros | refine hik ?_ | with_reducible first | refine hcA ?_ | refine hcB ?_)<;>refine hgS ?_)
  exact zcz
 | some x=>
  have r1:CallsD Γ prog 19 [.agg (qC (some x))] (.one (cB true)):=w7o (some x) (by omega)
  cases b with
  | none=>
   have r2:CallsD Γ prog 19 [.agg (qC none)] (.one (cB false)):=w7o none (by omega);refine CallsD.run [] Go.Proofs.Tryz.func150 rfl rfl rfl ?_;simp only [Go.Proofs.Tryz.f150];refine hgR ?_
   repeat' ((first | refine hfk ?_ ?_<;>intros | refine hik ?_ | with_reducible first | refine hcA ?_ | refine hcB ?_)<;>refine hgS ?_)
   exact zcz
  | some y=>
   have r2:CallsD Γ prog 19 [.agg (qC (some y))] (.one (cB true)):=w7o (some y) (by omega);by_cases hy:y=0
   . subst hy;have hs:(qF (some (0:Rat))).s=0:=rfl;have r2:CallsD Γ prog 19 [.agg [.raw (.int .i64 0),.ints .i64 (qF (some (0:Rat))).L,.raw (.int .i64 (qF (some (0:Rat))).t),.ints .i64 (qF (some (0:Rat))).M]] (.one (cB true)):=r2;refine CallsD.run [] Go.Proofs.Tryz.func150 rfl rfl rfl ?_;simp only [Go.Proofs.Tryz.f150];refine hgR ?_
     repeat' ((first | refine hfk ?_ ?_<;>intros | refine hik ?_ | with_reducible first | refine hcA ?_ | refine hcB ?_)<;>refine hgS ?_)
     exact zcz
   . have h:=qDiv (Γ:=Γ) x y hy ha hb;rw [show divO (some x) (some y)=some (x / y) by simp only [divO,hy,decide_false,cond_false],show divE (some x) (some y)=0 by simp only [divE,hy,decide_false,cond_false]];exact h
theorem vnk {g:Rat->Rat->Rat} {n:Nat} (h:∀ x y,qs (g x y)<=qs x+qs y+n) (a b:Option Rat):qz (op2O g a b)<=qz a+qz b+n:=by
 cases a with
 | none=>exact Nat.zero_le _
 | some x=>cases b with
  | none=>exact Nat.zero_le _
  | some y=>exact h x y
theorem yv3 (a b:Option Rat):qz (addO a b)<=qz a+qz b+1:=vnk Fc.v2c a b
theorem yde (a b:Option Rat):qz (subO a b)<=qz a+qz b+1:=vnk (fun x y=>by
 have:=Fc.v2c x (-y)
 rw [Fc.v82,<-Rat.sub_eq_add_neg] at this
 exact this) a b
theorem zcu (a b:Option Rat):qz (mulO a b)<=qz a+qz b:=vnk (n:=0) Fc.yob a b
theorem vvx (a b:Option Rat):qz (maxO a b)<=qz a+qz b:=vnk (n:=0) (fun x y=>by
 simp only [Rat.max_def]
 split<;>omega) a b
theorem yg2 (a b:Option Rat):qz (minO a b)<=qz a+qz b:=vnk (n:=0) (fun x y=>by
 simp only [Rat.min_def]
 split<;>omega) a b
theorem wzr (a b:Option Rat):qz (divO a b)<=qz a+qz b+1:=by
 cases a with
 | none=>exact Nat.zero_le _
 | some x=>cases b with
  | none=>exact Nat.zero_le _
  | some y=>
   show qz (bif decide (y=0) then none else some (x / y))<=_
   cases decide (y=0) with
   | true=>exact Nat.zero_le _
   | false=>exact x6h x y
theorem x10 {n:Int} (h:inI n):qz (some (n:Rat))<=4:=by
 have:=y6j (n:=n.natAbs) (by unfold inI at h;omega)
 have h1:=y6j (n:=1) (by omega);show max (dig ((n:Rat).num.natAbs)).length (dig (n:Rat).den).length<=4;rw [Rat.num_intCast,Rat.den_intCast];omega
theorem yko (s:ByteArray):CallsD Γ prog 79 [.one (cS s)] (.one (cB (isWord s))):=by
 refine CallsD.run [] Go.Proofs.Tryz.func79 rfl rfl rfl ?_;simp only [Go.Proofs.Tryz.f79];refine hgR ?_
 repeat' ((first | refine hfk ?_ ?_<;>intros | refine hik ?_)<;>refine hgS ?_)
 all_goals refine lf1 @isWord.eq_def ?_;first | exact trivial | rfl
theorem wqp (s:ByteArray) (hs:s.size<=1099511627776):CallsD Γ prog 196 [.one (cS s)] (.one (cB (isNamed s))):=by
 refine CallsD.run [] Go.Proofs.Tryz.func196 rfl rfl rfl ?_;simp only [Go.Proofs.Tryz.f196];refine hgR ?_
 repeat' ((first | refine hfk ?_ ?_<;>intros | refine hik ?_ | with_reducible first | refine wml (vfk s hs) ?_ | refine ysj (vfk s hs) ?_ | refine wml (yko s) ?_ | refine ysj (yko s) ?_)<;>refine hgS ?_)
 all_goals refine lf1 @isNamed.eq_def ?_;first | exact trivial | rfl
theorem yed (o:Int):CallsD Γ prog 197 [.one (cI o)] (.tup [.one (cS (y1g o)),.one (cB (isOp o))]):=by
 refine CallsD.run [] Go.Proofs.Tryz.func197 rfl rfl rfl ?_;simp only [Go.Proofs.Tryz.f197];refine hgR ?_
 repeat' ((first | refine hfk ?_ ?_<;>intros | refine hik ?_)<;>refine hgS ?_)
 all_goals refine lf2 @isOp.eq_def @y1g.eq_def ?_;first | exact trivial | rfl
theorem xp0 (x:Ex) (hx:x.Sm):CallsD Γ prog 138 [.agg (exC x)] (.one (cB (xer x))):=by
 have hu:=hx.u;have hs:=hx.s;have hl:=hx.len;obtain ⟨q,hq⟩:∃ q,CallsD Γ prog 195 [.one (cS x.unit)] (.tup [.one (cS q),.one (cB (yn7 x.unit))]):=yk6 x.unit (by omega);refine CallsD.run [] Go.Proofs.Tryz.func138 rfl rfl rfl ?_;simp only [Go.Proofs.Tryz.f138];refine hgR ?_
 repeat' ((first | refine hfk ?_ ?_<;>intros | refine hik ?_ | with_reducible first | refine hcA ?_ | refine hcB ?_ | refine wml (wqp x.name (by omega)) ?_ | refine ysj (wqp x.name (by omega)) ?_ | refine wml (yed _) ?_ | refine ysj (yed _) ?_)<;>refine hgS ?_)
 all_goals refine lf1 @xer.eq_def ?_;first | exact trivial | rfl
theorem v69 (l:List Ex) (f:FuncId) (p:Ex->Bool) (hl:l.length<=1073741824) (h:∀ y∈l,CallsD Γ prog f [.agg (exC y)] (.one (cB (p y)))) :
 CallsD Γ prog 139 [.one (.sl 5 (l.map Ex.cells)),fN f] (.one (cI (idxF p l))):=by
 refine CallsD.run [] Go.Proofs.Tryz.func139 rfl rfl rfl ?_;simp only [Go.Proofs.Tryz.f139];refine hgR ?_;refine x20 [0,1,7] (fun i:Nat=>[(8,.one (.dat (cI i)))]) (fun _=>[]) (fun i=>i<=l.length/\∀ j,j<i->p (l.getD j default)=false) (fun i=>l.length-i) 0 ⟨Nat.zero_le _,fun j hj=>by omega⟩ ?_ ?_
 . refine hg ?_;exact StH.same svl rfl
 intro i hi;obtain ⟨hi,hj⟩:=hi;refine hg ?_
 repeat' ((first | refine hfk ?_ ?_<;>intros | refine hik ?_ | with_reducible first | refine wml (h _ (y7p (show i<l.length by omega))) ?_ | refine ysj (h _ (y7p (show i<l.length by omega))) ?_)<;>refine hgS ?_)
 . rename_i hp;rw [(w7a hi hj).2 (by omega) hp];exact RLe.ofEq rfl
 . rename_i hp;refine ⟨i+1,⟨by omega,fun j hj'=>?_⟩,by omega,StH.same svl rfl⟩
   rcases Nat.lt_or_eq_of_le (Nat.le_of_lt_succ hj') with h2 | h2
   . exact hj j h2
   . rw [h2];exact hp
 . rw [(w7a hi hj).1 (by omega)];exact RLe.ofEq rfl
theorem vps (l:List Ex) (f:FuncId) (p:Ex->Bool) (hl:l.length<=1073741824) (h:∀ y∈l,CallsD Γ prog f [.agg (exC y)] (.one (cB (p y)))) :
 CallsD Γ prog 77 [.one (.sl 5 (l.map Ex.cells)),fN f] (.one (cB (l.any p))):=by
 refine CallsD.run [] Go.Proofs.Tryz.func77 rfl rfl rfl ?_;simp only [Go.Proofs.Tryz.f77];refine hgR ?_
 repeat' ((first | refine hfk ?_ ?_<;>intros | refine hik ?_ | with_reducible first | refine wml (v69 l f p hl h) ?_ | refine ysj (v69 l f p hl h) ?_)<;>refine hgS ?_)
 exact RLe.ofEq (by rw [<-z9z])
theorem znk:∀ x:Ex,x.Sm->CallsD Γ prog 76 [.agg (exC x)] (.one (cB x.shaped)):=by
 refine Ex.ind (fun x ih hx=>?_);have hl:=hx.len
 have hw:∀ y∈x.args,CallsD Γ prog 137 [.agg (exC y)] (.one (cB (!y.shaped))):=fun y hy=>by
  refine CallsD.run [] Go.Proofs.Tryz.func137 rfl rfl rfl ?_;simp only [Go.Proofs.Tryz.f137];refine hgR ?_
  repeat' ((first | refine hfk ?_ ?_<;>intros | refine hik ?_ | with_reducible first | refine wml (ih y hy (hx.arg y hy)) ?_ | refine ysj (ih y hy (hx.arg y hy)) ?_)<;>refine hgS ?_)
  exact RLe.ofEq rfl
 refine CallsD.run [] Go.Proofs.Tryz.func76 rfl rfl rfl ?_;simp only [Go.Proofs.Tryz.f76];refine hgR ?_
 repeat' ((first | refine hfk ?_ ?_<;>intros | refine hik ?_ | with_reducible first | refine wml (xp0 x hx) ?_ | refine ysj (xp0 x hx) ?_ | refine wml (vps x.args _ _ hl hw) ?_ | refine ysj (vps x.args _ _ hl hw) ?_)<;>refine hgS ?_)
 all_goals refine RLe.ofEq ?_
 . rename_i h;rw [Ex.ypb,h];simp [List.all_eq_not_any_not]
 . rename_i h;rw [Ex.ypb,h];rfl
abbrev nB (n:Int) (T:Option TypeId):SB:=.box [.dat (cI n)] T
theorem yas:∀ x:Ex,x.Sm->∀(n lv:Int) (T:Option TypeId),0<=n->n<=1000->0<=lv->lv<=1000->
 xpp Γ prog 75 [nB n T] [.agg ((exC x).map .dat),.one (.ptr 0 0),.one (.dat (cI lv))] [nB (x.cnt n lv).2 T] (.one (.dat (cB (x.cnt n lv).1))):=by
 refine Ex.ind (fun x ih hx n lv T h0 h1 h2 h3=>?_);have hl:=hx.len
 have fin:∀(b:Bool) (k:Int),x.cnt n lv=(b,k)->StH Γ [nB n T] [SV.one (.dat (cB b))] [nB k T,.box ((exC x).map .dat) (some 24)] [SV.one (.dat (cB (x.cnt n lv).1))] [nB (x.cnt n lv).2 T]:=fun b k h=>by
  rw [h];exact StH.done 1 rfl (by kernel_rfl) rfl rfl
 refine xpp.run [] Go.Proofs.Tryz.func75 rfl rfl ?_;simp only [Go.Proofs.Tryz.f75];refine hgR ?_
 repeat' ((first | refine hfk ?_ ?_<;>intros | refine hik ?_)<;>refine hgS ?_)
 . exact fin _ _ (by rw [Ex.yn2];simp only [*];rfl)
 . have e0:x.cnt n lv=Ex.cntL x.args (n+1) (lv+1):=by rw [Ex.yn2];simp only [*];rfl
   refine x20 [1,2,23,24] (fun p:Nat×Int=>[(25,.one (.dat (cI p.1)))]) (fun p=>[nB p.2 T,.box ((exC x).map .dat) (some 24)]) (fun p=>p.1<=x.args.length/\0<=p.2/\p.2<=200/\Ex.cntL (x.args.drop p.1) p.2 (lv+1)=Ex.cntL x.args (n+1) (lv+1)) (fun p=>x.args.length-p.1) (0,n+1) ⟨Nat.zero_le _,by simp only;omega,by simp only;omega,rfl⟩ ?_ ?_
   . refine hg ?_;exact StH.same svl rfl
   rintro ⟨i,m⟩ ⟨hi,hm0,hm1,hc⟩;simp only at hi hm0 hm1 hc;refine hg ?_;refine vt2 (fun hlt hd=>?_) (fun hlt _=>?_)
   . have hlt':i<x.args.length:=by omega
     have hy:=y7p hlt';rw [xfc hlt'] at hc;refine hg ?_;refine vvn [0] (ih _ hy (hx.arg _ hy) m (lv+1) T (by omega) (by omega) (by omega) (by omega)) rfl (by decide) rfl rfl rfl ?_;have hstep:=hc;rw [Ex.cntL] at hstep;generalize hr:(x.args.getD i default).cnt m (lv+1)=r at hstep ⊢;obtain ⟨b,k⟩:=r;refine hg ?_
     cases b with
     | true=>
      have hk:=Ex.xh3 _ _ _ _ hr;refine hg ?_;exact ⟨(i+1,k),⟨by simp only;omega,by simp only;omega,hk.2,hstep⟩,by simp only;omega,StH.back [1,2,23,24,25] 2 2 2 rfl rfl rfl rfl rfl (by kernel_rfl) (StH.same svl rfl)⟩
     | false=>
      refine hg ?_;rw [e0,<-hstep];exact StH.done 1 rfl (by kernel_rfl) rfl rfl
   . refine hg ?_;rw [e0,<-hc,List.drop_eq_nil_of_le (by omega),Ex.cntL];exact StH.done 1 rfl (by kernel_rfl) rfl rfl
 . exact fin _ _ (by rw [Ex.yn2];simp only [*];rfl)
theorem zfy (x:Ex) (hx:x.Sm):CallsD Γ prog 38 [.agg (exC x)] (.one (cB (zqs x))):=by
 refine CallsD.run [] Go.Proofs.Tryz.func38 rfl rfl rfl ?_;simp only [Go.Proofs.Tryz.f38];refine hgR ?_;refine vvn [1] (yas x hx 0 1 _ (by decide) (by decide) (by decide) (by decide)) rfl (by decide) rfl rfl rfl ?_;refine hg ?_
 repeat' ((first | refine hfk ?_ ?_<;>intros | refine hik ?_ | with_reducible first | refine wml (znk x hx) ?_ | refine ysj (znk x hx) ?_)<;>refine hgS ?_)
 all_goals refine lf1 @zqs.eq_def ?_;first | exact trivial | rfl
theorem cTIn (n:Int):CallsD Γ prog 143 [.one (cI n)] (.one (cB (inT n))):=by
 refine CallsD.run [] Go.Proofs.Tryz.func143 rfl rfl rfl ?_;simp only [Go.Proofs.Tryz.f143];refine hgR ?_
 repeat' ((first | refine hfk ?_ ?_<;>intros | refine hik ?_)<;>refine hgS ?_)
 all_goals refine lf1 @inT.eq_def ?_;first | exact trivial | rfl
theorem xmw (s:ByteArray) (hs:s.size<=1073741824):CallsD Γ prog 104 [.one (cS s)] (.tup [.agg (unX (xx7 s).1),.one (cI (xx7 s).2)]):=by
 have:=zh1 (Γ:=Γ) s hs
 rw [zwu] at this;exact this
theorem w8d (t:Tb) (h1:t.name.size<=1073741824) (h2:t.unit.size<=1073741824) (h3:t.rows.length<=1073741824):CallsD Γ prog 80 [.agg (tbC t)] (.one (cB (vgr (fun s=>(xx7 s).2) t))):=by
 refine CallsD.run [] Go.Proofs.Tryz.func80 rfl rfl rfl ?_;simp only [Go.Proofs.Tryz.f80];refine hgR ?_
 repeat' ((first | refine hfk ?_ ?_<;>intros | refine hik ?_ | with_reducible first | refine wml (xmw t.unit h2) ?_ | refine ysj (xmw t.unit h2) ?_ | refine wml (vfk t.name (by omega)) ?_ | refine ysj (vfk t.name (by omega)) ?_)<;>refine hgS ?_)
 . refine lf1 @vgr.eq_def ?_;first | exact trivial | rfl
 . refine x20 [1,28,29] (fun i:Nat=>[(30,.one (.dat (cI i)))]) (fun _=>[.box ((tbC t).map .dat) (some 115),.box ((unX (xx7 t.unit).1).map .dat) (some 154)]) (fun i=>i<=t.rows.length/\∀ j,j<i->rowAt t.rows j=true) (fun i=>t.rows.length-i) 0 ⟨Nat.zero_le _,fun j hj=>by omega⟩ ?_ ?_
   . refine hg ?_;exact StH.same svl rfl
   rintro i ⟨hi,hj⟩
   have hbad:rowAt t.rows i=false->i<t.rows.length->vgr (fun s=>(xx7 s).2) t=false:=fun h h'=>by
    unfold vgr wzj;rw [v76 h' h,Bool.and_false]
   refine hg ?_
   repeat' ((first | refine hfk ?_ ?_<;>intros | refine hik ?_ | with_reducible first | refine wml (cTIn _) ?_ | refine ysj (cTIn _) ?_)<;>refine hgS ?_)
   all_goals first
    | (rw [hbad (by (refine bs1 @rowAt.eq_def ?_;try exact trivial)) (by omega)];exact RLe.ofEq rfl)
    | (refine ⟨i+1,⟨by omega,xm4 hj (by (refine bs1 @rowAt.eq_def ?_;try exact trivial))⟩,by omega,StH.back [1,28,29,30] 2 2 2 rfl rfl rfl rfl rfl (by kernel_rfl) (StH.same svl rfl)⟩)
    | (refine RLe.ofEq ?_;rw [show vgr (fun s=>(xx7 s).2) t=true from by unfold vgr wzj;rw [y45 (fun j hj'=>hj j (by omega))];(refine bsE ?_;try exact trivial)])
 . refine lf1 @vgr.eq_def ?_;first | exact trivial | rfl
 . refine lf1 @vgr.eq_def ?_;first | exact trivial | rfl
def ydh (V:List (ByteArray×Dm)) (x:Ex):Ty×Int:=bif decide (x.op=1) then (match z2f V x.name with
 | none=>(Ty.zero,11)
 | some d=>(⟨false,d⟩,0)) else
 bif decide (¬(xx7 x.unit).2=0) then (Ty.zero,14) else (⟨false,dmO (xx7 x.unit).1⟩,0)
mutual
def Ex.ty (V T:List (ByteArray×Dm)):Ex->Ty×Int
 | .mk o n u s l=>bif decide ((l.length:Int)=0) then ydh V (.mk o n u s l) else
  match Ex.tyL V T l with
  | .inl e=>(Ty.zero,e)
  | .inr ts=>z0t T o s ts
def Ex.tyL (V T:List (ByteArray×Dm)):List Ex->Int ⊕ List Ty
 | []=>.inr []
 | y::l=>match Ex.ty V T y with
  | (t,e)=>bif decide (¬e=0) then .inl e else match Ex.tyL V T l with
   | .inl e=>.inl e
   | .inr ts=>.inr (t::ts)
end
end Go.Hp.T
