/- The proof, part Y23: Nd, Nb, Ih. -/
import Derived.Test.YtocdljjhobaabaaGreatDoorY18
import Derived.Test.YtocdljjhobaabaaGreatDoorY19
import Derived.Test.YtocdljjhobaabaaGreatDoorY22
namespace Go.Hp.T
open Go Go.RowKit Go.Slot Go.Hp Go.Slot.T
open Go.Proofs.Tryz (prog)
attribute [local irreducible] hide RH
set_option maxRecDepth 10000
set_option maxHeartbeats 4000000
variable {Γ:List (Nat×List Cell)}
theorem y7j (c:Int):CallsD Γ prog 107 [.one (c8 c)] (.one (cB (zlq c))):=by
 refine CallsD.run [] Go.Proofs.Tryz.func107 rfl rfl rfl ?_;simp only [Go.Proofs.Tryz.f107];refine hgR ?_
 repeat' ((first | refine hfk ?_ ?_<;>intros | refine hik ?_)<;>refine hgS ?_)
 all_goals refine lf1 @zlq.eq_def ?_;first | exact trivial | rfl
theorem xvc (b e p q:Int) (hb:b=0\/b=1\/b=2\/b=3\/b=4\/b=5) (hp:inI p) (hq:inI q) (hq0:q≠0):CallsD Γ prog 109 [.one (cI b),.one (cI e),.one (cI p),.one (cI q)] (.agg (unC (unOf b e p q))):=by
 rcases hb with rfl | rfl | rfl | rfl | rfl | rfl
 all_goals
  refine CallsD.run [] Go.Proofs.Tryz.func109 rfl rfl rfl ?_;simp only [Go.Proofs.Tryz.f109];refine hgR ?_
  repeat' ((first | refine hfk ?_ ?_<;>intros | refine hik ?_ | with_reducible first | refine v47 (qOf p q hp hq hq0) ?_ | refine vrf (qOf p q hp hq hq0) ?_)<;>refine hgS ?_)
  exact RLe.ofEq rfl
theorem v4q (s:ByteArray):CallsD Γ prog 83 [.one (cS s)] (.tup [.agg (unO (symF s)),.one (cB (symF s).isSome)]):=by
 have h1:=xvc (Γ:=Γ) 0 1 1 1 (by decide) (by decide) (by decide) (by decide);have h2:=xvc (Γ:=Γ) 0 1 1000000 1 (by decide) (by decide) (by decide) (by decide);have h3:=xvc (Γ:=Γ) 1 1 1 1 (by decide) (by decide) (by decide) (by decide);have h4:=xvc (Γ:=Γ) 1 3 1 1000 (by decide) (by decide) (by decide) (by decide);have h5:=xvc (Γ:=Γ) 2 1 1 1 (by decide) (by decide) (by decide) (by decide);have h6:=xvc (Γ:=Γ) 2 1 3600 1 (by decide) (by decide) (by decide) (by decide);have h7:=xvc (Γ:=Γ) 2 1 86400 1 (by decide) (by decide) (by decide) (by decide);have h8:=xvc (Γ:=Γ) 3 1 1 1 (by decide) (by decide) (by decide) (by decide);have h9:=xvc (Γ:=Γ) 3 1 3600 1 (by decide) (by decide) (by decide) (by decide);have h10:=xvc (Γ:=Γ) 4 1 1 1 (by decide) (by decide) (by decide) (by decide);have h11:=xvc (Γ:=Γ) 4 1 100 1 (by decide) (by decide) (by decide) (by decide);have h12:=xvc (Γ:=Γ) 5 1 1 1 (by decide) (by decide) (by decide) (by decide);refine CallsD.run [] Go.Proofs.Tryz.func83 rfl rfl rfl ?_;simp only [Go.Proofs.Tryz.f83];refine hgR ?_
 repeat' ((first | refine hfk ?_ ?_<;>intros | refine hik ?_ | with_reducible first | refine v47 (h1) ?_ | refine vrf (h1) ?_ | refine v47 (h2) ?_ | refine vrf (h2) ?_ | refine v47 (h3) ?_ | refine vrf (h3) ?_ | refine v47 (h4) ?_ | refine vrf (h4) ?_ | refine v47 (h5) ?_ | refine vrf (h5) ?_ | refine v47 (h6) ?_ | refine vrf (h6) ?_ | refine v47 (h7) ?_ | refine vrf (h7) ?_ | refine v47 (h8) ?_ | refine vrf (h8) ?_ | refine v47 (h9) ?_ | refine vrf (h9) ?_ | refine v47 (h10) ?_ | refine vrf (h10) ?_ | refine v47 (h11) ?_ | refine vrf (h11) ?_ | refine v47 (h12) ?_ | refine vrf (h12) ?_)<;>refine hgS ?_)
 all_goals (refine RLe.ofEq ?_;conv=>simp only [Bool.and_true,Bool.true_and,Bool.and_false,Bool.false_and,Bool.or_true,Bool.true_or,Bool.or_false,Bool.false_or,Bool.not_true,Bool.not_false,decide_true,decide_false,not_true_eq_false,not_false_eq_true,ztq,if_true,if_false,Bool.and_self,Bool.or_self,cond_true,cond_false,List.length_map,ne_eq,Int.reduceEq,Int.reduceLT,Int.reduceLE, *,symF,unO,Option.isSome]);first | exact trivial | rfl
theorem y2k (c:Int):CallsD Γ prog 84 [.one (c8 c)] (.tup [.one (cI (preO (preF c)).1),.one (cI (preO (preF c)).2),.one (cB (preF c).isSome)]):=by
 refine CallsD.run [] Go.Proofs.Tryz.func84 rfl rfl rfl ?_;simp only [Go.Proofs.Tryz.f84];refine hgR ?_
 repeat' ((first | refine hfk ?_ ?_<;>intros | refine hik ?_)<;>refine hgS ?_)
 all_goals (refine RLe.ofEq ?_;conv=>simp only [Bool.and_true,Bool.true_and,Bool.and_false,Bool.false_and,Bool.or_true,Bool.true_or,Bool.or_false,Bool.false_or,Bool.not_true,Bool.not_false,decide_true,decide_false,not_true_eq_false,not_false_eq_true,ztq,if_true,if_false,Bool.and_self,Bool.or_self,cond_true,cond_false,List.length_map,ne_eq,Int.reduceEq,Int.reduceLT,Int.reduceLE, *,preF,preO,Option.isSome]);first | exact trivial | rfl
theorem wd5 (s:ByteArray):CallsD Γ prog 85 [.one (cS s)] (.one (cB (x4p s))):=by
 refine CallsD.run [] Go.Proofs.Tryz.func85 rfl rfl rfl ?_;simp only [Go.Proofs.Tryz.f85];refine hgR ?_
 repeat' ((first | refine hfk ?_ ?_<;>intros | refine hik ?_)<;>refine hgS ?_)
 all_goals refine lf1 @x4p.eq_def ?_;first | exact trivial | rfl
theorem sExt (s:ByteArray) (i:Nat):s.extract 0 i=zlk s i:=rfl
theorem xig (s:ByteArray) (i:Nat):s.extract i s.size=ykb s i:=rfl
attribute [go_sem] sExt xig
theorem wep (s p:ByteArray) (_hs:s.size<=1073741824) (hp:p.size<=1073741824):CallsD Γ prog 135 [.one (cS s),.one (cS p)] (.one (cB (y8h s p))):=by
 refine CallsD.run [] Go.Proofs.Tryz.func135 rfl rfl rfl ?_;simp only [Go.Proofs.Tryz.f135];refine hgR ?_
 repeat' ((first | refine hfk ?_ ?_<;>intros | refine hik ?_)<;>refine hgS ?_)
 all_goals refine lf1 @y8h.eq_def ?_;first | exact trivial | rfl
theorem yx0 (s p:ByteArray) (hs:s.size<=1073741824) (hp:p.size<=1073741824):CallsD Γ prog 106 [.one (cS s),.one (cS p)] (.tup [.one (cS (bif y8h s p then ykb s p.size else s)),.one (cB (y8h s p))]):=by
 refine CallsD.run [] Go.Proofs.Tryz.func106 rfl rfl rfl ?_;simp only [Go.Proofs.Tryz.f106];refine hgR ?_;refine v47 (wep s p hs hp) ?_;refine hg ?_;refine z7k (fun h=>?_) (fun h=>?_)
 . refine hg ?_
   refine lfE ?_;first | exact trivial | rfl
 . have hle:p.size<=s.size:=by
    simp only [y8h,Bool.and_eq_true,decide_eq_true_eq] at h;omega
   refine hg ?_
   refine lfE ?_;first | exact trivial | rfl
theorem vlh (s p:ByteArray) (hs:s.size<=1073741824) (hp:p.size<=1073741824):CallsD Γ prog 80 [.one (cS s),.one (cS p)] (.tup [.one (cS (bif y8h s p then ykb s p.size else s)),.one (cB (y8h s p))]):=by
 refine CallsD.run [] Go.Proofs.Tryz.func80 rfl rfl rfl ?_;simp only [Go.Proofs.Tryz.f80];refine hgR ?_
 repeat' ((first | refine hfk ?_ ?_<;>intros | refine hik ?_ | with_reducible first | refine v47 (yx0 s p hs hp) ?_ | refine vrf (yx0 s p hs hp) ?_)<;>refine hgS ?_)
 all_goals refine lfE ?_;first | exact trivial | rfl
theorem cCut (s:ByteArray) (hs:s.size<=1073741824):CallsD Γ prog 81 [.one (cS s)] (.tup [.agg (itC (yqt s)),.one (cS (ynj s)),.one (cB (zoj s))]):=by
 refine CallsD.run [] Go.Proofs.Tryz.func81 rfl rfl rfl ?_;simp only [Go.Proofs.Tryz.f81];refine hgR ?_;refine yxw [0,2] (fun n:Nat=>[(5,.one (.dat (cI n)))]) (fun _=>[.box [.dat (cS ⟨⟨[]⟩⟩),.dat (cI 0)] (some 119)]) (fun n=>n<=s.size/\∀ j,j<n->zlq (w7f s j)=true) (fun n=>s.size-n) 0 ⟨Nat.zero_le _,fun j hj=>by omega⟩ ?_ ?_
 . refine hg ?_;exact StH.same svl rfl
 intro n hn;obtain ⟨hn,hj⟩:=hn;refine hg ?_;refine y6q (fun hlt hd=>?_) (fun hlt _=>?_)
 . refine hg1 @hd ?_;refine v47 (y7j _) ?_;refine hg ?_;refine x20 (fun h1=>?_) (fun h1=>?_)
   . refine hg ?_;refine ⟨n+1,⟨by omega,fun j hj'=>?_⟩,by omega,StH.same svl rfl⟩
     rcases Nat.lt_or_eq_of_le (Nat.le_of_lt_succ hj') with h2 | h2
     . exact hj j h2
     . rw [h2];exact h1
   . have hsp:=w9k hn hj (.inr h1);clear h1;refine hg ?_
     repeat' ((first | refine hfk ?_ ?_<;>intros | refine hik ?_)<;>refine hgS ?_)
     all_goals (refine RLe.ofEq ?_;conv=>simp only [Bool.and_true,Bool.true_and,Bool.and_false,Bool.false_and,Bool.or_true,Bool.true_or,Bool.or_false,Bool.false_or,Bool.not_true,Bool.not_false,decide_true,decide_false,not_true_eq_false,not_false_eq_true,ztq,if_true,if_false,Bool.and_self,Bool.or_self,cond_true,cond_false,List.length_map,ne_eq,Int.reduceEq,Int.reduceLT,Int.reduceLE, *,yqt,ynj,xrv,znz,zoj,hsp]);first | exact trivial | rfl
 . have hsp:=w9k hn hj (.inl (by omega));refine hgS ?_
   repeat' ((first | refine hfk ?_ ?_<;>intros | refine hik ?_)<;>refine hgS ?_)
   all_goals (refine RLe.ofEq ?_;conv=>simp only [Bool.and_true,Bool.true_and,Bool.and_false,Bool.false_and,Bool.or_true,Bool.true_or,Bool.or_false,Bool.false_or,Bool.not_true,Bool.not_false,decide_true,decide_false,not_true_eq_false,not_false_eq_true,ztq,if_true,if_false,Bool.and_self,Bool.or_self,cond_true,cond_false,List.length_map,ne_eq,Int.reduceEq,Int.reduceLT,Int.reduceLE, *,yqt,ynj,xrv,znz,zoj,hsp]);first | exact trivial | rfl
theorem x7e (s:ByteArray) (hs:s.size<=1073741824) (h1:1<=s.size):CallsD Γ prog 58 [.one (cS s)] (.tup [.agg (unO (zcl s)),.one (cB (zcl s).isSome)]):=by
 refine CallsD.run [] Go.Proofs.Tryz.func58 rfl rfl rfl ?_;simp only [Go.Proofs.Tryz.f58];refine hgR ?_;refine v47 (v4q s) ?_
 cases hy:symF s with
 | some u=>
  conv=>simp (maxSteps:=2000000) (disch:=omega) only [go_sem,Nat.reduceAdd,Nat.reduceSub,Nat.reduceMul,Int.reduceToNat,Nat.reduceEqDiff,Nat.reduceBEq,Nat.reduceBneDiff,Nat.reduceLT,Int.reduceEq,Int.reduceLT,Int.reduceLE,Int.reduceNeg,Int.reduceAdd,Int.reduceSub,Int.reduceMul,unO,Option.isSome]
  exact RLe.ofEq (by simp only [zcl,hy];rfl)
 | none=>
  conv=>simp (maxSteps:=2000000) (disch:=omega) only [go_sem,Nat.reduceAdd,Nat.reduceSub,Nat.reduceMul,Int.reduceToNat,Nat.reduceEqDiff,Nat.reduceBEq,Nat.reduceBneDiff,Nat.reduceLT,Int.reduceEq,Int.reduceLT,Int.reduceLE,Int.reduceNeg,Int.reduceAdd,Int.reduceSub,Int.reduceMul,unO,Option.isSome]
  refine v47 (y2k _) ?_;refine hg ?_;refine v47 (v4q _) ?_
  cases hp:preF (w7f s 0) with
  | none=>
   cases hy2:symF (ykb s 1)<;>
   . conv=>simp (maxSteps:=2000000) (disch:=omega) only [go_sem,Nat.reduceAdd,Nat.reduceSub,Nat.reduceMul,Int.reduceToNat,Nat.reduceEqDiff,Nat.reduceBEq,Nat.reduceBneDiff,Nat.reduceLT,Int.reduceEq,Int.reduceLT,Int.reduceLE,Int.reduceNeg,Int.reduceAdd,Int.reduceSub,Int.reduceMul,unO,Option.isSome]
     exact RLe.ofEq (by simp only [zcl,hy,hp];rfl)
  | some p=>
   cases hy2:symF (ykb s 1) with
   | none=>
    conv=>simp (maxSteps:=2000000) (disch:=omega) only [go_sem,Nat.reduceAdd,Nat.reduceSub,Nat.reduceMul,Int.reduceToNat,Nat.reduceEqDiff,Nat.reduceBEq,Nat.reduceBneDiff,Nat.reduceLT,Int.reduceEq,Int.reduceLT,Int.reduceLE,Int.reduceNeg,Int.reduceAdd,Int.reduceSub,Int.reduceMul,unO,Option.isSome]
    exact RLe.ofEq (by simp only [zcl,hy,hp,hy2];rfl)
   | some u=>
    obtain ⟨_,hu1,_⟩:=wi8 hy2;obtain ⟨hp1,hp2⟩:=y8o hp;obtain ⟨hf1,_⟩:=xuw hp1 hp2
    conv=>simp (maxSteps:=2000000) (disch:=omega) only [go_sem,Nat.reduceAdd,Nat.reduceSub,Nat.reduceMul,Int.reduceToNat,Nat.reduceEqDiff,Nat.reduceBEq,Nat.reduceBneDiff,Nat.reduceLT,Int.reduceEq,Int.reduceLT,Int.reduceLE,Int.reduceNeg,Int.reduceAdd,Int.reduceSub,Int.reduceMul,unO,Option.isSome,preO]
    repeat' ((first | refine hfk ?_ ?_<;>intros | refine hik ?_ | with_reducible first | refine v47 (wd5 _) ?_ | refine vrf (wd5 _) ?_ | refine v47 (qOf p.1 p.2 (by unfold inI;omega) (by unfold inI;omega) (by omega)) ?_ | refine vrf (qOf p.1 p.2 (by unfold inI;omega) (by unfold inI;omega) (by omega)) ?_ | refine v47 (qMul _ _ (Nat.le_trans hu1 (by decide)) (Nat.le_trans hf1 (by decide))) ?_ | refine vrf (qMul _ _ (Nat.le_trans hu1 (by decide)) (Nat.le_trans hf1 (by decide))) ?_)<;>refine hgS ?_)
    all_goals rename_i hq
    all_goals exact RLe.ofEq (by simp only [zcl,hy,hp,hy2,hq];rfl)
theorem xsw (a f:Rat) (x:Int) (hx:x.natAbs<=1000) (ha:qs a<=100000) (hf:qs f<=1000) (hf0:f≠0):CallsD Γ prog 59 [.agg (fQ a),.agg (fQ f),.one (cI x)] (.agg (fQ (vfa a f x))):=by
 refine CallsD.run [] Go.Proofs.Tryz.func59 rfl rfl rfl ?_;simp only [Go.Proofs.Tryz.f59];refine hgR ?_;refine yxw [2,3,4,6,10] (fun i:Nat=>[(11,.one (.dat (cI i)))]) (fun i=>[.box ((fQ (pw a f x i)).map .dat) (some 87),.box ((fQ f).map .dat) (some 87),.box [.dat (cI 0),.dat .zc,.dat (cI 0),.dat .zc] (some 87)]) (fun i=>i<=x.natAbs) (fun i=>x.natAbs-i) 0 (Nat.zero_le _) ?_ ?_
 . refine hg ?_;exact StH.same svl (by rw [zq6])
 intro i hi;have hq:=xz4 a f x i;have hm:i*(qs f+1)<=1000*1001:=Nat.mul_le_mul (by omega) (by omega);refine hg ?_;refine xw4 (fun hlt _=>?_) (fun hlt _=>?_)
 . refine hg ?_;refine xw4 (fun hp hd=>?_) (fun hp hd=>?_)
   . refine hg ?_;refine v47 (qMul (pw a f x i) f (by omega) (by omega)) ?_;refine hg ?_;exact ⟨i+1,by omega,by omega,StH.same svl (by rw [zh1 hp])⟩
   . refine hg ?_;refine v47 (qDiv (pw a f x i) f hf0 (by omega) (by omega)) ?_;refine hg ?_;exact ⟨i+1,by omega,by omega,StH.same svl (by rw [xhn hp])⟩
 . refine hg ?_
   have e:i=x.natAbs:=by omega
   subst e;exact RLe.ofEq rfl
theorem zne (s:ByteArray) (hs:s.size<=1073741824):CallsD Γ prog 56 [.one (cS s)] (.tup [.one (.sl 2 ((itO (wsh s)).map It.C)),.one (cB (wsh s).isSome)]):=by
 have bad:∀ b,wsh s=none->b=false->RLe (.tup [.one (.raw (.slice none 0 0)),.one (cB b)]) (.tup [.one (.sl 2 ((itO (wsh s)).map It.C)),.one (cB (wsh s).isSome)]):=fun b h hb=>by
  rw [h,hb];exact .tup (.cons (.one (.nilSl 2)) (.cons (.refl _) .nil))
 refine CallsD.run [(9,[.join])] Go.Proofs.Tryz.func56 rfl rfl rfl ?_;simp only [Go.Proofs.Tryz.f56];refine hgR ?_
 repeat' ((first | refine hfk ?_ ?_<;>intros | refine hik ?_)<;>refine hgS ?_)
 . exact .tup (.cons (.one (by rename_i h;simp only [wsh,h];exact .nilSl 2)) (.cons (by rename_i h;simp only [wsh,h];exact .refl _) .nil))
 . refine bad _ (by simp only [wsh, *];rfl) rfl
 refine v47 (vlh _ _ hs (by decide)) ?_;refine hgS ?_;refine z1o [2,3,4] (fun r:ByteArray=>[(5,.one (.dat (cS r)))]) (fun _=>[]) (fun r=>r=xp0 s) ?_ ?_
 . refine hg ?_;refine z7k (fun h=>?_) (fun h=>?_)
   . refine hg ?_;refine ⟨_,rfl,?_⟩;simp only [xp0,h];exact StH.same svl rfl
   . refine hg ?_;refine ⟨_,rfl,?_⟩;simp only [xp0,h];exact StH.same svl rfl
 intro r0 hr0
 have h0:wsh s=yn7 (s.size+2) r0 []:=by simp only [wsh, *];rfl
 have hsz:r0.size<=s.size+1:=by
  rw [hr0];unfold xp0;have h42:(⟨#[42]⟩:ByteArray).size=1:=rfl
  cases y8h s ⟨#[49]⟩
  . simp only [cond_false,ByteArray.size_append];omega
  . simp only [cond_true,wco];omega
 clear hr0;refine hg ?_;refine yxw [2,3] (fun p:Nat×ByteArray×List It=>[(4,.one (.sl 0 2 0 p.2.2.length)),(5,.one (.dat (cS p.2.1)))]) (fun p=>[.arr (.sl 2 (p.2.2.map It.C)) 0 (some 119)])
  (fun p=>p.2.1.size<p.1/\p.2.1.size<=1073741824/\p.2.2.length+p.2.1.size<=100/\yn7 p.1 p.2.1 p.2.2=wsh s) (fun p=>p.2.1.size) (s.size+2,r0,[]) ⟨by simp only;omega,by simp only;omega,by simp only [List.length_nil];omega,h0.symm⟩ ?_ ?_
 . refine hg ?_;refine StH.trans (StH.empty (d:=4) (es:=2) (c:=.sl 2 []) (T:=some 119) rfl rfl (fun r hr=>by cases hr) rfl) ?_;refine hg ?_;exact StH.same svl rfl
 rintro ⟨k,r,acc⟩ ⟨h1,h2,h3,h4⟩;simp only at h1 h2 h3 h4;clear h0 hsz;obtain ⟨k,rfl⟩:∃ m,k=m+1:=⟨k-1,by omega⟩;rw [yn7] at h4;refine hg ?_;refine xw4 (fun hne _=>?_) (fun he _=>?_)
 . have hne':=decide_eq_false hne;rw [hne',cond_false] at h4;have hd':=wco r 1;refine hg ?_;have hcs:=vvm (ykb r 1);have hce:=xp1 (ykb r 1);rw [hd'] at hcs;refine v47 (cCut (ykb r 1) (by rw [hd'];omega)) ?_;refine hg ?_
   have g1:(ynj (ykb r 1)).size<k:=by omega
   have g2:(ynj (ykb r 1)).size<=1073741824:=by omega
   have g3:∀ x:It,(acc++[x]).length+(ynj (ykb r 1)).size<=100:=fun x=>by rw [List.length_append,List.length_singleton];omega
   have g4:(ynj (ykb r 1)).size<r.size:=by omega
   have hmap:∀ x:It,acc.map It.C++[itC x]=(acc++[x]).map It.C:=fun x=>by simp;rfl
   repeat' ((first | refine hfk ?_ ?_<;>intros | refine hik ?_)<;>refine hgS ?_)
   . exact bad _ (by rw [<-h4];simp only [*];rfl) rfl
   . rename_i h47 _
     have h4':yn7 k (ynj (ykb r 1)) (acc++[⟨(yqt (ykb r 1)).w,0-(yqt (ykb r 1)).e⟩])=wsh s:=by
      rw [<-h4];simp only [*,vsy];rfl
     refine ⟨(k,ynj (ykb r 1),acc++[⟨(yqt (ykb r 1)).w,0-(yqt (ykb r 1)).e⟩]),?_,?_,?_⟩
     . dsimp only;exact ⟨g1,g2,g3 _,h4'⟩
     . dsimp only;exact g4
     rw [hmap ⟨(yqt (ykb r 1)).w,0-(yqt (ykb r 1)).e⟩];refine StH.back [2,3,4,5] 0 2 1 rfl rfl rfl rfl rfl (by kernel_rfl) ?_;refine hg ?_;exact StH.same svl rfl
   . exfalso;omega
   . exfalso;omega
   . have h4':yn7 k (ynj (ykb r 1)) (acc++[yqt (ykb r 1)])=wsh s:=by
      rw [<-h4];simp only [*,vsy];rfl
     refine ⟨(k,ynj (ykb r 1),acc++[yqt (ykb r 1)]),?_,?_,?_⟩
     . dsimp only;exact ⟨g1,g2,g3 _,h4'⟩
     . dsimp only;exact g4
     try rw [hmap (yqt (ykb r 1))]
     refine StH.back [2,3,4,5] 0 2 1 rfl rfl rfl rfl rfl (by kernel_rfl) ?_;refine hg ?_;exact StH.same svl rfl
   . exact bad _ (by rw [<-h4];simp only [*];rfl) rfl
 . refine hg ?_;have he':decide (r.size=0)=true:=decide_eq_true (by omega);rw [he',cond_true] at h4;rw [<-h4];exact RLe.ofEq rfl
theorem yhd (s:ByteArray) (hs:s.size<=1073741824):CallsD Γ prog 34 [.one (cS s)] (.tup [.agg (unO (whw s).1),.one (cI (whw s).2)]):=by
 refine CallsD.run [] Go.Proofs.Tryz.func34 rfl rfl rfl ?_;simp only [Go.Proofs.Tryz.f34];refine hgR ?_;refine v47 (zne s hs) ?_
 cases hi:wsh s with
 | none=>
  conv=>simp (maxSteps:=2000000) (disch:=omega) only [go_sem,Nat.reduceAdd,Nat.reduceSub,Nat.reduceMul,Int.reduceToNat,Nat.reduceEqDiff,Nat.reduceBEq,Nat.reduceBneDiff,Nat.reduceLT,Int.reduceEq,Int.reduceLT,Int.reduceLE,Int.reduceNeg,Int.reduceAdd,Int.reduceSub,Int.reduceMul,Option.isSome,itO]
  exact RLe.ofEq (by simp only [whw,hi];rfl)
 | some l=>
  obtain ⟨hl,hx⟩:=y16 hi
  conv=>simp (maxSteps:=2000000) (disch:=omega) only [go_sem,Nat.reduceAdd,Nat.reduceSub,Nat.reduceMul,Int.reduceToNat,Nat.reduceEqDiff,Nat.reduceBEq,Nat.reduceBneDiff,Nat.reduceLT,Int.reduceEq,Int.reduceLT,Int.reduceLE,Int.reduceNeg,Int.reduceAdd,Int.reduceSub,Int.reduceMul,Option.isSome,itO]
  refine v47 (qInt 1 (by decide)) ?_;refine hg ?_;refine yxw [2,6,23,24] (fun p:Nat×Un=>[(25,.one (.dat (cI p.1)))]) (fun p=>[.box (unZ.map .dat) (some 89),.box ((unC p.2).map .dat) (some 89)])
   (fun p=>p.1<=l.length/\p.2.d.le (27*p.1)/\qs p.2.f<=1+100*p.1/\v0e (l.drop p.1) p.2=v0e l ⟨Dm.zero,(1:Int)⟩) (fun p=>l.length-p.1) (0,⟨Dm.zero,(1:Int)⟩) ⟨Nat.zero_le _,by unfold Dm.le;decide,xfh,rfl⟩ ?_ ?_
  . refine hg ?_;exact StH.same svl rfl
  rintro ⟨i,u⟩ ⟨h1,h2,h3,h4⟩;simp only at h1 h2 h3 h4;refine hg ?_;refine xw4 (fun hlt _=>?_) (fun hlt _=>?_)
  . have hlt':i<l.length:=by omega
    have hok:=hx _ (xdq hlt');rw [wde hlt',v0e] at h4;refine hg ?_;refine v47 (x7e _ (by have:=hok.2.1;omega) hok.1) ?_
    cases hw:zcl (l.getD i default).w with
    | none=>
     conv=>simp (maxSteps:=2000000) (disch:=omega) only [go_sem,Nat.reduceAdd,Nat.reduceSub,Nat.reduceMul,Int.reduceToNat,Nat.reduceEqDiff,Nat.reduceBEq,Nat.reduceBneDiff,Nat.reduceLT,Int.reduceEq,Int.reduceLT,Int.reduceLE,Int.reduceNeg,Int.reduceAdd,Int.reduceSub,Int.reduceMul,Option.isSome,unO]
     rw [hw] at h4;exact RLe.ofEq (by simp only [whw,hi,<-h4])
    | some v=>
     obtain ⟨hv1,hv2,hv3⟩:=xmf hw;rw [hw] at h4;obtain ⟨b1,b2,b3,b4,b5,b6⟩:=h2;obtain ⟨d1,d2,d3,d4,d5,d6⟩:=hv1;have he:=hok.2.2;have c1:=yj7 d1 he;have c2:=yj7 d2 he;have c3:=yj7 d3 he;have c4:=yj7 d4 he;have c5:=yj7 d5 he;have c6:=yj7 d6 he
     have hq:qs (vfa u.f v.f (l.getD i default).e)<=qs u.f+9*(qs v.f+1):=by
      have:=xz4 u.f v.f (l.getD i default).e (l.getD i default).e.natAbs
      rw [<-y9h] at this;have h9:(l.getD i default).e.natAbs*(qs v.f+1)<=9*(qs v.f+1):=Nat.mul_le_mul_right _ (by omega);omega
     have hle:(u.d.acc v.d (l.getD i default).e).le (27*(i+1:Nat)):=by
      have:=Dm.vo7 (x:=u.d) ⟨b1,b2,b3,b4,b5,b6⟩ ⟨d1,d2,d3,d4,d5,d6⟩ he
      rw [show (27*((i+1:Nat):Int))=27*i+27 from by omega];exact this
     conv=>simp (maxSteps:=2000000) (disch:=omega) only [go_sem,Nat.reduceAdd,Nat.reduceSub,Nat.reduceMul,Int.reduceToNat,Nat.reduceEqDiff,Nat.reduceBEq,Nat.reduceBneDiff,Nat.reduceLT,Int.reduceEq,Int.reduceLT,Int.reduceLE,Int.reduceNeg,Int.reduceAdd,Int.reduceSub,Int.reduceMul,Option.isSome,unO]
     repeat' ((first | refine hfk ?_ ?_<;>intros | refine hik ?_ | with_reducible refine z7r ?_ | with_reducible refine wd2 ?_ | with_reducible first | refine v47 (xsw u.f v.f (l.getD i default).e (by omega) (by omega) (by omega) hv3) ?_ | refine vrf (xsw u.f v.f (l.getD i default).e (by omega) (by omega) (by omega) hv3) ?_)<;>refine hgS ?_)
     refine ⟨(i+1,⟨u.d.acc v.d (l.getD i default).e,vfa u.f v.f (l.getD i default).e⟩),?_,?_,?_⟩
     . dsimp only;exact ⟨by omega,hle,by omega,h4⟩
     . dsimp only;omega
     refine StH.back [2,6,23,24,25] 2 2 2 rfl rfl rfl rfl rfl (by kernel_rfl) ?_;refine hg ?_;exact StH.same svl rfl
  . have h4':v0e l ⟨Dm.zero,(1:Int)⟩=some u:=by rw [<-h4,List.drop_eq_nil_of_le (by omega)];rfl
    refine hg ?_
    repeat' ((first | refine hfk ?_ ?_<;>intros | refine hik ?_ | with_reducible first | refine v47 (yu2 _) ?_ | refine vrf (yu2 _) ?_)<;>refine hgS ?_)
    all_goals
     rename_i hd;exact RLe.ofEq (by simp only [whw,hi,h4',hd];rfl)
theorem xvd (s:ByteArray):CallsD Γ prog 62 [.one (cS s)] (.one (cB (isWord s))):=by
 refine CallsD.run [] Go.Proofs.Tryz.func62 rfl rfl rfl ?_;simp only [Go.Proofs.Tryz.f62];refine hgR ?_
 repeat' ((first | refine hfk ?_ ?_<;>intros | refine hik ?_)<;>refine hgS ?_)
 all_goals refine lf1 @isWord.eq_def ?_;first | exact trivial | rfl
theorem vno (s:ByteArray) (hs:s.size<=1099511627776):CallsD Γ prog 74 [.one (cS s)] (.one (cB (isNamed s))):=by
 refine CallsD.run [] Go.Proofs.Tryz.func74 rfl rfl rfl ?_;simp only [Go.Proofs.Tryz.f74];refine hgR ?_
 repeat' ((first | refine hfk ?_ ?_<;>intros | refine hik ?_ | with_reducible first | refine v47 (wam s hs) ?_ | refine vrf (wam s hs) ?_ | refine v47 (xvd s) ?_ | refine vrf (xvd s) ?_)<;>refine hgS ?_)
 all_goals refine lf1 @isNamed.eq_def ?_;first | exact trivial | rfl
theorem y4o (o:Int):CallsD Γ prog 75 [.one (cI o)] (.tup [.one (cS (xeq o)),.one (cB (isOp o))]):=by
 refine CallsD.run [] Go.Proofs.Tryz.func75 rfl rfl rfl ?_;simp only [Go.Proofs.Tryz.f75];refine hgR ?_
 repeat' ((first | refine hfk ?_ ?_<;>intros | refine hik ?_)<;>refine hgS ?_)
 all_goals refine lf2 @isOp.eq_def @xeq.eq_def ?_;first | exact trivial | rfl
theorem v81 (x:Ex) (hx:x.Sm):CallsD Γ prog 49 [.agg (exC x)] (.one (cB (w7g x))):=by
 have hu:=hx.u;have hs:=hx.s;have hl:=hx.len;obtain ⟨q,hq⟩:∃ q,CallsD Γ prog 73 [.one (cS x.unit)] (.tup [.one (cS q),.one (cB (x6w x.unit))]):=ytc x.unit (by omega);refine CallsD.run [] Go.Proofs.Tryz.func49 rfl rfl rfl ?_;simp only [Go.Proofs.Tryz.f49];refine hgR ?_
 repeat' ((first | refine hfk ?_ ?_<;>intros | refine hik ?_ | with_reducible first | refine v47 (hq) ?_ | refine vrf (hq) ?_ | refine v47 (vno x.name (by omega)) ?_ | refine vrf (vno x.name (by omega)) ?_ | refine v47 (y4o _) ?_ | refine vrf (y4o _) ?_)<;>refine hgS ?_)
 all_goals refine lf1 @w7g.eq_def ?_;first | exact trivial | rfl
theorem yto (l:List Ex) (f:FuncId) (p:Ex->Bool) (hl:l.length<=1073741824) (h:∀ y∈l,CallsD Γ prog f [.agg (exC y)] (.one (cB (p y)))) :
 CallsD Γ prog 70 [.one (.sl 5 (l.map Ex.cells)),fN f] (.one (cI (idxF p l))):=by
 refine CallsD.run [] Go.Proofs.Tryz.func70 rfl rfl rfl ?_;simp only [Go.Proofs.Tryz.f70];refine hgR ?_;refine yxw [0,1,7] (fun i:Nat=>[(8,.one (.dat (cI i)))]) (fun _=>[]) (fun i=>i<=l.length/\∀ j,j<i->p (l.getD j default)=false) (fun i=>l.length-i) 0 ⟨Nat.zero_le _,fun j hj=>by omega⟩ ?_ ?_
 . refine hg ?_;exact StH.same svl rfl
 intro i hi;obtain ⟨hi,hj⟩:=hi;refine hg ?_
 repeat' ((first | refine hfk ?_ ?_<;>intros | refine hik ?_ | with_reducible first | refine v47 (h _ (xdq (show i<l.length by omega))) ?_ | refine vrf (h _ (xdq (show i<l.length by omega))) ?_)<;>refine hgS ?_)
 . rename_i hp;rw [(xjj hi hj).2 (by omega) hp];exact RLe.ofEq rfl
 . rename_i hp;refine ⟨i+1,⟨by omega,fun j hj'=>?_⟩,by omega,StH.same svl rfl⟩
   rcases Nat.lt_or_eq_of_le (Nat.le_of_lt_succ hj') with h2 | h2
   . exact hj j h2
   . rw [h2];exact hp
 . rw [(xjj hi hj).1 (by omega)];exact RLe.ofEq rfl
theorem yaw (l:List Ex) (f:FuncId) (p:Ex->Bool) (hl:l.length<=1073741824) (h:∀ y∈l,CallsD Γ prog f [.agg (exC y)] (.one (cB (p y)))) :
 CallsD Γ prog 40 [.one (.sl 5 (l.map Ex.cells)),fN f] (.one (cB (l.any p))):=by
 refine CallsD.run [] Go.Proofs.Tryz.func40 rfl rfl rfl ?_;simp only [Go.Proofs.Tryz.f40];refine hgR ?_
 repeat' ((first | refine hfk ?_ ?_<;>intros | refine hik ?_ | with_reducible first | refine v47 (yto l f p hl h) ?_ | refine vrf (yto l f p hl h) ?_)<;>refine hgS ?_)
 exact RLe.ofEq (by rw [<-z1b])
theorem zlj:∀ x:Ex,x.Sm->CallsD Γ prog 30 [.agg (exC x)] (.one (cB x.shaped)):=by
 refine Ex.ind (fun x ih hx=>?_);have hl:=hx.len
 have hw:∀ y∈x.args,CallsD Γ prog 48 [.agg (exC y)] (.one (cB (!y.shaped))):=fun y hy=>by
  refine CallsD.run [] Go.Proofs.Tryz.func48 rfl rfl rfl ?_;simp only [Go.Proofs.Tryz.f48];refine hgR ?_
  repeat' ((first | refine hfk ?_ ?_<;>intros | refine hik ?_ | with_reducible first | refine v47 (ih y hy (hx.arg y hy)) ?_ | refine vrf (ih y hy (hx.arg y hy)) ?_)<;>refine hgS ?_)
  exact RLe.ofEq rfl
 refine CallsD.run [] Go.Proofs.Tryz.func30 rfl rfl rfl ?_;simp only [Go.Proofs.Tryz.f30];refine hgR ?_
 repeat' ((first | refine hfk ?_ ?_<;>intros | refine hik ?_ | with_reducible first | refine v47 (v81 x hx) ?_ | refine vrf (v81 x hx) ?_ | refine v47 (yaw x.args _ _ hl hw) ?_ | refine vrf (yaw x.args _ _ hl hw) ?_)<;>refine hgS ?_)
 all_goals refine RLe.ofEq ?_
 . rename_i h;rw [Ex.vjs,h];simp [List.all_eq_not_any_not]
 . rename_i h;rw [Ex.vjs,h];rfl
abbrev nB (n:Int) (T:Option TypeId):SB:=.box [.dat (cI n)] T
theorem z6c:∀ x:Ex,x.Sm->∀(n lv:Int) (T:Option TypeId),0<=n->n<=1000->0<=lv->lv<=1000->
 xgj Γ prog 29 [nB n T] [.agg ((exC x).map .dat),.one (.ptr 0 0),.one (.dat (cI lv))] [nB (x.cnt n lv).2 T] (.one (.dat (cB (x.cnt n lv).1))):=by
 refine Ex.ind (fun x ih hx n lv T h0 h1 h2 h3=>?_);have hl:=hx.len
 have fin:∀(b:Bool) (k:Int),x.cnt n lv=(b,k)->StH Γ [nB n T] [SV.one (.dat (cB b))] [nB k T,.box ((exC x).map .dat) (some 25)] [SV.one (.dat (cB (x.cnt n lv).1))] [nB (x.cnt n lv).2 T]:=fun b k h=>by
  rw [h];exact StH.done 1 rfl (by kernel_rfl) rfl rfl
 refine xgj.run [] Go.Proofs.Tryz.func29 rfl rfl ?_;simp only [Go.Proofs.Tryz.f29];refine hgR ?_
 repeat' ((first | refine hfk ?_ ?_<;>intros | refine hik ?_)<;>refine hgS ?_)
 . exact fin _ _ (by rw [Ex.zl2];simp only [*];rfl)
 . have e0:x.cnt n lv=Ex.cntL x.args (n+1) (lv+1):=by rw [Ex.zl2];simp only [*];rfl
   refine yxw [1,2,23,24] (fun p:Nat×Int=>[(25,.one (.dat (cI p.1)))]) (fun p=>[nB p.2 T,.box ((exC x).map .dat) (some 25)]) (fun p=>p.1<=x.args.length/\0<=p.2/\p.2<=200/\Ex.cntL (x.args.drop p.1) p.2 (lv+1)=Ex.cntL x.args (n+1) (lv+1)) (fun p=>x.args.length-p.1) (0,n+1) ⟨Nat.zero_le _,by simp only;omega,by simp only;omega,rfl⟩ ?_ ?_
   . refine hg ?_;exact StH.same svl rfl
   rintro ⟨i,m⟩ ⟨hi,hm0,hm1,hc⟩;simp only at hi hm0 hm1 hc;refine hg ?_;refine xw4 (fun hlt hd=>?_) (fun hlt _=>?_)
   . have hlt':i<x.args.length:=by omega
     have hy:=xdq hlt';rw [wde hlt'] at hc;refine hg ?_;refine xmn [0] (ih _ hy (hx.arg _ hy) m (lv+1) T (by omega) (by omega) (by omega) (by omega)) rfl (by decide) rfl rfl rfl ?_;have hstep:=hc;rw [Ex.cntL] at hstep;generalize hr:(x.args.getD i default).cnt m (lv+1)=r at hstep ⊢;obtain ⟨b,k⟩:=r;refine hg ?_
     cases b with
     | true=>
      have hk:=Ex.zeu _ _ _ _ hr;refine hg ?_;exact ⟨(i+1,k),⟨by simp only;omega,by simp only;omega,hk.2,hstep⟩,by simp only;omega,StH.back [1,2,23,24,25] 2 2 2 rfl rfl rfl rfl rfl (by kernel_rfl) (StH.same svl rfl)⟩
     | false=>
      refine hg ?_;rw [e0,<-hstep];exact StH.done 1 rfl (by kernel_rfl) rfl rfl
   . refine hg ?_;rw [e0,<-hc,List.drop_eq_nil_of_le (by omega),Ex.cntL];exact StH.done 1 rfl (by kernel_rfl) rfl rfl
 . exact fin _ _ (by rw [Ex.zl2];simp only [*];rfl)
theorem x22 (x:Ex) (hx:x.Sm):CallsD Γ prog 13 [.agg (exC x)] (.one (cB (z7n x))):=by
 refine CallsD.run [] Go.Proofs.Tryz.func13 rfl rfl rfl ?_;simp only [Go.Proofs.Tryz.f13];refine hgR ?_;refine xmn [1] (z6c x hx 0 1 _ (by decide) (by decide) (by decide) (by decide)) rfl (by decide) rfl rfl rfl ?_;refine hg ?_
 repeat' ((first | refine hfk ?_ ?_<;>intros | refine hik ?_ | with_reducible first | refine v47 (zlj x hx) ?_ | refine vrf (zlj x hx) ?_)<;>refine hgS ?_)
 all_goals refine lf1 @z7n.eq_def ?_;first | exact trivial | rfl
end Go.Hp.T
namespace Go.Hp
open Go Go.RowKit Go.Slot
variable {P:Program} {Γ:List (Nat×List Cell)}
theorem w1b {n N i:Nat} (h:i<n):atR (List.range n) N i=i:=xbc (by simp [h])
theorem xgj.pre {f:FuncId} {ηs ξ:List SB} {args:List SV} {res:SV} (h:xgj Γ P f ηs args ηs res) (hs:∀ r,ηs.map (rnSB r)=ηs) (ha:args.map (x09 (atR (List.range ηs.length) (ηs++ξ).length))=args) (hr:rnSV (atR (List.range ηs.length) (ηs++ξ).length) res=res):xgj Γ P f (ηs++ξ) args (ηs++ξ) res:=by
 have hfix:∀(r:Nat->Nat) (i:Nat) (x:SB),ηs[i]? = some x->rnSB r x=x:=fun r i x hx=>by
  have:=congrArg (fun l=>l[i]?) (hs r)
  simp only [List.getElem?_map,hx,Option.map_some] at this;exact Option.some.inj this
 have hlt:∀ j∈List.range ηs.length,j<(ηs++ξ).length:=fun j hj=>by
  rw [List.mem_range] at hj;rw [List.length_append];omega
 have hk:=xgj.frame (φ:=List.range ηs.length) (η:=ηs++ξ) List.nodup_range hlt ⟨by simp,fun i x hx=>by
  have hi:i<ηs.length:=(List.getElem?_eq_some_iff.1 hx).1
  exact ⟨i,by simp [hi],by rw [hfix _ i x hx,List.getElem?_append_left hi];exact hx⟩⟩ (by simp) h
 rw [ha,hr] at hk
 have hp:putR (List.range ηs.length) (ηs++ξ) ηs=ηs++ξ:=by
  apply List.ext_getElem?;intro i;by_cases hi:i<ηs.length
  . have h1:=xjo (φ:=List.range ηs.length) (η:=ηs++ξ) (ηs':=ηs) List.nodup_range hlt (List.getElem?_eq_getElem hi);rw [w1b hi,hfix _ i _ (List.getElem?_eq_getElem hi)] at h1;rw [h1,List.getElem?_append_left hi,List.getElem?_eq_getElem hi]
  . by_cases hi2:i<(ηs++ξ).length
    . exact ygg hi2 (by simpa using hi)
    . rw [List.getElem?_eq_none (by rw [xdx];simp at hi2 ⊢;omega),List.getElem?_eq_none (by omega)]
 rw [hp] at hk;exact hk
theorem y1b {f:FuncId} {η ηs ξ:List SB} {args l:List SV} {res:SV} {K:Bool->List SB->SV->Prop} (h:xgj Γ P f ηs args ηs res) (hs:∀ r,ηs.map (rnSB r)=ηs) (hz:dzL η l=args) (hη:appL (frzE η (dzB η l)) η=ηs++ξ) (ha:args.map (x09 (atR (List.range ηs.length) (ηs++ξ).length))=args) (hr:rnSV (atR (List.range ηs.length) (ηs++ξ).length) res=res) (hk:K true (ηs++ξ) res):xw3 Γ P f η l K:=by
 subst hz;refine wq6 (xgj.frz ?_) hk;rw [hη];exact xgj.pre h hs ha hr
end Go.Hp
namespace Go.Hp.T
open Go Go.RowKit Go.Slot Go.Hp
theorem v18 {r:Nat->Nat} {l:List (ByteArray×Dm)}:rnSB r (.map (envE l))=.map (envE l):=by
 have:∀ l:List (ByteArray×Dm),(envE l).map (fun p=>(p.1,x09 r p.2))=envE l:=by
  intro l
  induction l with
  | nil=>rfl
  | cons p l ih=>
   show _::(envE l).map _=_;rw [ih];rfl
 show SB.map _=_;rw [this]
theorem xyn (V T:List (ByteArray×Dm)):∀ r,[SB.map (envE V),SB.map (envE T)].map (rnSB r)=[SB.map (envE V),SB.map (envE T)]:=fun r=>by
 simp only [List.map_cons,List.map_nil,v18]
theorem vzh {x:Ex} (h:w7g x=true) (h3:x.op≠3) (h0:x.args.length≠0):(x.op≠2->x.op≠4->2<=x.args.length)/\(x.op=5->3<=x.args.length):=by
 unfold w7g at h;by_cases a0:x.op=0
 . rw [decide_eq_true a0,cond_true] at h;simp only [Bool.and_eq_true,decide_eq_true_eq] at h;omega
 rw [decide_eq_false a0,cond_false] at h
 cases hb:(decide (¬x.n=0)||decide (¬x.unit.size=0)) with
 | true=>rw [hb,cond_true] at h;cases h
 | false=>
 rw [hb,cond_false] at h;by_cases a1:x.op=1
 . rw [decide_eq_true a1,cond_true] at h;simp only [Bool.and_eq_true,decide_eq_true_eq] at h;omega
 rw [decide_eq_false a1,cond_false] at h;by_cases a2:x.op=2
 . rw [decide_eq_true a2,cond_true] at h;simp only [Bool.and_eq_true,decide_eq_true_eq] at h;omega
 rw [decide_eq_false a2,cond_false] at h;by_cases a3:x.op=3
 . rw [decide_eq_true a3,cond_true] at h;simp only [Bool.and_eq_true,decide_eq_true_eq] at h;omega
 rw [decide_eq_false a3,cond_false] at h;by_cases a4:x.op=4
 . rw [decide_eq_true a4,cond_true] at h;simp only [Bool.and_eq_true,decide_eq_true_eq] at h;omega
 rw [decide_eq_false a4,cond_false] at h;by_cases a5:x.op=5
 . rw [decide_eq_true a5,cond_true] at h;simp only [Bool.and_eq_true,decide_eq_true_eq] at h;omega
 rw [decide_eq_false a5,cond_false] at h
 cases hc:(decide (x.op=10)||decide (x.op=11)) with
 | true=>rw [hc,cond_true] at h;simp only [Bool.and_eq_true,decide_eq_true_eq] at h;omega
 | false=>rw [hc,cond_false] at h;simp only [Bool.and_eq_true,decide_eq_true_eq] at h;omega
end Go.Hp.T
