/- The proof, part Q23: Nd, P2, P3. -/
import Derived.Test.YtkbkjjahlafhoaaGreatDoorQ17
import Derived.Test.YtkbkjjahlafhoaaGreatDoorQ22
import Derived.Test.YtkbkjjahlafhoaaGreatDoorQ21
namespace Go.Hp.T
open Go Go.RowKit Go.Slot Go.Hp Go.Slot.T
open Go.Proofs.Tryz
attribute [local irreducible] hide RH
set_option maxRecDepth 10000
set_option maxHeartbeats 4000000
variable {Γ:List (Nat×List Cell)}
theorem zvp (c:Int):CallsD Γ prog 213 [.one (c8 c)] (.one (cB (wxk c))):=by
 refine hE [] func213 f213.eq_1 ?_
 repeat' ((refine hfk ?_ ?_<;>intros)<;>refine hgS ?_)
 all_goals refine lf1 @wxk.eq_def ?_;first | exact trivial | rfl
theorem x6l (b e p q:Int) (hb:b=0\/b=1\/b=2\/b=3\/b=4\/b=5) (hp:inI p) (hq:inI q) (hq0:q≠0):CallsD Γ prog 214 [.one (cI b),.one (cI e),.one (cI p),.one (cI q)] (.agg (unC (unOf b e p q))):=by
 rcases hb with rfl | rfl | rfl | rfl | rfl | rfl
 all_goals
  refine hE [] func214 f214.eq_1 ?_
  repeat' ((with_reducible refine wdy (qOf p q hp hq hq0) ?_)<;>refine hgS ?_)
  exact RLe.ofEq rfl
theorem yt7 (s:ByteArray):CallsD Γ prog 200 [.one (cS s)] (.tup [.agg (unO (symF s)),.one (cB (symF s).isSome)]):=by
 have h1:=x6l (Γ:=Γ) 0 1 1 1 (by decide) (by decide) (by decide) (by decide);have h2:=x6l (Γ:=Γ) 0 1 1000000 1 (by decide) (by decide) (by decide) (by decide);have h3:=x6l (Γ:=Γ) 1 1 1 1 (by decide) (by decide) (by decide) (by decide);have h4:=x6l (Γ:=Γ) 1 3 1 1000 (by decide) (by decide) (by decide) (by decide);have h5:=x6l (Γ:=Γ) 2 1 1 1 (by decide) (by decide) (by decide) (by decide);have h6:=x6l (Γ:=Γ) 2 1 3600 1 (by decide) (by decide) (by decide) (by decide);have h7:=x6l (Γ:=Γ) 2 1 86400 1 (by decide) (by decide) (by decide) (by decide);have h8:=x6l (Γ:=Γ) 3 1 1 1 (by decide) (by decide) (by decide) (by decide);have h9:=x6l (Γ:=Γ) 3 1 3600 1 (by decide) (by decide) (by decide) (by decide);have h10:=x6l (Γ:=Γ) 4 1 1 1 (by decide) (by decide) (by decide) (by decide);have h11:=x6l (Γ:=Γ) 4 1 100 1 (by decide) (by decide) (by decide) (by decide);have h12:=x6l (Γ:=Γ) 5 1 1 1 (by decide) (by decide) (by decide) (by decide);refine hE [] func200 f200.eq_1 ?_
 repeat' ((first|refine hfk ?_ ?_<;>intros|with_reducible refine wdy h1 ?_|with_reducible refine wdy h2 ?_|with_reducible refine wdy h3 ?_|with_reducible refine wdy h4 ?_|with_reducible refine wdy h5 ?_|with_reducible refine wdy h6 ?_|with_reducible refine wdy h7 ?_|with_reducible refine wdy h8 ?_|with_reducible refine wdy h9 ?_|with_reducible refine wdy h10 ?_|with_reducible refine wdy h11 ?_|with_reducible refine wdy h12 ?_)<;>refine hgS ?_)
 all_goals (refine RLe.ofEq ?_;conv=>simp only [Bool.and_true,Bool.true_and,Bool.and_false,Bool.false_and,Bool.or_true,Bool.true_or,Bool.or_false,Bool.false_or,Bool.not_true,Bool.not_false,decide_true,decide_false,not_true_eq_false,not_false_eq_true,vq5,if_true,if_false,Bool.and_self,Bool.or_self,cond_true,cond_false,List.length_map,ne_eq,Int.reduceEq,Int.reduceLT,Int.reduceLE, *,symF,unO,Option.isSome]);first | exact trivial | rfl
theorem ztk (c:Int):CallsD Γ prog 201 [.one (c8 c)] (.tup [.one (cI (preO (preF c)).1),.one (cI (preO (preF c)).2),.one (cB (preF c).isSome)]):=by
 refine hE [] func201 f201.eq_1 ?_
 repeat' ((refine hfk ?_ ?_<;>intros)<;>refine hgS ?_)
 all_goals (refine RLe.ofEq ?_;conv=>simp only [Bool.and_true,Bool.true_and,Bool.and_false,Bool.false_and,Bool.or_true,Bool.true_or,Bool.or_false,Bool.false_or,Bool.not_true,Bool.not_false,decide_true,decide_false,not_true_eq_false,not_false_eq_true,vq5,if_true,if_false,Bool.and_self,Bool.or_self,cond_true,cond_false,List.length_map,ne_eq,Int.reduceEq,Int.reduceLT,Int.reduceLE, *,preF,preO,Option.isSome]);first | exact trivial | rfl
theorem wia (s:ByteArray):CallsD Γ prog 202 [.one (cS s)] (.one (cB (wm3 s))):=by
 refine hE [] func202 f202.eq_1 ?_
 repeat' ((refine hfk ?_ ?_<;>intros)<;>refine hgS ?_)
 all_goals refine lf1 @wm3.eq_def ?_;first | exact trivial | rfl
theorem sExt (s:ByteArray) (i:Nat):s.extract 0 i=zu1 s i:=rfl
theorem vsu (s:ByteArray) (i:Nat):s.extract i s.size=v7v s i:=rfl
attribute [go_sem] sExt vsu
theorem wf0 (s p:ByteArray) (_hs:s.size<=1073741824) (hp:p.size<=1073741824):CallsD Γ prog 218 [.one (cS s),.one (cS p)] (.one (cB (yqn s p))):=by
 refine hE [] func218 f218.eq_1 ?_
 (refine hfk ?_ ?_<;>intros)<;>refine hgS ?_
 all_goals refine lf1 @yqn.eq_def ?_;first | exact trivial | rfl
theorem zpe (s p:ByteArray) (hs:s.size<=1073741824) (hp:p.size<=1073741824):CallsD Γ prog 212 [.one (cS s),.one (cS p)] (.tup [.one (cS (bif yqn s p then v7v s p.size else s)),.one (cB (yqn s p))]):=by
 refine hE [] func212 f212.eq_1 ?_;refine wdy (wf0 s p hs hp) ?_;refine hg ?_;refine xlx (fun h=>?_) (fun h=>?_)
 . refine hg ?_
   refine lfE ?_;first | exact trivial | rfl
 . have hle:p.size<=s.size:=by
    simp only [yqn,Bool.and_eq_true,decide_eq_true_eq] at h;omega
   refine hg ?_
   refine lfE ?_;first | exact trivial | rfl
theorem vg6 (s p:ByteArray) (hs:s.size<=1073741824) (hp:p.size<=1073741824):CallsD Γ prog 198 [.one (cS s),.one (cS p)] (.tup [.one (cS (bif yqn s p then v7v s p.size else s)),.one (cB (yqn s p))]):=by
 refine hE [] func198 f198.eq_1 ?_
 (with_reducible refine wdy (zpe s p hs hp) ?_)<;>refine hgS ?_
 all_goals refine lfE ?_;first | exact trivial | rfl
theorem cCut (s:ByteArray) (hs:s.size<=1073741824):CallsD Γ prog 199 [.one (cS s)] (.tup [.agg (itC (yfm s)),.one (cS (xti s)),.one (cB (yyn s))]):=by
 refine hE [] func199 f199.eq_1 ?_;refine wf5 [0,2] (fun n:Nat=>[(5,.one (.dat (cI n)))]) (fun _=>[.box [.dat (cS ⟨⟨[]⟩⟩),.dat (cI 0)] (some 256)]) (fun n=>n<=s.size/\∀ j,j<n->wxk (vpd s j)=true) (fun n=>s.size-n) 0 ⟨Nat.zero_le _,fun j hj=>by omega⟩ ?_ ?_
 . refine hg ?_;exact sS
 intro n hn;obtain ⟨hn,hj⟩:=hn;refine hg ?_;refine vpz (fun hlt hd=>?_) (fun hlt _=>?_)
 . refine hg1 @hd ?_;refine wdy (zvp _) ?_;refine hg ?_;refine yie (fun h1=>?_) (fun h1=>?_)
   . refine hg ?_;refine ⟨n+1,⟨by omega,fun j hj'=>?_⟩,by omega,sS⟩
     rcases Nat.lt_or_eq_of_le (Nat.le_of_lt_succ hj') with h2 | h2
     . exact hj j h2
     . rw [h2];exact h1
   . have hsp:=z4v hn hj (.inr h1);clear h1;refine hg ?_
     repeat' ((first|refine hfk ?_ ?_<;>intros|refine hik ?_)<;>refine hgS ?_)
     all_goals (refine RLe.ofEq ?_;conv=>simp only [Bool.and_true,Bool.true_and,Bool.and_false,Bool.false_and,Bool.or_true,Bool.true_or,Bool.or_false,Bool.false_or,Bool.not_true,Bool.not_false,decide_true,decide_false,not_true_eq_false,not_false_eq_true,vq5,if_true,if_false,Bool.and_self,Bool.or_self,cond_true,cond_false,List.length_map,ne_eq,Int.reduceEq,Int.reduceLT,Int.reduceLE, *,yfm,xti,vlc,xgz,yyn,hsp]);first | exact trivial | rfl
 . have hsp:=z4v hn hj (.inl (by omega));refine hgS ?_
   repeat' ((first|refine hfk ?_ ?_<;>intros|refine hik ?_)<;>refine hgS ?_)
   all_goals (refine RLe.ofEq ?_;conv=>simp only [Bool.and_true,Bool.true_and,Bool.and_false,Bool.false_and,Bool.or_true,Bool.true_or,Bool.or_false,Bool.false_or,Bool.not_true,Bool.not_false,decide_true,decide_false,not_true_eq_false,not_false_eq_true,vq5,if_true,if_false,Bool.and_self,Bool.or_self,cond_true,cond_false,List.length_map,ne_eq,Int.reduceEq,Int.reduceLT,Int.reduceLE, *,yfm,xti,vlc,xgz,yyn,hsp]);first | exact trivial | rfl
theorem w0o (s:ByteArray) (hs:s.size<=1073741824) (h1:1<=s.size):CallsD Γ prog 174 [.one (cS s)] (.tup [.agg (unO (w4l s)),.one (cB (w4l s).isSome)]):=by
 refine hE [] func174 f174.eq_1 ?_;refine wdy (yt7 s) ?_
 cases hy:symF s with
 | some u=>
  conv=>simp (maxSteps:=2000000) (disch:=omega) only [go_sem,Nat.reduceAdd,Nat.reduceSub,Nat.reduceMul,Int.reduceToNat,Nat.reduceEqDiff,Nat.reduceBEq,Nat.reduceBneDiff,Nat.reduceLT,Int.reduceEq,Int.reduceLT,Int.reduceLE,Int.reduceNeg,Int.reduceAdd,Int.reduceSub,Int.reduceMul,unO,Option.isSome]
  exact RLe.ofEq (by simp only [w4l,hy];rfl)
 | none=>
  conv=>simp (maxSteps:=2000000) (disch:=omega) only [go_sem,Nat.reduceAdd,Nat.reduceSub,Nat.reduceMul,Int.reduceToNat,Nat.reduceEqDiff,Nat.reduceBEq,Nat.reduceBneDiff,Nat.reduceLT,Int.reduceEq,Int.reduceLT,Int.reduceLE,Int.reduceNeg,Int.reduceAdd,Int.reduceSub,Int.reduceMul,unO,Option.isSome]
  refine wdy (ztk _) ?_;refine hg ?_;refine wdy (yt7 _) ?_
  cases hp:preF (vpd s 0) with
  | none=>
   cases hy2:symF (v7v s 1)<;>
   . conv=>simp (maxSteps:=2000000) (disch:=omega) only [go_sem,Nat.reduceAdd,Nat.reduceSub,Nat.reduceMul,Int.reduceToNat,Nat.reduceEqDiff,Nat.reduceBEq,Nat.reduceBneDiff,Nat.reduceLT,Int.reduceEq,Int.reduceLT,Int.reduceLE,Int.reduceNeg,Int.reduceAdd,Int.reduceSub,Int.reduceMul,unO,Option.isSome]
     exact RLe.ofEq (by simp only [w4l,hy,hp];rfl)
  | some p=>
   cases hy2:symF (v7v s 1) with
   | none=>
    conv=>simp (maxSteps:=2000000) (disch:=omega) only [go_sem,Nat.reduceAdd,Nat.reduceSub,Nat.reduceMul,Int.reduceToNat,Nat.reduceEqDiff,Nat.reduceBEq,Nat.reduceBneDiff,Nat.reduceLT,Int.reduceEq,Int.reduceLT,Int.reduceLE,Int.reduceNeg,Int.reduceAdd,Int.reduceSub,Int.reduceMul,unO,Option.isSome]
    exact RLe.ofEq (by simp only [w4l,hy,hp,hy2];rfl)
   | some u=>
    obtain ⟨_,hu1,_⟩:=yt8 hy2;obtain ⟨hp1,hp2⟩:=y35 hp;obtain ⟨hf1,_⟩:=wjl hp1 hp2
    conv=>simp (maxSteps:=2000000) (disch:=omega) only [go_sem,Nat.reduceAdd,Nat.reduceSub,Nat.reduceMul,Int.reduceToNat,Nat.reduceEqDiff,Nat.reduceBEq,Nat.reduceBneDiff,Nat.reduceLT,Int.reduceEq,Int.reduceLT,Int.reduceLE,Int.reduceNeg,Int.reduceAdd,Int.reduceSub,Int.reduceMul,unO,Option.isSome,preO]
    repeat' ((first|refine hfk ?_ ?_<;>intros|with_reducible refine wdy (wia _) ?_|with_reducible refine wdy (qOf p.1 p.2 (by unfold inI;omega) (by unfold inI;omega) (by omega)) ?_|with_reducible refine wdy (qMul _ _ (Nat.le_trans hu1 (by decide)) (Nat.le_trans hf1 (by decide))) ?_)<;>refine hgS ?_)
    all_goals rename_i hq
    all_goals exact RLe.ofEq (by simp only [w4l,hy,hp,hy2,hq];rfl)
theorem vbp (a f:Rat) (x:Int) (hx:x.natAbs<=1000) (ha:qs a<=100000) (hf:qs f<=1000) (hf0:f≠0):CallsD Γ prog 175 [.agg (fQ a),.agg (fQ f),.one (cI x)] (.agg (fQ (y1p a f x))):=by
 refine hE [] func175 f175.eq_1 ?_;refine wf5 [2,3,4,6,10] (fun i:Nat=>[(11,.one (.dat (cI i)))]) (fun i=>[.box ((fQ (pw a f x i)).map .dat) (some 51),.box ((fQ f).map .dat) (some 51),.box [.dat (cI 0),.dat .zc,.dat (cI 0),.dat .zc] (some 51)]) (fun i=>i<=x.natAbs) (fun i=>x.natAbs-i) 0 (Nat.zero_le _) ?_ ?_
 . refine hg ?_;exact StH.same svl (by rw [yws])
 intro i hi;have hq:=zi4 a f x i;have hm:i*(qs f+1)<=1000*1001:=Nat.mul_le_mul (by omega) (by omega);refine hg ?_;refine y8g (fun hlt _=>?_) (fun hlt _=>?_)
 . refine hg ?_;refine y8g (fun hp hd=>?_) (fun hp hd=>?_)
   . refine hg ?_;refine wdy (qMul (pw a f x i) f (by omega) (by omega)) ?_;refine hg ?_;exact ⟨i+1,by omega,by omega,StH.same svl (by rw [y2m hp])⟩
   . refine hg ?_;refine wdy (qDiv (pw a f x i) f hf0 (by omega) (by omega)) ?_;refine hg ?_;exact ⟨i+1,by omega,by omega,StH.same svl (by rw [y4x hp])⟩
 . refine hg ?_
   have e:i=x.natAbs:=by omega
   subst e;exact RLe.ofEq rfl
theorem yvz (s:ByteArray) (hs:s.size<=1073741824):CallsD Γ prog 173 [.one (cS s)] (.tup [.one (.sl 2 ((itO (yig s)).map It.C)),.one (cB (yig s).isSome)]):=by
 have bad:∀ b,yig s=none->b=false->RLe (.tup [.one (.raw (.slice none 0 0)),.one (cB b)]) (.tup [.one (.sl 2 ((itO (yig s)).map It.C)),.one (cB (yig s).isSome)]):=fun b h hb=>by
  rw [h,hb];exact .tup (.cons (.one (.nilSl 2)) (.cons (.refl _) .nil))
 refine hE [(9,[.join])] func173 f173.eq_1 ?_
 repeat' ((refine hfk ?_ ?_<;>intros)<;>refine hgS ?_)
 . exact .tup (.cons (.one (by rename_i h;simp only [yig,h];exact .nilSl 2)) (.cons (by rename_i h;simp only [yig,h];exact .refl _) .nil))
 . refine bad _ (by simp only [yig, *];rfl) rfl
 refine wdy (vg6 _ _ hs (by decide)) ?_;refine hgS ?_;refine y7q [2,3,4] (fun r:ByteArray=>[(5,.one (.dat (cS r)))]) (fun _=>[]) (fun r=>r=z0e s) ?_ ?_
 . refine hg ?_;refine xlx (fun h=>?_) (fun h=>?_)
   . refine hg ?_;refine ⟨_,rfl,?_⟩;simp only [z0e,h];exact sS
   . refine hg ?_;refine ⟨_,rfl,?_⟩;simp only [z0e,h];exact sS
 intro r0 hr0
 have h0:yig s=zhr (s.size+2) r0 []:=by simp only [yig, *];rfl
 have hsz:r0.size<=s.size+1:=by
  rw [hr0];unfold z0e;have h42:(⟨#[42]⟩:ByteArray).size=1:=rfl
  cases yqn s ⟨#[49]⟩
  . simp only [cond_false,ByteArray.size_append];omega
  . simp only [cond_true,wsw];omega
 clear hr0;refine hg ?_;refine wf5 [2,3] (fun p:Nat×ByteArray×List It=>[(4,.one (.sl 0 2 0 p.2.2.length)),(5,.one (.dat (cS p.2.1)))]) (fun p=>[.arr (.sl 2 (p.2.2.map It.C)) 0 (some 256)])
  (fun p=>p.2.1.size<p.1/\p.2.1.size<=1073741824/\p.2.2.length+p.2.1.size<=100/\zhr p.1 p.2.1 p.2.2=yig s) (fun p=>p.2.1.size) (s.size+2,r0,[]) ⟨by simp only;omega,by simp only;omega,by simp only [List.length_nil];omega,h0.symm⟩ ?_ ?_
 . refine hg ?_;refine StH.trans (StH.empty (d:=4) (es:=2) (c:=.sl 2 []) (T:=some 256) rfl rfl (fun r hr=>by cases hr) rfl) ?_;refine hg ?_;exact sS
 rintro ⟨k,r,acc⟩ ⟨h1,h2,h3,h4⟩;simp only at h1 h2 h3 h4;clear h0 hsz;obtain ⟨k,rfl⟩:∃ m,k=m+1:=⟨k-1,by omega⟩;rw [zhr] at h4;refine hg ?_;refine y8g (fun hne _=>?_) (fun he _=>?_)
 . have hne':=decide_eq_false hne;rw [hne',cond_false] at h4;have hd':=wsw r 1;refine hg ?_;have hcs:=w1p (v7v r 1);have hce:=ztl (v7v r 1);rw [hd'] at hcs;refine wdy (cCut (v7v r 1) (by rw [hd'];omega)) ?_;refine hg ?_
   have g1:(xti (v7v r 1)).size<k:=by omega
   have g2:(xti (v7v r 1)).size<=1073741824:=by omega
   have g3:∀ x:It,(acc++[x]).length+(xti (v7v r 1)).size<=100:=fun x=>by rw [List.length_append,List.length_singleton];omega
   have g4:(xti (v7v r 1)).size<r.size:=by omega
   have hmap:∀ x:It,acc.map It.C++[itC x]=(acc++[x]).map It.C:=fun x=>by simp;rfl
   repeat' ((refine hfk ?_ ?_<;>intros)<;>refine hgS ?_)
   . exact bad _ (by rw [<-h4];simp only [*];rfl) rfl
   . rename_i h47 _
     have h4':zhr k (xti (v7v r 1)) (acc++[⟨(yfm (v7v r 1)).w,0-(yfm (v7v r 1)).e⟩])=yig s:=by
      rw [<-h4];simp only [*,zfu];rfl
     refine ⟨(k,xti (v7v r 1),acc++[⟨(yfm (v7v r 1)).w,0-(yfm (v7v r 1)).e⟩]),?_,?_,?_⟩
     . dsimp only;exact ⟨g1,g2,g3 _,h4'⟩
     . dsimp only;exact g4
     rw [hmap ⟨(yfm (v7v r 1)).w,0-(yfm (v7v r 1)).e⟩];refine StH.back [2,3,4,5] 0 2 1 rfl rfl rfl rfl rfl (by kernel_rfl) ?_;refine hg ?_;exact sS
   . exfalso;omega
   . exfalso;omega
   . have h4':zhr k (xti (v7v r 1)) (acc++[yfm (v7v r 1)])=yig s:=by
      rw [<-h4];simp only [*,zfu];rfl
     refine ⟨(k,xti (v7v r 1),acc++[yfm (v7v r 1)]),?_,?_,?_⟩
     . dsimp only;exact ⟨g1,g2,g3 _,h4'⟩
     . dsimp only;exact g4
     try rw [hmap (yfm (v7v r 1))]
     refine StH.back [2,3,4,5] 0 2 1 rfl rfl rfl rfl rfl (by kernel_rfl) ?_;refine hg ?_;exact sS
   . exact bad _ (by rw [<-h4];simp only [*];rfl) rfl
 . refine hg ?_;have he':decide (r.size=0)=true:=decide_eq_true (by omega);rw [he',cond_true] at h4;rw [<-h4];exact RLe.ofEq rfl
theorem zb1 (s:ByteArray) (hs:s.size<=1073741824):CallsD Γ prog 151 [.one (cS s)] (.tup [.agg (unO (vup s).1),.one (cI (vup s).2)]):=by
 refine hE [] func151 f151.eq_1 ?_;refine wdy (yvz s hs) ?_
 cases hi:yig s with
 | none=>
  conv=>simp (maxSteps:=2000000) (disch:=omega) only [go_sem,Nat.reduceAdd,Nat.reduceSub,Nat.reduceMul,Int.reduceToNat,Nat.reduceEqDiff,Nat.reduceBEq,Nat.reduceBneDiff,Nat.reduceLT,Int.reduceEq,Int.reduceLT,Int.reduceLE,Int.reduceNeg,Int.reduceAdd,Int.reduceSub,Int.reduceMul,Option.isSome,itO]
  exact RLe.ofEq (by simp only [vup,hi];rfl)
 | some l=>
  obtain ⟨hl,hx⟩:=zhg hi
  conv=>simp (maxSteps:=2000000) (disch:=omega) only [go_sem,Nat.reduceAdd,Nat.reduceSub,Nat.reduceMul,Int.reduceToNat,Nat.reduceEqDiff,Nat.reduceBEq,Nat.reduceBneDiff,Nat.reduceLT,Int.reduceEq,Int.reduceLT,Int.reduceLE,Int.reduceNeg,Int.reduceAdd,Int.reduceSub,Int.reduceMul,Option.isSome,itO]
  refine wdy (qInt 1 (by decide)) ?_;refine hg ?_;refine wf5 [2,6,23,24] (fun p:Nat×Un=>[(25,.one (.dat (cI p.1)))]) (fun p=>[.box (unZ.map .dat) (some 235),.box ((unC p.2).map .dat) (some 235)])
   (fun p=>p.1<=l.length/\p.2.d.le (27*p.1)/\qs p.2.f<=1+100*p.1/\vol (l.drop p.1) p.2=vol l ⟨Dm.zero,(1:Int)⟩) (fun p=>l.length-p.1) (0,⟨Dm.zero,(1:Int)⟩) ⟨Nat.zero_le _,by unfold Dm.le;decide,v8g,rfl⟩ ?_ ?_
  . refine hg ?_;exact sS
  rintro ⟨i,u⟩ ⟨h1,h2,h3,h4⟩;simp only at h1 h2 h3 h4;refine hg ?_;refine y8g (fun hlt _=>?_) (fun hlt _=>?_)
  . have hlt':i<l.length:=by omega
    have hok:=hx _ (z1y hlt');rw [xc3 hlt',vol] at h4;refine hg ?_;refine wdy (w0o _ (by have:=hok.2.1;omega) hok.1) ?_
    cases hw:w4l (l.getD i default).w with
    | none=>
     conv=>simp (maxSteps:=2000000) (disch:=omega) only [go_sem,Nat.reduceAdd,Nat.reduceSub,Nat.reduceMul,Int.reduceToNat,Nat.reduceEqDiff,Nat.reduceBEq,Nat.reduceBneDiff,Nat.reduceLT,Int.reduceEq,Int.reduceLT,Int.reduceLE,Int.reduceNeg,Int.reduceAdd,Int.reduceSub,Int.reduceMul,Option.isSome,unO]
     rw [hw] at h4;exact RLe.ofEq (by simp only [vup,hi,<-h4])
    | some v=>
     obtain ⟨hv1,hv2,hv3⟩:=x5v hw;rw [hw] at h4;obtain ⟨b1,b2,b3,b4,b5,b6⟩:=h2;obtain ⟨d1,d2,d3,d4,d5,d6⟩:=hv1;have he:=hok.2.2;have c1:=v45 d1 he;have c2:=v45 d2 he;have c3:=v45 d3 he;have c4:=v45 d4 he;have c5:=v45 d5 he;have c6:=v45 d6 he
     have hq:qs (y1p u.f v.f (l.getD i default).e)<=qs u.f+9*(qs v.f+1):=by
      have:=zi4 u.f v.f (l.getD i default).e (l.getD i default).e.natAbs
      rw [<-xj8] at this;have h9:(l.getD i default).e.natAbs*(qs v.f+1)<=9*(qs v.f+1):=Nat.mul_le_mul_right _ (by omega);omega
     have hle:(u.d.acc v.d (l.getD i default).e).le (27*(i+1:Nat)):=by
      have:=Dm.zda (x:=u.d) ⟨b1,b2,b3,b4,b5,b6⟩ ⟨d1,d2,d3,d4,d5,d6⟩ he
      rw [show (27*((i+1:Nat):Int))=27*i+27 from by omega];exact this
     conv=>simp (maxSteps:=2000000) (disch:=omega) only [go_sem,Nat.reduceAdd,Nat.reduceSub,Nat.reduceMul,Int.reduceToNat,Nat.reduceEqDiff,Nat.reduceBEq,Nat.reduceBneDiff,Nat.reduceLT,Int.reduceEq,Int.reduceLT,Int.reduceLE,Int.reduceNeg,Int.reduceAdd,Int.reduceSub,Int.reduceMul,Option.isSome,unO]
     repeat' ((first|refine hik ?_|with_reducible refine x2t ?_|with_reducible refine z5g ?_|with_reducible refine wdy (vbp u.f v.f (l.getD i default).e (by omega) (by omega) (by omega) hv3) ?_)<;>refine hgS ?_)
     refine ⟨(i+1,⟨u.d.acc v.d (l.getD i default).e,y1p u.f v.f (l.getD i default).e⟩),?_,?_,?_⟩
     . dsimp only;exact ⟨by omega,hle,by omega,h4⟩
     . dsimp only;omega
     refine StH.back [2,6,23,24,25] 2 2 2 rfl rfl rfl rfl rfl (by kernel_rfl) ?_;refine hg ?_;exact sS
  . have h4':vol l ⟨Dm.zero,(1:Int)⟩=some u:=by rw [<-h4,List.drop_eq_nil_of_le (by omega)];rfl
    refine hg ?_
    repeat' ((first|refine hfk ?_ ?_<;>intros|with_reducible refine wdy (y0e _) ?_)<;>refine hgS ?_)
    all_goals
     rename_i hd;exact RLe.ofEq (by simp only [vup,hi,h4',hd];rfl)
end Go.Hp.T
namespace Go.Hp.T
open Go Go.RowKit Go.Slot Go.Hp Go.Slot.T
open Go.Proofs.Tryz
variable {c d:Int} {l:List Int} {k:Nat}
attribute [local irreducible] hide RH
set_option maxRecDepth 10000
set_option maxHeartbeats 8000000
variable {Γ:List (Nat×List Cell)}
theorem ziy (c:Int):CallsD Γ prog 180 [.one (c8 c)] (.one (cB (z8g c))):=by
 refine hE [] func180 f180.eq_1 ?_
 repeat' (refine hF ?_ ?_<;>intros)
 all_goals refine lf1 @z8g.eq_def ?_;first | exact trivial | rfl
theorem xwg (l:List Int) (c:Int):numV (l++[c])=10*numV l+(c-48):=by
 unfold numV;rw [List.foldl_append];rfl
theorem wjr (h:isDigit c=true):48<=c/\c<=57:=by
 unfold isDigit at h;rw [Bool.and_eq_true] at h;exact ⟨of_decide_eq_true h.1,of_decide_eq_true h.2⟩
theorem w6s (l:List Int) (h:∀ c∈l,isDigit c=true):∀ i,i<=l.length->0<=numV (l.take i)/\numV (l.take i)<10 ^ i
 | 0,_=>⟨by rw [List.take_zero];decide,by rw [List.take_zero];decide⟩
 | i+1,hi=>by
  obtain ⟨h1,h2⟩:=w6s l h i (by omega);have hc:=wjr (h _ (List.getElem_mem (show i<l.length by omega)));rw [List.take_succ_eq_append_getElem (by omega),xwg,Int.pow_succ];omega
theorem v55 (l:List Int) (h:∀ c∈l,isDigit c=true) {i:Nat} (hi:i<=l.length) (hl:l.length<=13):0<=numV (l.take i)/\numV (l.take i)<10000000000000:=by
 obtain ⟨h1,h2⟩:=w6s l h i hi;refine ⟨h1,Int.lt_of_lt_of_le h2 ?_⟩
 have h3:∀ n:Nat,n<=13->(10:Int) ^ n<=10000000000000:=by decide
 exact h3 i (by omega)
def numR (l:List Int):Int×Bool:=bif numO l then (numV l,true) else (0,false)
theorem ysg (l:List Int):numR l=bif (decide (l.headD 0=48)&&!decide (l=[48]))||(decide (13<(l.length:Int))||decide (1099511627776<numV l)) then (0,false) else (numV l,true):=by
 unfold numR numO;rw [Bool.or_assoc]
 cases ((decide (l.headD 0=48)&&!decide (l=[48]))||(decide (13<(l.length:Int))||decide (1099511627776<numV l)))<;>rfl
theorem ypa (s:ByteArray) (c:UInt8):seq s ⟨#[c]⟩=decide (zcd s=[(c.toNat:Int)]):=by
 rw [z8u];refine decide_eq_decide.2 ⟨fun h=>by rw [h];rfl,fun h=>?_⟩
 have:=yb2 s
 rw [h] at this;rw [<-this];show (⟨([(c.toNat:Int)].map fun n=>UInt8.ofNat n.toNat).toArray⟩:ByteArray)=_;simp
theorem yr0 {s:ByteArray} (h:vuh isDigit s=s.size):∀ c∈zcd s,isDigit c=true:=by
 have:((zcd s).takeWhile isDigit).length=(zcd s).length:=by rw [yjp];exact h
 have e:(zcd s).takeWhile isDigit=zcd s:=List.IsPrefix.eq_of_length (List.takeWhile_prefix _) this;intro c hc;rw [<-e] at hc;exact List.all_eq_true.1 (List.all_takeWhile) c hc
theorem vw8 (s:ByteArray) (hs:s.size<=1099511627776) (h0:s.size≠0) (hd:vuh isDigit s=s.size):CallsD Γ prog 181 [.one (cS s)] (.tup [.one (cI (numR (zcd s)).1),.one (cB (numR (zcd s)).2)]):=by
 have c1:=wkq (Γ:=Γ) s _ _ hs x09;rw [hd] at c1;have hm:=yr0 hd;have hb:=zmk s (by omega);have hlen:=yjp s;have hq:seq s ⟨#[48]⟩=decide (zcd s=[48]):=ypa s 48;refine hE [] func181 f181.eq_1 ?_
 repeat' first|refine hF ?_ ?_<;>intros|(with_reducible refine wdy c1 ?_)<;>refine hgS ?_
 all_goals first
  | (exfalso;omega)
  | (refine lf1 @ysg ?_;first | exact trivial | rfl)
  | skip
 all_goals
  have hnl:(zcd s).length<=13:=by omega
  refine wf5 [0,30] (fun i:Nat=>[(4,.one (.dat (cI (numV ((zcd s).take i))))),(31,.one (.dat (cI i)))]) (fun _=>[]) (fun i=>i<=s.size) (fun i=>s.size-i) 0 (Nat.zero_le _) ?_ ?_
  . refine hg ?_;exact sS
  intro i hi;have hv:=v55 (zcd s) hm (i:=i) (by omega) hnl;refine hg ?_;refine y8g (fun hlt _=>?_) (fun hlt _=>?_)
  . have hi':i<s.size:=by omega
    have hge:=xkq s i hi';have hc:=wjr (hm (vpd s i) (List.mem_of_mem_drop (by rw [hge];simp)))
    have e:numV ((zcd s).take (i+1))=10*numV ((zcd s).take i)+(vpd s i-48):=by
     rw [<-xwg]
     congr 1
     rw [List.take_add_one,vdi s i hi'];rfl
    clear hm;refine hg ?_;refine ⟨i+1,by omega,by omega,?_⟩;rw [e];exact sS
  . have e:(zcd s).take i=zcd s:=List.take_of_length_le (by omega);rw [e];rw [e] at hv;clear hm;refine hg ?_
    repeat' (refine hF ?_ ?_<;>intros)
    all_goals refine lf1 @ysg ?_;first | exact trivial | rfl
def quR:Option (List Int×Nat)->ByteArray×Int
 | none=>(⟨#[]⟩,0)
 | some r=>bif decide (400<(r.1.length:Int)) then (⟨#[]⟩,0) else (strOfNums r.1,(r.2:Int)+1)
theorem xec:quR none=(⟨#[]⟩,0):=rfl
theorem ycj (v:List Int) (n:Nat):quR (some (v,n))=bif decide (400<(v.length:Int)) then (⟨#[]⟩,0) else (strOfNums v,(n:Int)+1):=rfl
theorem xzk:quoL []=none:=rfl
theorem zpu (h:zhf c=false):quoL (c::l)=none:=by rw [quoL.eq_def];simp only [h];rfl
theorem zy9:quoL (34::l)=some ([],1):=by rw [quoL.eq_def];simp [zhf]
theorem x2k (h:d=34\/d=92):quoL (92::d::l)=(quoL l).map (fun r=>(d::r.1,r.2+2)):=by
 rw [quoL.eq_def]
 rcases h with rfl | rfl<;>rfl
theorem vwr:quoL [92]=none:=rfl
theorem zih (h:¬d=34) (h':¬d=92):quoL (92::d::l)=none:=by
 rw [quoL.eq_def];simp [h,h',zhf]
theorem zq9 (hp:zhf c=true) (h:¬c=34) (h':¬c=92):quoL (c::l)=(quoL l).map (fun r=>(c::r.1,r.2+1)):=by
 rw [quoL.eq_def];simp [h,h',hp]
theorem z3j (s:ByteArray) (hs:s.size<=1073741824) (h1:1<=s.size):CallsD Γ prog 182 [.one (cS s)] (.tup [.one (cS (quR (quoL ((zcd s).drop 1))).1),.one (cI (quR (quoL ((zcd s).drop 1))).2)]):=by
 generalize hR:quoL ((zcd s).drop 1)=R;refine hE [] func182 f182.eq_1 ?_;refine wf5 [0] (fun x:Nat×List Int=>[(4,.one (.sl 0 1 0 x.2.length)),(5,.one (.dat (cI x.1)))]) (fun x=>[.arr (.ints .u8 x.2) 0 (some 5)])
  (fun x=>1<=x.1/\x.1<=s.size/\x.2.length<x.1/\x.2.all xrp=true/\(quoL ((zcd s).drop x.1)).map (fun r=>(x.2++r.1,r.2+(x.1-1)))=R) (fun x=>s.size-x.1) (1,[]) ⟨Nat.le_refl _,h1,by decide,rfl,by rw [<-hR];simp⟩ ?_ ?_
 . refine hg ?_;refine StH.trans (StH.empty (d:=4) (es:=1) (c:=.ints .u8 []) (T:=some 5) rfl rfl trivial rfl) ?_;refine hg ?_;exact sS
 rintro ⟨n,vs⟩ ⟨a1,a2,a3,a4,a5⟩;simp only at a1 a2 a3 a4 a5;clear hR;have cp:=wqi (Γ:=Γ) (vpd s n);by_cases hn:n<s.size
 . rw [xkq s n hn] at a5
   cases hp:zhf (vpd s n) with
   | false=>
    rw [hp] at cp;rw [zpu hp] at a5;subst a5;refine hg ?_
    repeat' first|refine hF ?_ ?_<;>intros|(with_reducible refine wdy cp ?_)<;>refine hgS ?_
    all_goals first
     | (exfalso;omega)
     | exact RLe.ofEq rfl
   | true=>
    rw [hp] at cp;by_cases h34:vpd s n=34
    . rw [h34] at cp;rw [h34,zy9] at a5;simp only [Option.map_some,List.append_nil] at a5;subst a5;rw [show 1+(n-1)=n by omega,ycj];refine hg ?_
      repeat' first|refine hF ?_ ?_<;>intros|(with_reducible refine wdy cp ?_)<;>refine hgS ?_
      all_goals first
       | (exfalso;omega)
       | (refine lfE ?_;first | exact trivial | rfl)
    . by_cases h92:vpd s n=92
      . rw [h92] at a5 cp;by_cases hn1:n+1<s.size
        . rw [xkq s (n + 1) hn1] at a5;by_cases hd:vpd s (n+1)=34\/vpd s (n+1)=92
          . rw [x2k hd,Option.map_map] at a5
            have a6:(vs++[vpd s (n+1)]).all xrp=true:=by rw [List.all_append,a4];simp [zl8]
            refine hg ?_
            repeat' first|refine hF ?_ ?_<;>intros|(with_reducible refine wdy cp ?_)<;>refine hgS ?_
            all_goals first
             | (exfalso;omega)
             | (refine ⟨(n+1+1,vs++[vpd s (n+1)]),⟨by dsimp only;omega,by dsimp only;omega,by simp only [List.length_append,List.length_singleton];omega,a6,?_⟩,by dsimp only;omega,?_⟩
                . rw [<-a5]
                  congr 1
                  funext r
                  simp only [Function.comp,List.append_assoc,List.singleton_append]
                  congr 1
                  omega
                . exact StH.back [0,4,5] 0 1 1 rfl rfl rfl rfl rfl (by kernel_rfl) (sS))
          . have hd1:¬vpd s (n+1)=34:=fun h=>hd (.inl h)
            have hd2:¬vpd s (n+1)=92:=fun h=>hd (.inr h)
            rw [zih hd1 hd2] at a5;subst a5;clear hd;refine hg ?_
            repeat' first|refine hF ?_ ?_<;>intros|(with_reducible refine wdy cp ?_)<;>refine hgS ?_
            all_goals first
             | (exfalso;omega)
             | exact RLe.ofEq rfl
        . rw [List.drop_eq_nil_of_le (by rw [yjp];omega),vwr] at a5;subst a5;refine hg ?_
          repeat' first|refine hF ?_ ?_<;>intros|(with_reducible refine wdy cp ?_)<;>refine hgS ?_
          all_goals first
           | (exfalso;omega)
           | exact RLe.ofEq rfl
      . rw [zq9 hp h34 h92,Option.map_map] at a5
        have a6:(vs++[vpd s n]).all xrp=true:=by rw [List.all_append,a4];simp [zl8]
        refine hg ?_
        repeat' first|refine hF ?_ ?_<;>intros|(with_reducible refine wdy cp ?_)<;>refine hgS ?_
        all_goals first
         | (exfalso;omega)
         | (refine ⟨(n+1,vs++[vpd s n]),⟨by dsimp only;omega,by dsimp only;omega,by simp only [List.length_append,List.length_singleton];omega,a6,?_⟩,by dsimp only;omega,?_⟩
            . rw [<-a5]
              congr 1
              funext r
              simp only [Function.comp,List.append_assoc,List.singleton_append]
              congr 1
              omega
            . exact StH.back [0,4,5] 0 1 1 rfl rfl rfl rfl rfl (by kernel_rfl) (sS))
 . rw [List.drop_eq_nil_of_le (by rw [yjp];omega),xzk] at a5;subst a5;refine hg ?_
   repeat' first|refine hF ?_ ?_<;>intros|(with_reducible refine wdy cp ?_)<;>refine hgS ?_
   all_goals first
    | (exfalso;omega)
    | exact RLe.ofEq rfl
abbrev sgC:List Cell:=[.raw (.int .u8 40),.raw (.int .u8 41),.raw (.int .u8 44),.raw (.int .u8 59),.raw (.int .u8 58),.raw (.int .u8 61),.raw (.int .u8 60),.raw (.int .u8 43),.raw (.int .u8 45),.raw (.int .u8 42),.raw (.int .u8 47),.raw (.int .u8 123),.raw (.int .u8 125)]
theorem yyd (p:Int->Bool) (s:ByteArray):zcd (zu1 s (vuh p s))=(zcd s).takeWhile p:=by
 rw [ylt,yci p (zcd s)];rfl
theorem x4r {α:Type} (p:α->Bool):∀ l:List α,(l.takeWhile p).takeWhile p=l.takeWhile p
 | []=>rfl
 | a::l=>by
  cases h:p a with
  | true=>rw [List.takeWhile_cons_of_pos h,List.takeWhile_cons_of_pos h,x4r p l]
  | false=>rw [List.takeWhile_cons_of_neg (by rw [h];decide)];rfl
theorem vmx (p:Int->Bool) (s:ByteArray):vuh p (zu1 s (vuh p s))=(zu1 s (vuh p s)).size:=by
 show ((zcd (zu1 s (vuh p s))).takeWhile p).length=_;rw [<-yjp,yyd,x4r]
theorem xt4 (p:Int->Bool) (s:ByteArray):(zu1 s (vuh p s)).size=vuh p s:=v59 s _ (yz6 p s)
theorem vr0 {p:Int->Bool} {s:ByteArray} (h1:0<s.size) (h:p (vpd s 0)=true):0<vuh p s:=by
 show 0<((zcd s).takeWhile p).length
 have:=xkq s 0 h1
 rw [List.drop_zero] at this;rw [this,List.takeWhile_cons_of_pos h];simp
theorem vn5 {p:Int->Bool} {s:ByteArray} (h1:0<s.size) (h:p (vpd s 0)=true):vpd (zu1 s (vuh p s)) 0=vpd s 0:=by
 have h2:=vr0 h1 h;rw [zmk _ (by rw [xt4];exact h2),yyd]
 have:=xkq s 0 h1
 rw [List.drop_zero] at this;rw [this,List.takeWhile_cons_of_pos h];rfl
theorem xh0 (h:wxk c=true):y7x c=true:=by unfold y7x;rw [h];rfl
theorem yuo {s:ByteArray} (h1:0<s.size) (h:wxk (vpd s 0)=true):isName (zu1 s (vuh y7x s))=decide ((vuh y7x s:Int)<=20):=by
 have h2:=vr0 h1 (xh0 h);unfold isName;rw [vmx,vn5 h1 (xh0 h),xt4,h,decide_eq_true (show ¬vuh y7x s=0 by omega),decide_eq_true rfl];simp
abbrev nxR (r:Tk×Nat×Int):AV:=.tup [.agg (tkC r.1),.one (cI (r.2.1:Nat)),.one (cI r.2.2)]
theorem w1z (s:ByteArray) (hG:vjd Γ 0=.elt sgC) (h1:0<s.size) (hs:s.size<=1073741824):CallsD Γ prog 158 [.one (cS s)] (nxR (y8v (zcd s))):=by
 have cl:=y1m (Γ:=Γ) (vpd s 0);have cd:=x09 (Γ:=Γ) (vpd s 0);have ci:=wkq (Γ:=Γ) s _ _ (by omega) yif;have ck:=wkq (Γ:=Γ) s _ _ (by omega) x09;have hh:=zmk s h1;have e1:((zcd s).takeWhile y7x).length=vuh y7x s:=rfl;have e2:((zcd s).takeWhile isDigit).length=vuh isDigit s:=rfl;have e3:=xsh y7x s;have e4:=xsh isDigit s;unfold y8v;rw [<-hh];have z1:=yz6 y7x s;have z2:=yz6 isDigit s
 cases hl:wxk (vpd s 0) with
 | true=>
  rw [hl] at cl;have hnm:=yuo h1 hl;have cn:=zhs (Γ:=Γ) (zu1 s (vuh y7x s)) (by rw [xt4];omega);have hz:=xt4 y7x s;rw [hnm] at cn;rw [cond_true,e1,<-e3];clear e3 e4 e1 e2 hnm hh ck cd;generalize vuh y7x s=k at *;generalize decide ((k:Int)<=20)=b at *
  cases b
  all_goals
   refine hE [] func158 f158.eq_1 ?_
   repeat' ((with_reducible first|refine wdy cl ?_|refine wdy ci ?_|refine wdy cn ?_)<;>refine hgS ?_)
   all_goals refine lfE ?_;first | exact trivial | rfl
 | false=>
  rw [hl] at cl;rw [cond_false]
  cases hd:isDigit (vpd s 0) with
  | true=>
   rw [hd] at cd;have hz:=xt4 isDigit s;have hp:=vr0 h1 hd;have cn:=vw8 (Γ:=Γ) (zu1 s (vuh isDigit s)) (by rw [hz];omega) (by rw [hz];omega) (vmx isDigit s);rw [yyd] at cn;rw [cond_true,e2,<-e4];unfold numR at cn;generalize numO ((zcd s).takeWhile isDigit)=b at *;generalize numV ((zcd s).takeWhile isDigit)=v at *;clear e3 e4 e1 e2 hh ci;generalize vuh isDigit s=k at *
   cases b
   all_goals
    refine hE [] func158 f158.eq_1 ?_
    repeat' ((with_reducible first|refine wdy cl ?_|refine wdy cd ?_|refine wdy ck ?_|refine wdy cn ?_)<;>refine hgS ?_)
    all_goals refine lfE ?_;first | exact trivial | rfl
  | false=>
   rw [hd] at cd;rw [cond_false];have cq:=z3j (Γ:=Γ) s hs h1;rw [List.drop_one] at cq;clear e3 e4 e1 e2 hh ci ck;by_cases h34:vpd s 0=34
   . have cl':=cl;have cd':=cd;rw [h34] at cl' cd';rw [decide_eq_true h34,cond_true]
     cases hq:quoL (zcd s).tail with
     | none=>
      rw [hq,xec] at cq;refine hE [] func158 f158.eq_1 ?_
      repeat' ((with_reducible first|refine wdy cl ?_|refine wdy cd' ?_|refine wdy cq ?_)<;>refine hgS ?_)
      all_goals refine lfE ?_;first | exact trivial | rfl
     | some r=>
      obtain ⟨v,n⟩:=r;rw [hq,ycj] at cq;simp only;generalize strOfNums v=t at *
      cases hv:decide (400<(v.length:Int)) with
      | true=>
       rw [hv] at cq;refine hE [] func158 f158.eq_1 ?_
       repeat' ((with_reducible first|refine wdy cl ?_|refine wdy cd' ?_|refine wdy cq ?_)<;>refine hgS ?_)
       all_goals refine lfE ?_;first | exact trivial | rfl
      | false=>
       rw [hv] at cq;refine hE [] func158 f158.eq_1 ?_
       repeat' first|refine hF ?_ ?_<;>intros|(with_reducible first|refine wdy cl ?_|refine wdy cd' ?_|refine wdy cq ?_)<;>refine hgS ?_
       all_goals first
        | (exfalso;omega)
        | (refine lfE ?_;first | exact trivial | rfl)
   . rw [decide_eq_false h34,cond_false];clear cq;rw [<-w2j];unfold yrt;refine hE [] func158 f158.eq_1 ?_
     repeat' first|refine hF ?_ ?_<;>intros|(with_reducible first|refine x2t ?_|refine z5g ?_|refine wdy cl ?_|refine wdy cd ?_)<;>refine hgS ?_
     all_goals first
      | exact RLe.ofEq rfl
      | exact RLe.ofEq (by simp [*];exact ⟨rfl,rfl,rfl,rfl⟩)
theorem we6 (f:Nat) (l:List Int):gapL (f+1) l=bif (l.drop (l.takeWhile z8g).length).headD 0==35 then
 ((l.takeWhile z8g).length+((l.drop (l.takeWhile z8g).length).takeWhile (fun c=>!decide (c=10))).length)+gapL f (l.drop ((l.takeWhile z8g).length+((l.drop (l.takeWhile z8g).length).takeWhile (fun c=>!decide (c=10))).length))
 else (l.takeWhile z8g).length:=rfl
theorem xtl {α:Type} (p:α->Bool) (l:List α):(l.takeWhile p).length<=l.length:=(List.takeWhile_prefix p).length_le
theorem x7a:∀(f:Nat) (l:List Int),gapL f l<=l.length
 | 0,_=>Nat.zero_le _
 | f+1,l=>by
  rw [we6];have a:=xtl z8g l;have b:=xtl (fun c=>!decide (c=10)) (l.drop (l.takeWhile z8g).length);rw [List.length_drop] at b
  cases ((l.drop (l.takeWhile z8g).length).headD 0==35) with
  | false=>exact a
  | true=>
   have c:=x7a f (l.drop ((l.takeWhile z8g).length+((l.drop (l.takeWhile z8g).length).takeWhile (fun c=>!decide (c=10))).length));rw [List.length_drop] at c;rw [cond_true];omega
theorem x0a (s:ByteArray) (k i:Nat) (h:k+i<s.size):vpd (v7v s k) i=vpd s (k+i):=by
 have h':k+i<s.data.size:=h;unfold vpd v7v;rw [ByteArray.data_extract,Array.getElem?_extract,if_pos (by simp only [Nat.min_def];split<;>simp_all<;>omega)]
def spB (s:ByteArray) (k:Nat):Nat:=vuh z8g (v7v s k)
def spN (s:ByteArray) (k:Nat):Nat:=vuh (fun c=>!decide (c=10)) (v7v s k)
theorem vmn (s:ByteArray) (h:k<=s.size):k+spB s k<=s.size:=by
 have:=yz6 z8g (v7v s k)
 rw [wsw] at this;unfold spB;omega
theorem z6r (s:ByteArray) (n:Nat):((zcd s).drop n).headD 0==35↔n<s.size/\vpd s n=35:=by
 by_cases h:n<s.size
 . rw [xkq s n h];show (vpd s n==35)=true↔_;simp [h]
 . rw [List.drop_eq_nil_of_le (by rw [yjp];omega)];simp [h]
theorem wyg {s:ByteArray} (f:Nat) (h:¬(k+spB s k<s.size/\vpd s (k+spB s k)=35)):gapL (f+1) ((zcd s).drop k)=spB s k:=by
 have e:(((zcd s).drop k).takeWhile z8g).length=spB s k:=by unfold spB vuh;rw [yym]
 rw [we6,e,List.drop_drop]
 cases hc:(((zcd s).drop (k+spB s k)).headD 0==35) with
 | false=>rfl
 | true=>exact absurd ((z6r s _).1 hc) h
theorem w9w {s:ByteArray} (f:Nat) (h:k+spB s k<s.size/\vpd s (k+spB s k)=35):gapL (f+1) ((zcd s).drop k)=spB s k+spN s (k+spB s k)+gapL f ((zcd s).drop (k+spB s k+spN s (k+spB s k))):=by
 have e:(((zcd s).drop k).takeWhile z8g).length=spB s k:=by unfold spB vuh;rw [yym]
 have e2:(((zcd s).drop (k+spB s k)).takeWhile (fun c=>!decide (c=10))).length=spN s (k+spB s k):=by unfold spN vuh;rw [yym]
 rw [we6,e,List.drop_drop,(z6r s _).2 h,cond_true,e2,List.drop_drop,<-Nat.add_assoc]
theorem ydw {s:ByteArray} {n m:Nat} (hm:m<=s.size) (hnm:n<=m) (hj:∀ j,n<=j->j<m->¬vpd s j=10) (h:m=s.size\/vpd s m=10):spN s n=m-n:=by
 unfold spN;have hz:=wsw s n;refine z4v (by omega) (fun j hj'=>?_) ?_
 . rw [x0a s n j (by omega)];simpa using hj (n+j) (by omega) (by omega)
 . rcases h with h | h
   . exact .inl (by omega)
   . by_cases e:m=s.size
     . exact .inl (by omega)
     . refine .inr ?_;rw [x0a s n _ (by omega),show n+(m-n)=m by omega,h];rfl
theorem cGap (s:ByteArray) (hs:s.size<=1073741824):CallsD Γ prog 157 [.one (cS s)] (.one (cI (gapL (s.size+1) (zcd s)))):=by
 have cs:∀ n,CallsD Γ prog 149 [.one (cS (v7v s n)),fN 180] (.one (cI (spB s n))):=fun n=>wkq (Γ:=Γ) (v7v s n) _ _ (by rw [wsw];omega) ziy
 have c0:=cs 0;rw [show v7v s 0=s by unfold v7v;simp] at c0;have hz:=vmn s (Nat.zero_le _);rw [Nat.zero_add] at hz;generalize hR:gapL (s.size+1) (zcd s)=R;refine hE [] func157 f157.eq_1 ?_
 (with_reducible refine wdy c0 ?_)<;>refine hgS ?_
 clear c0;refine wf5 [0] (fun k:Nat=>[(3,.one (.dat (cI ((k+spB s k:Nat):Int))))]) (fun _=>[]) (fun k=>k<=s.size/\∃ f,s.size-k<=f/\k+gapL (f+1) ((zcd s).drop k)=R) (fun k=>s.size-k) 0 ⟨Nat.zero_le _,s.size,Nat.le_refl _,by rw [Nat.zero_add,List.drop_zero];exact hR⟩ ?_ ?_
 . refine hg1 @Nat.zero_add ?_;exact sS
 rintro k ⟨hk,f,hf,he⟩;clear hR;have hb:=vmn s hk;by_cases hc:k+spB s k<s.size/\vpd s (k+spB s k)=35
 . rw [w9w f hc] at he;obtain ⟨g1,g2⟩:=hc;generalize hn:k+spB s k=n at *;refine hg ?_
   refine hF ?_ ?_<;>intros
   all_goals try (exfalso;omega)
   refine wf5 [0] (fun m:Nat=>[(3,.one (.dat (cI m)))]) (fun _=>[]) (fun m=>n<=m/\m<=s.size/\∀ j,n<=j->j<m->¬vpd s j=10) (fun m=>s.size-m) n ⟨Nat.le_refl _,by omega,fun j h1 h2=>by omega⟩ ?_ ?_
   . refine hg ?_;exact sS
   rintro m ⟨m1,m2,m3⟩;have hstop:=ydw m2 m1 m3
   have hnext:¬vpd s m=10->∀ j,n<=j->j<m+1->¬vpd s j=10:=fun h j h1 h2=>by
    rcases Nat.lt_or_eq_of_le (Nat.le_of_lt_succ h2) with h3 | h3
    . exact m3 j h1 h3
    . rw [h3];exact h
   have hne:m=n->¬vpd s m=10:=fun h=>by rw [h,g2];decide
   have cm:=cs m;clear m3 cs;by_cases hm:m=s.size\/vpd s m=10
   . have e:=hstop hm
     have hn:¬m=n:=fun h=>by
      rcases hm with h' | h'
      . omega
      . exact hne h h'
     rw [e,show n+(m-n)=m by omega] at he;obtain ⟨f,rfl⟩:∃ g,f=g+1:=⟨f-1,by omega⟩;have hbm:=vmn s m2;clear hstop hnext hne;refine hg ?_
     repeat' first|refine hF ?_ ?_<;>intros|(with_reducible refine wdy cm ?_)<;>refine hgS ?_
     all_goals first
      | (exfalso;omega)
      | (exfalso;rcases hm with h | h;omega;contradiction)
      | exact ⟨m,⟨m2,f,by omega,by omega⟩,by omega,sS⟩
   . have h1:¬m=s.size:=fun h=>hm (.inl h)
     have h2:¬vpd s m=10:=fun h=>hm (.inr h)
     have hnext:=hnext h2;clear hstop hne cm hm;refine hg ?_
     repeat' (refine hF ?_ ?_<;>intros)
     all_goals first
      | (exfalso;omega)
      | exact ⟨m+1,⟨by omega,by omega,hnext⟩,by omega,sS⟩
 . rw [wyg f hc] at he;generalize k+spB s k=n at *;subst he;by_cases g1:n<s.size
   . have g2:¬vpd s n=35:=fun h=>hc ⟨g1,h⟩
     clear hc;refine hg ?_
     refine hF ?_ ?_<;>intros
     all_goals first
      | (exfalso;omega)
      | contradiction
      | exact RLe.ofEq rfl
   . clear hc;refine hg ?_
     repeat' (refine hF ?_ ?_<;>intros)
     all_goals first
      | (exfalso;omega)
      | exact RLe.ofEq rfl
end Go.Hp.T
