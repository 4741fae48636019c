/- The proof, part B35: Sf, Gh, Sg, Sh, Gf. -/
import Derived.Test.YtglblfkobflpmaaGreatB33
namespace Go.Hp.T
open Go Go.RowKit Go.Slot Go.Hp Go.Slot.T
open Go.Proofs.Tryz (prog)
attribute [local irreducible] hide RH
set_option maxRecDepth 10000
set_option maxHeartbeats 4000000
variable {Γ:List (Nat×List Cell)}
abbrev krZ (t c d:Bool):List Cell:=[cB t,cB c,cB d,cI 0,.zc,cI 0,.zc,cI 0,.zc,cI 0,.zc]
theorem y9i (c d:Bool):AV.Le (.agg (krZ true c d)) (.agg (knC (.tru c d))):=
 .agg (.cons (.refl _) (.cons (.refl _) (.cons (.refl _) (.cons (.refl _) (.cons (.zud _) (.cons (.refl _) (.cons (.zud _) (.cons (.refl _) (.cons (.zud _) (.cons (.refl _) (.cons (.zud _) .nil)))))))))))
theorem w2l (e:Int):RLe (.tup [.agg (krZ false false false),.one (cI e)]) (krR (.inl e)):=
 .tup (.cons (.agg (.cons (.refl _) (.cons (.refl _) (.cons (.refl _) (.cons (.refl _) (.cons (.zud _) (.cons (.refl _) (.cons (.zud _) (.cons (.refl _) (.cons (.zud _) (.cons (.refl _) (.cons (.zud _) .nil)))))))))))) (.cons (.refl _) .nil))
theorem vzl {c d:Bool} {r:Kr} (h:r=.inr (.tru c d)):RLe (.tup [.agg (krZ true c d),.one (cI 0)]) (krR r):=by
 subst h;exact .tup (.cons (y9i c d) (.cons (.refl _) .nil))
theorem zos:∀ x:Ex,x.Sm->CallsD Γ prog 66 [.agg (exC x)] (.one (cB x.wqm)):=by
 refine Ex.ind (fun x ih hx=>?_);have hl:=hx.len;have hR:=Ex.xrx x;generalize x.wqm=R at hR;refine CallsD.run [] Go.Proofs.Tryz.func66 rfl rfl rfl ?_;simp only [Go.Proofs.Tryz.f66];refine hgR ?_;refine x20 [1,2,6,7] (fun n:Nat=>[(8,.one (.dat (cI n)))]) (fun _=>[.box ((exC x).map .dat) (some 24)]) (fun n=>n<=x.args.length/\∀ j,j<n->(x.args.getD j default).wqm=false) (fun n=>x.args.length-n) 0 ⟨Nat.zero_le _,fun j hj=>by omega⟩ ?_ ?_
 . refine hg ?_;exact StH.same svl rfl
 intro n hn;obtain ⟨hn,hj⟩:=hn;refine hg ?_;refine vt2 (fun hlt _=>?_) (fun hlt _=>?_)
 . have hlt':n<x.args.length:=by omega
   have hc:=ih _ (y7p hlt') (hx.arg _ (y7p hlt'))
   have hyes:(x.args.getD n default).wqm=true->x.args.any Ex.wqm=true:=fun h=>List.any_eq_true.2 ⟨_,y7p hlt',h⟩
   have hnext:(x.args.getD n default).wqm=false->∀ j,j<n+1->(x.args.getD j default).wqm=false:=fun h j hj2=>by
    rcases Nat.lt_or_ge j n with h3 | h3
    . exact hj j h3
    . rw [show j=n by omega];exact h
   clear ih hj;generalize (x.args.getD n default).wqm=b at hc hyes hnext;refine hg ?_
   repeat' ((first | refine hfk ?_ ?_<;>intros | refine hik ?_ | with_reducible first | refine wml (hc) ?_ | refine ysi (hc) ?_)<;>refine hgS ?_)
   all_goals first
    | (rw [Bool.or_true];exact RLe.ofEq rfl)
    | exact RLe.ofEq (by rw [hR,hyes (by assumption),Bool.or_true])
    | exact ⟨n+1,⟨by omega,hnext (by assumption)⟩,by omega,StH.back [1,2,6,7,8] 0 0 1 rfl rfl rfl rfl rfl (by kernel_rfl) (StH.same svl rfl)⟩
 . have e:n=x.args.length:=by omega
   subst e
   have ha:x.args.any Ex.wqm=false:=by
    rw [List.any_eq_false];intro y hy;obtain ⟨j,hj',rfl⟩:=List.getElem_of_mem hy
    have:=hj j hj'
    rw [show x.args.getD j default=x.args[j] from by simp [hj']] at this;simp [this]
   refine hg ?_;exact RLe.ofEq (by rw [hR,ha,Bool.or_false])
theorem wqt (o:Int) (ks:List Kn) (ho:vv5 o=true) (c d c' d':Bool) (hl0:1<=ks.length) (hl1:o≠4->2<=ks.length) (hl:ks.length<=1073741824) (h0:ks.getD 0 default=.tru c d) (h1:o≠4->ks.getD 1 default=.tru c' d') :
 CallsD Γ prog 112 [.one (cI o),.one (.sl 11 (ks.map Kn.C))] (.agg (knC (truH o (.tru c d) (.tru c' d')))):=by
 unfold truH
 rcases ygv.1 ho with rfl | rfl | rfl
 . refine CallsD.run [] Go.Proofs.Tryz.func112 rfl rfl rfl ?_;simp only [Go.Proofs.Tryz.f112];refine hgR ?_;refine hg1 @h0 ?_
   repeat' ((first | refine hfk ?_ ?_<;>intros | refine hik ?_)<;>refine hgS ?_)
   exact RLe.ofEq rfl
 . have h1:=h1 (by decide);have hl1:=hl1 (by decide);refine CallsD.run [] Go.Proofs.Tryz.func112 rfl rfl rfl ?_;simp only [Go.Proofs.Tryz.f112];refine hgR ?_;refine hg2 @h0 @h1 ?_
   repeat' ((first | refine hfk ?_ ?_<;>intros | refine hik ?_)<;>refine hgS ?_)
   all_goals refine lfE ?_;first | exact trivial | rfl
 . have h1:=h1 (by decide);have hl1:=hl1 (by decide);refine CallsD.run [] Go.Proofs.Tryz.func112 rfl rfl rfl ?_;simp only [Go.Proofs.Tryz.f112];refine hgR ?_;refine hg2 @h0 @h1 ?_
   repeat' ((first | refine hfk ?_ ?_<;>intros | refine hik ?_)<;>refine hgS ?_)
   all_goals refine lfE ?_;first | exact trivial | rfl
theorem xfa {x y:Rat}:decide (0<=Fc.ordQ x y)=decide (y<=x):=by
 have:=@y0b x y
 rw [show decide (0<=Fc.ordQ x y) = !decide (Fc.ordQ x y<0) by rw [<-decide_not];exact decide_eq_decide.2 (by omega),this,<-decide_not];exact decide_eq_decide.2 Rat.not_lt
theorem ycg (o:Int) (ho:6<=o/\o<=13) (a b:Iv) (ha:ivZ a<=33554400) (hb:ivZ b<=33554400):CallsD Γ prog 114 [.one (cI o),.agg (ivC a),.agg (ivC b)] (krR (numH o a b)):=by
 have c1:=iAdd (Γ:=Γ) a b (by omega) (by omega);have c2:=iSub (Γ:=Γ) a b (by omega) (by omega);have c3:=iMul (Γ:=Γ) a b (by omega) (by omega);have c4:=iMin (Γ:=Γ) a b (by omega) (by omega);have c5:=iMax (Γ:=Γ) a b (by omega) (by omega);have c6:=oCmp (Γ:=Γ) (some a.lo) (some b.hi) (zlo ha) (zhi hb);have c7:=oCmp (Γ:=Γ) (some a.hi) (some b.lo) (zhi ha) (zlo hb);have c8:=zjo (Γ:=Γ) a b (by omega) (by omega);have c9:=vr6 (Γ:=Γ) a b (by omega) (by omega);have c10:=wpd (Γ:=Γ) (some a.lo) (some a.hi) (zlo ha) (zhi ha);unfold numH
 have:o=6\/o=7\/o=8\/o=9\/o=10\/o=11\/o=12\/o=13:=by omega
 rcases this with rfl | rfl | rfl | rfl | rfl | rfl | rfl | rfl<;>simp only [Int.reduceEq,decide_true,decide_false,cond_true,cond_false]
 . refine CallsD.run [] Go.Proofs.Tryz.func114 rfl rfl rfl ?_;simp only [Go.Proofs.Tryz.f114];refine hgR ?_
   repeat' ((first | refine hfk ?_ ?_<;>intros | refine hik ?_ | with_reducible first | refine wml (c1) ?_ | refine ysi (c1) ?_)<;>refine hgS ?_)
   exact RLe.ofEq rfl
 . refine CallsD.run [] Go.Proofs.Tryz.func114 rfl rfl rfl ?_;simp only [Go.Proofs.Tryz.f114];refine hgR ?_
   repeat' ((first | refine hfk ?_ ?_<;>intros | refine hik ?_ | with_reducible first | refine wml (c2) ?_ | refine ysi (c2) ?_)<;>refine hgS ?_)
   exact RLe.ofEq rfl
 . refine CallsD.run [] Go.Proofs.Tryz.func114 rfl rfl rfl ?_;simp only [Go.Proofs.Tryz.f114];refine hgR ?_
   repeat' ((first | refine hfk ?_ ?_<;>intros | refine hik ?_ | with_reducible first | refine wml (c3) ?_ | refine ysi (c3) ?_)<;>refine hgS ?_)
   exact RLe.ofEq rfl
 . cases h0:b.has 0 with
   | true=>
    have d1:=ze3 (Γ:=Γ) a b h0 (by omega) (by omega);refine CallsD.run [] Go.Proofs.Tryz.func114 rfl rfl rfl ?_;simp only [Go.Proofs.Tryz.f114];refine hgR ?_
    repeat' ((first | refine hfk ?_ ?_<;>intros | refine hik ?_ | with_reducible first | refine wml (d1) ?_ | refine ysi (d1) ?_)<;>refine hgS ?_)
    exact RLe.ofEq rfl
   | false=>
    have d1:=vwh (Γ:=Γ) a b h0 (by omega) (by omega);refine CallsD.run [] Go.Proofs.Tryz.func114 rfl rfl rfl ?_;simp only [Go.Proofs.Tryz.f114];refine hgR ?_
    repeat' ((first | refine hfk ?_ ?_<;>intros | refine hik ?_ | with_reducible first | refine wml (d1) ?_ | refine ysi (d1) ?_)<;>refine hgS ?_)
    exact RLe.ofEq rfl
 . refine CallsD.run [] Go.Proofs.Tryz.func114 rfl rfl rfl ?_;simp only [Go.Proofs.Tryz.f114];refine hgR ?_
   repeat' ((first | refine hfk ?_ ?_<;>intros | refine hik ?_ | with_reducible first | refine wml (c4) ?_ | refine ysi (c4) ?_)<;>refine hgS ?_)
   exact RLe.ofEq rfl
 . refine CallsD.run [] Go.Proofs.Tryz.func114 rfl rfl rfl ?_;simp only [Go.Proofs.Tryz.f114];refine hgR ?_
   repeat' ((first | refine hfk ?_ ?_<;>intros | refine hik ?_ | with_reducible first | refine wml (c5) ?_ | refine ysi (c5) ?_)<;>refine hgS ?_)
   exact RLe.ofEq rfl
 . have e1:decide (cmpO (some a.lo) (some b.hi)<0)=decide (a.lo<b.hi):=y0b;have e2:decide (0<=cmpO (some a.hi) (some b.lo))=decide (b.lo<=a.hi):=xfa;rw [<-e1,<-e2];clear e1 e2;refine CallsD.run [] Go.Proofs.Tryz.func114 rfl rfl rfl ?_;simp only [Go.Proofs.Tryz.f114];refine hgR ?_
   repeat' ((first | refine hfk ?_ ?_<;>intros | refine hik ?_ | with_reducible first | refine wml (c6) ?_ | refine ysi (c6) ?_ | refine wml (c7) ?_ | refine ysi (c7) ?_)<;>refine hgS ?_)
   exact vzl rfl
 . rw [show decide (a.lo=a.hi)=decide (some a.lo=some a.hi) from decide_eq_decide.2 ⟨fun h=>by rw [h],fun h=>Option.some.inj h⟩];generalize decide (a=b)=p at c9 ⊢;generalize decide (some a.lo=some a.hi)=q at c10 ⊢;refine CallsD.run [] Go.Proofs.Tryz.func114 rfl rfl rfl ?_;simp only [Go.Proofs.Tryz.f114];refine hgR ?_
   repeat' ((first | refine hfk ?_ ?_<;>intros | refine hik ?_ | with_reducible first | refine wml (c8) ?_ | refine ysi (c8) ?_ | refine wml (c9) ?_ | refine ysi (c9) ?_ | refine wml (c10) ?_ | refine ysi (c10) ?_)<;>refine hgS ?_)
   all_goals exact vzl (by (refine bsE ?_;try exact trivial))
theorem vyf (t:Tb) (k:Iv) (hk:ivZ k<=67108864) (ht:tbOk t=true) (hs:t.Sm):CallsD Γ prog 113 [.agg (tbC t),.agg (ivC k)] (krR (yyv t k)):=by
 have hl:=hs.r;have hrows:=(yg5 ht).2.2.2
 have L:∀ q,qs q<=67108864->CallsD Γ prog 103 [.agg (tbC t),.agg (qC (some q))] (qR (xwc t (some q)).1 (xwc t (some q)).2):=fun q hq=>vud t (some q) hq hs.n hs.u hs.r
 have hL:=L k.lo (zlo hk);unfold yyv
 rcases xh4 ht k.lo with ⟨h,w,hw,hq⟩ | ⟨h,hw⟩
 . rw [h,hw] at hL ⊢;rw [decide_eq_true rfl,cond_true,show (some w).getD 0=w from rfl];have hp:=ztr (Γ:=Γ) w (by omega);generalize hR:vhp t k t.rows (Iv.pt w)=R;refine CallsD.run [] Go.Proofs.Tryz.func113 rfl rfl rfl ?_;simp only [Go.Proofs.Tryz.f113];refine hgR ?_
   repeat' ((first | refine hfk ?_ ?_<;>intros | refine hik ?_ | with_reducible first | refine wml (hL) ?_ | refine ysi (hL) ?_ | refine wml (hp) ?_ | refine ysi (hp) ?_)<;>refine hgS ?_)
   refine x20 [2,3,4,5,6,7,8,26,27] (fun p:Nat×Iv×Rat=>[(28,.one (.dat (cI p.1)))]) (fun p=>[.box ((tbC t).map .dat) (some 40),.box ((ivC k).map .dat) (some 49),.box ((krZ false false false).map .dat) (some 84),.box ((qC (some p.2.2)).map .dat) (some 34),.box ((ivC p.2.1).map .dat) (some 49)])
    (fun p=>p.1<=t.rows.length/\ivZ p.2.1<=4204/\R=vhp t k (t.rows.drop p.1) p.2.1) (fun p=>t.rows.length-p.1) (0,Iv.pt w,w) ⟨Nat.zero_le _,by rw [xyu];exact hq,hR.symm⟩ ?_ ?_
   . refine hg ?_;exact StH.same svl rfl
   clear hR hL hp;rintro ⟨i,v,q⟩ ⟨q1,q2,q3⟩;simp only at q1 q2 q3;refine hg ?_;refine vt2 (fun hlt _=>?_) (fun hlt _=>?_)
   . have hlt':i<t.rows.length:=by omega
     have hkey:=w3q ht hlt';have hin:=zr8 (hrows i hlt').1;have c1:=oInt (Γ:=Γ) (t.rows.getD i default).k (by unfold inI;omega);have hz:qs (((t.rows.getD i default).k:Int):Rat)<=4:=x11 (by unfold inI;omega);have c2:=iHas (Γ:=Γ) k (((t.rows.getD i default).k:Int):Rat) hk (by omega);have c3:=L (((t.rows.getD i default).k:Int):Rat) (by omega);rw [hkey] at c3
     have hw':qs (tw t i)<=4204:=by
      have h:=x24 t (some (((t.rows.getD i default).k:Int):Rat));rw [hkey] at h;exact h
     have c4:=ztr (Γ:=Γ) (tw t i) (by omega);have c5:=zqk (Γ:=Γ) v (Iv.pt (tw t i)) (by omega) (by rw [xyu];omega);have hz2:ivZ (v.hull (Iv.pt (tw t i)))<=4204:=xuc q2 (by rw [xyu];exact hw');rw [xfc hlt',vhp,hkey,show (some (tw t i),(0:Int)).1.getD 0=tw t i from rfl] at q3;clear hkey L hrows;generalize tw t i=u at *;generalize k.has (((t.rows.getD i default).k:Int):Rat)=b at *;refine hg ?_
     repeat' ((first | refine hfk ?_ ?_<;>intros | refine hik ?_ | with_reducible first | refine wml (c1) ?_ | refine ysi (c1) ?_ | refine wml (c2) ?_ | refine ysi (c2) ?_ | refine wml (c3) ?_ | refine ysi (c3) ?_ | refine wml (c4) ?_ | refine ysi (c4) ?_ | refine wml (c5) ?_ | refine ysi (c5) ?_)<;>refine hgS ?_)
     . refine ⟨(i+1,v.hull (Iv.pt u),u),⟨by dsimp only;omega,hz2,rfl⟩,by dsimp only;omega,?_⟩;exact StH.back [2,3,4,5,6,7,8,26,27,28] 0 0 5 rfl rfl rfl rfl rfl (by kernel_rfl) (StH.same svl rfl)
     . refine ⟨(i+1,v,q),⟨by dsimp only;omega,q2,rfl⟩,by dsimp only;omega,?_⟩;exact StH.back [2,3,4,5,6,7,8,26,27,28] 0 0 5 rfl rfl rfl rfl rfl (by kernel_rfl) (StH.same svl rfl)
   . have e:i=t.rows.length:=by omega
     subst e;rw [List.drop_eq_nil_of_le (Nat.le_refl _),vhp] at q3;subst q3;refine hg ?_;exact RLe.ofEq rfl
 . rw [h,hw] at hL ⊢;refine CallsD.run [] Go.Proofs.Tryz.func113 rfl rfl rfl ?_;simp only [Go.Proofs.Tryz.f113];refine hgR ?_
   repeat' ((first | refine hfk ?_ ?_<;>intros | refine hik ?_ | with_reducible first | refine wml (hL) ?_ | refine ysi (hL) ?_)<;>refine hgS ?_)
   all_goals first
    | exact w2l 4
    | (exfalso;omega)
end Go.Hp.T
namespace Go.Hp.T
open Go Go.RowKit Go.Slot Go.Hp Go.Slot.T
open Go.Proofs.Tryz (prog)
set_option maxRecDepth 10000
set_option maxHeartbeats 4000000
variable {Γ:List (Nat×List Cell)}
end Go.Hp.T
namespace Go.Hp.T
open Go Go.RowKit Go.Slot Go.Hp Go.Slot.T
open Go.Proofs.Tryz (prog)
attribute [local irreducible] hide RH
set_option maxRecDepth 10000
set_option maxHeartbeats 4000000
variable {Γ:List (Nat×List Cell)}
theorem ysf {r:Nat->Nat} {l:Vi}:rnSB r (.map (envI l))=.map (envI l):=yp7 (fun _ _=>rfl) r l
theorem v8k (i j:Nat) (l:Vi):swSB i j (.map (envI l))=.map (envI l):=xgc (fun _ _ _=>rfl) i j l
theorem xvz (l:Vi):vb5 (.map (envI l))=[]:=xuj (fun _=>rfl) l
attribute [go_sem] xvz
attribute [go_sem 20000] ysf v8k
abbrev mI (l:Vi):SB:=.map (envI l)
theorem xkn (V:Vi) (T:Vt):∀ r,[mI V,mB T].map (rnSB r)=[mI V,mB T]:=fun r=>by
 simp only [List.map_cons,List.map_nil,mI,mB,ysf,zgw]
theorem StH.krE {e:List SB} {I:List SV} {J:List SB} {n:Int} {r:Kr} (he:J.take e.length=e) (h:(I.all fun x=>(wj3 x).all fun b=>Nat.blt b e.length)=true) (hσ:I=[SV.tup [.agg ((krZ false false false).map .dat),.one (.dat (cI n))]]) (hr:r=.inl n):StH Γ e I J [krV r] e:=by
 subst hr;exact StH.trans (StH.vzq he h hσ) (StH.trans (StH.tup1 (l':=[.agg ((krC (.inl n)).map .dat),.one (.dat (cI n))]) (.cons (.agg (.cons (.refl _) (.cons (.refl _) (.cons (.refl _) (.cons (.refl _) (.cons (.dat (.zud _)) (.cons (.refl _) (.cons (.dat (.zud _)) (.cons (.refl _) (.cons (.dat (.zud _)) (.cons (.refl _) (.cons (.dat (.zud _)) .nil)))))))))))) (.cons (.refl _) .nil))) StH.refl)
theorem xk5 (V:Vi) (T:Vt) (s:ByteArray) (hs:s.size<=1073741824):xpp Γ prog 109 [mI V,mB T] [.agg [.mp 0,.mp 1],.one (.dat (cS s))] [mI V,mB T] (.one (.dat (cB (!((z2f V s).isSome||(z2f T s).isSome||!isName s||isWord s))))):=by
 have c1:=vfk (Γ:=Γ) s (by omega);have c2:=yko (Γ:=Γ) s;generalize isName s=p at c1 ⊢;generalize isWord s=q at c2 ⊢
 cases h1:z2f V s with
 | none=>cases h2:z2f T s with
  | none=>
   refine xpp.run [] Go.Proofs.Tryz.func109 rfl rfl ?_;simp only [Go.Proofs.Tryz.f109];refine hgR ?_;refine hg2 @h1 @h2 ?_
   repeat' ((first | refine hfk ?_ ?_<;>intros | refine hik ?_ | with_reducible first | refine wml (c1) ?_ | refine ysi (c1) ?_ | refine wml (c2) ?_ | refine ysi (c2) ?_)<;>refine hgS ?_)
   all_goals exact StH.vzq rfl (by kernel_rfl) (by (((conv=>simp only [Bool.and_true,Bool.true_and,Bool.and_false,Bool.false_and,Bool.or_true,Bool.true_or,Bool.or_false,Bool.false_or,Bool.not_true,Bool.not_false,decide_true,decide_false,not_true_eq_false,not_false_eq_true,wit,if_true,if_false,Bool.and_self,Bool.or_self,cond_true,cond_false,List.length_map,ne_eq,Int.reduceEq,Int.reduceLT,Int.reduceLE, *,h1,h2,Option.isSome])<;>try exact trivial))<;>first | rfl | trivial)
  | some t=>
   refine xpp.run [] Go.Proofs.Tryz.func109 rfl rfl ?_;simp only [Go.Proofs.Tryz.f109];refine hgR ?_;refine hg2 @h1 @h2 ?_
   repeat' ((first | refine hfk ?_ ?_<;>intros | refine hik ?_ | with_reducible first | refine wml (c1) ?_ | refine ysi (c1) ?_ | refine wml (c2) ?_ | refine ysi (c2) ?_)<;>refine hgS ?_)
   all_goals exact StH.vzq rfl (by kernel_rfl) (by (((conv=>simp only [Bool.and_true,Bool.true_and,Bool.and_false,Bool.false_and,Bool.or_true,Bool.true_or,Bool.or_false,Bool.false_or,Bool.not_true,Bool.not_false,decide_true,decide_false,not_true_eq_false,not_false_eq_true,wit,if_true,if_false,Bool.and_self,Bool.or_self,cond_true,cond_false,List.length_map,ne_eq,Int.reduceEq,Int.reduceLT,Int.reduceLE, *,h1,h2,Option.isSome])<;>try exact trivial))<;>first | rfl | trivial)
 | some q=>cases h2:z2f T s with
  | none=>
   refine xpp.run [] Go.Proofs.Tryz.func109 rfl rfl ?_;simp only [Go.Proofs.Tryz.f109];refine hgR ?_;refine hg2 @h1 @h2 ?_
   repeat' ((first | refine hfk ?_ ?_<;>intros | refine hik ?_ | with_reducible first | refine wml (c1) ?_ | refine ysi (c1) ?_ | refine wml (c2) ?_ | refine ysi (c2) ?_)<;>refine hgS ?_)
   all_goals exact StH.vzq rfl (by kernel_rfl) (by (((conv=>simp only [Bool.and_true,Bool.true_and,Bool.and_false,Bool.false_and,Bool.or_true,Bool.true_or,Bool.or_false,Bool.false_or,Bool.not_true,Bool.not_false,decide_true,decide_false,not_true_eq_false,not_false_eq_true,wit,if_true,if_false,Bool.and_self,Bool.or_self,cond_true,cond_false,List.length_map,ne_eq,Int.reduceEq,Int.reduceLT,Int.reduceLE, *,h1,h2,Option.isSome])<;>try exact trivial))<;>first | rfl | trivial)
  | some t=>
   refine xpp.run [] Go.Proofs.Tryz.func109 rfl rfl ?_;simp only [Go.Proofs.Tryz.f109];refine hgR ?_;refine hg2 @h1 @h2 ?_
   repeat' ((first | refine hfk ?_ ?_<;>intros | refine hik ?_ | with_reducible first | refine wml (c1) ?_ | refine ysi (c1) ?_ | refine wml (c2) ?_ | refine ysi (c2) ?_)<;>refine hgS ?_)
   all_goals exact StH.vzq rfl (by kernel_rfl) (by (((conv=>simp only [Bool.and_true,Bool.true_and,Bool.and_false,Bool.false_and,Bool.or_true,Bool.true_or,Bool.or_false,Bool.false_or,Bool.not_true,Bool.not_false,decide_true,decide_false,not_true_eq_false,not_false_eq_true,wit,if_true,if_false,Bool.and_self,Bool.or_self,cond_true,cond_false,List.length_map,ne_eq,Int.reduceEq,Int.reduceLT,Int.reduceLE, *,h1,h2,Option.isSome])<;>try exact trivial))<;>first | rfl | trivial)
theorem z8b (V:Vi) (T:Vt) (x:Ex) (hx:x.Sm) (hn:inI x.n) (h0:x.op=0):xpp Γ prog 110 [mI V,mB T] [.agg [.mp 0,.mp 1],.agg ((exC x).map .dat)] [mI V,mB T] (krV (waw x.n x.unit)):=by
 have hu:=hx.u;have hz:=x11 hn;have ho:=oInt (Γ:=Γ) x.n hn
 rcases ver x.unit with ⟨u,h,hq⟩ | ⟨e,he,h⟩
 . have hr:=xyv (Γ:=Γ) hu h;obtain ⟨r1,r2⟩:=yv0 h;have hf:=zdl (Γ:=Γ) (x.n:Rat) u r1 r2 (Nat.le_trans hz (by decide)) (by omega);have hp:=ztr (Γ:=Γ) ((x.n:Rat)*u.f) (by have:=vmu (x.n:Rat) u.f;have hz:qs (x.n:Rat)<=4:=hz;omega)
   have e1:waw x.n x.unit=.inr (.num (Iv.pt ((x.n:Rat)*u.f))):=by unfold waw facO;rw [h];rfl
   rw [e1];refine xpp.run [] Go.Proofs.Tryz.func110 rfl rfl ?_;simp only [Go.Proofs.Tryz.f110];refine hgR ?_
   repeat' ((first | refine hfk ?_ ?_<;>intros | refine hik ?_ | with_reducible first | refine wml (hr) ?_ | refine ysi (hr) ?_ | refine wml (ho) ?_ | refine ysi (ho) ?_ | refine wml (hf) ?_ | refine ysi (hf) ?_ | refine wml (hp) ?_ | refine ysi (hp) ?_)<;>refine hgS ?_)
   all_goals first
    | (exfalso;omega)
    | exact StH.vzq rfl (by kernel_rfl) rfl
 . have hr:=xmw (Γ:=Γ) x.unit hu;rw [h] at hr
   have e1:waw x.n x.unit=.inl 14:=by unfold waw;rw [h];simp only [decide_eq_true he,cond_true]
   rw [e1];refine xpp.run [] Go.Proofs.Tryz.func110 rfl rfl ?_;simp only [Go.Proofs.Tryz.f110];refine hgR ?_
   repeat' ((first | refine hfk ?_ ?_<;>intros | refine hik ?_ | with_reducible first | refine wml (hr) ?_ | refine ysi (hr) ?_)<;>refine hgS ?_)
   all_goals first
    | (exfalso;omega)
    | exact StH.krE rfl (by kernel_rfl) rfl rfl
theorem v6o (V:Vi) (T:Vt) (x:Ex) (h1:x.op=1):xpp Γ prog 110 [mI V,mB T] [.agg [.mp 0,.mp 1],.agg ((exC x).map .dat)] [mI V,mB T] (krV (veg V x.name)):=by
 unfold veg
 cases hlk:z2f V x.name with
 | none=>
  refine xpp.run [] Go.Proofs.Tryz.func110 rfl rfl ?_;simp only [Go.Proofs.Tryz.f110];refine hgR ?_
  repeat' ((first | refine hfk ?_ ?_<;>intros | refine hik ?_)<;>refine hgS ?_)
  all_goals try (exfalso;omega)
  refine hg1 @hlk ?_
  repeat' ((first | refine hfk ?_ ?_<;>intros | refine hik ?_)<;>refine hgS ?_)
  all_goals first
   | (exfalso;omega)
   | exact StH.krE rfl (by kernel_rfl) rfl rfl
 | some q=>
  refine xpp.run [] Go.Proofs.Tryz.func110 rfl rfl ?_;simp only [Go.Proofs.Tryz.f110];refine hgR ?_
  repeat' ((first | refine hfk ?_ ?_<;>intros | refine hik ?_)<;>refine hgS ?_)
  all_goals try (exfalso;omega)
  refine hg1 @hlk ?_
  repeat' ((first | refine hfk ?_ ?_<;>intros | refine hik ?_)<;>refine hgS ?_)
  all_goals first
   | (exfalso;omega)
   | exact StH.vzq rfl (by kernel_rfl) rfl
theorem z1f (V:Vi) (T:Vt) (x:Ex) (hl:3<=x.args.length) (hl2:x.args.length<=1073741824) (r0 r1 r2:Kr) (hk0:Kok 67108864 r0) (hk1:Kok 67108864 r1) (hk2:Kok 67108864 r2)
 (h0:xpp Γ prog 68 [mI V,mB T] [.agg [.mp 0,.mp 1],.agg ((exC (x.args.getD 0 default)).map .dat)] [mI V,mB T] (krV r0))
 (h1:xpp Γ prog 68 [mI V,mB T] [.agg [.mp 0,.mp 1],.agg ((exC (x.args.getD 1 default)).map .dat)] [mI V,mB T] (krV r1))
 (h2:xpp Γ prog 68 [mI V,mB T] [.agg [.mp 0,.mp 1],.agg ((exC (x.args.getD 2 default)).map .dat)] [mI V,mB T] (krV r2)) :
 xpp Γ prog 111 [mI V,mB T] [.agg [.mp 0,.mp 1],.agg ((exC x).map .dat)] [mI V,mB T] (krV (chH r0 r1 r2)):=by
 rcases r0 with e | ⟨c,d⟩ | v
 . have he:¬e=0:=hk0;refine xpp.run [] Go.Proofs.Tryz.func111 rfl rfl ?_;simp only [Go.Proofs.Tryz.f111];refine hgR ?_;refine hg ?_;refine xhw 2 (fun ξ=>xpp.pre h0 (xkn V T) rfl rfl) rfl rfl ?_;clear h0;refine hg ?_
   repeat' ((first | refine hfk ?_ ?_<;>intros | refine hik ?_)<;>refine hgS ?_)
   all_goals first
    | (exfalso;omega)
    | exact StH.krE rfl (by kernel_rfl) rfl rfl
 . cases c with
   | false=>
    refine xpp.run [] Go.Proofs.Tryz.func111 rfl rfl ?_;simp only [Go.Proofs.Tryz.f111];refine hgR ?_;refine hg ?_;refine xhw 2 (fun ξ=>xpp.pre h0 (xkn V T) rfl rfl) rfl rfl ?_;clear h0;refine hg ?_
    repeat' ((first | refine hfk ?_ ?_<;>intros | refine hik ?_)<;>refine hgS ?_)
    all_goals try (exfalso;omega)
    refine xhw 2 (fun ξ=>xpp.pre h2 (xkn V T) rfl rfl) rfl rfl ?_;refine hg ?_
    repeat' ((first | refine hfk ?_ ?_<;>intros | refine hik ?_)<;>refine hgS ?_)
    exact StH.vzq rfl (by kernel_rfl) rfl
   | true=>
    rcases r1 with e | a
    . have he:¬e=0:=hk1;refine xpp.run [] Go.Proofs.Tryz.func111 rfl rfl ?_;simp only [Go.Proofs.Tryz.f111];refine hgR ?_;refine hg ?_;refine xhw 2 (fun ξ=>xpp.pre h0 (xkn V T) rfl rfl) rfl rfl ?_;clear h0;refine hg ?_
      repeat' ((first | refine hfk ?_ ?_<;>intros | refine hik ?_)<;>refine hgS ?_)
      all_goals try (exfalso;omega)
      refine xhw 2 (fun ξ=>xpp.pre h1 (xkn V T) rfl rfl) rfl rfl ?_;refine hg ?_
      repeat' ((first | refine hfk ?_ ?_<;>intros | refine hik ?_)<;>refine hgS ?_)
      all_goals first
       | (exfalso;omega)
       | exact StH.vzq rfl (by kernel_rfl) rfl
    . cases d with
      | false=>
       refine xpp.run [] Go.Proofs.Tryz.func111 rfl rfl ?_;simp only [Go.Proofs.Tryz.f111];refine hgR ?_;refine hg ?_;refine xhw 2 (fun ξ=>xpp.pre h0 (xkn V T) rfl rfl) rfl rfl ?_;clear h0;refine hg ?_
       repeat' ((first | refine hfk ?_ ?_<;>intros | refine hik ?_)<;>refine hgS ?_)
       all_goals try (exfalso;omega)
       refine xhw 2 (fun ξ=>xpp.pre h1 (xkn V T) rfl rfl) rfl rfl ?_;refine hg ?_
       repeat' ((first | refine hfk ?_ ?_<;>intros | refine hik ?_)<;>refine hgS ?_)
       all_goals first
        | (exfalso;omega)
        | exact StH.vzq rfl (by kernel_rfl) rfl
      | true=>
       rcases r2 with e | b
       . have he:¬e=0:=hk2;refine xpp.run [] Go.Proofs.Tryz.func111 rfl rfl ?_;simp only [Go.Proofs.Tryz.f111];refine hgR ?_;refine hg ?_;refine xhw 2 (fun ξ=>xpp.pre h0 (xkn V T) rfl rfl) rfl rfl ?_;clear h0;refine hg ?_
         repeat' ((first | refine hfk ?_ ?_<;>intros | refine hik ?_)<;>refine hgS ?_)
         all_goals try (exfalso;omega)
         refine xhw 2 (fun ξ=>xpp.pre h1 (xkn V T) rfl rfl) rfl rfl ?_;refine hg ?_
         repeat' ((first | refine hfk ?_ ?_<;>intros | refine hik ?_)<;>refine hgS ?_)
         all_goals try (exfalso;omega)
         refine xhw 2 (fun ξ=>xpp.pre h2 (xkn V T) rfl rfl) rfl rfl ?_;refine hg ?_
         repeat' ((first | refine hfk ?_ ?_<;>intros | refine hik ?_)<;>refine hgS ?_)
         all_goals first
          | (exfalso;omega)
          | exact StH.krE rfl (by kernel_rfl) rfl rfl
       . have hH:∀ v w,a=.num v->b=.num w->CallsD Γ prog 149 [.agg (ivC v),.agg (ivC w)] (ivR (v.hull w)):=fun v w e1 e2=>by
          subst e1;subst e2;exact zqk v w hk1 hk2
         rcases a with ⟨c,d⟩ | v<;>rcases b with ⟨c',d'⟩ | w
         . clear hH;refine xpp.run [] Go.Proofs.Tryz.func111 rfl rfl ?_;simp only [Go.Proofs.Tryz.f111];refine hgR ?_;refine hg ?_;refine xhw 2 (fun ξ=>xpp.pre h0 (xkn V T) rfl rfl) rfl rfl ?_;clear h0;refine hg ?_
           repeat' ((first | refine hfk ?_ ?_<;>intros | refine hik ?_)<;>refine hgS ?_)
           all_goals try (exfalso;omega)
           refine xhw 2 (fun ξ=>xpp.pre h1 (xkn V T) rfl rfl) rfl rfl ?_;refine hg ?_
           repeat' ((first | refine hfk ?_ ?_<;>intros | refine hik ?_)<;>refine hgS ?_)
           all_goals try (exfalso;omega)
           refine xhw 2 (fun ξ=>xpp.pre h2 (xkn V T) rfl rfl) rfl rfl ?_;refine hg ?_
           repeat' ((first | refine hfk ?_ ?_<;>intros | refine hik ?_)<;>refine hgS ?_)
           all_goals first
            | (exfalso;omega)
            | (subst_vars;exact StH.vzq rfl (by kernel_rfl) rfl)
         . clear hH;refine xpp.run [] Go.Proofs.Tryz.func111 rfl rfl ?_;simp only [Go.Proofs.Tryz.f111];refine hgR ?_;refine hg ?_;refine xhw 2 (fun ξ=>xpp.pre h0 (xkn V T) rfl rfl) rfl rfl ?_;clear h0;refine hg ?_
           repeat' ((first | refine hfk ?_ ?_<;>intros | refine hik ?_)<;>refine hgS ?_)
           all_goals try (exfalso;omega)
           refine xhw 2 (fun ξ=>xpp.pre h1 (xkn V T) rfl rfl) rfl rfl ?_;refine hg ?_
           repeat' ((first | refine hfk ?_ ?_<;>intros | refine hik ?_)<;>refine hgS ?_)
           all_goals try (exfalso;omega)
           refine xhw 2 (fun ξ=>xpp.pre h2 (xkn V T) rfl rfl) rfl rfl ?_;refine hg ?_
           repeat' ((first | refine hfk ?_ ?_<;>intros | refine hik ?_)<;>refine hgS ?_)
           all_goals first
            | (exfalso;omega)
            | exact StH.krE rfl (by kernel_rfl) rfl rfl
         . clear hH;refine xpp.run [] Go.Proofs.Tryz.func111 rfl rfl ?_;simp only [Go.Proofs.Tryz.f111];refine hgR ?_;refine hg ?_;refine xhw 2 (fun ξ=>xpp.pre h0 (xkn V T) rfl rfl) rfl rfl ?_;clear h0;refine hg ?_
           repeat' ((first | refine hfk ?_ ?_<;>intros | refine hik ?_)<;>refine hgS ?_)
           all_goals try (exfalso;omega)
           refine xhw 2 (fun ξ=>xpp.pre h1 (xkn V T) rfl rfl) rfl rfl ?_;refine hg ?_
           repeat' ((first | refine hfk ?_ ?_<;>intros | refine hik ?_)<;>refine hgS ?_)
           all_goals try (exfalso;omega)
           refine xhw 2 (fun ξ=>xpp.pre h2 (xkn V T) rfl rfl) rfl rfl ?_;refine hg ?_
           repeat' ((first | refine hfk ?_ ?_<;>intros | refine hik ?_)<;>refine hgS ?_)
           all_goals first
            | (exfalso;omega)
            | exact StH.krE rfl (by kernel_rfl) rfl rfl
         . have hH:=hH v w rfl rfl;refine xpp.run [] Go.Proofs.Tryz.func111 rfl rfl ?_;simp only [Go.Proofs.Tryz.f111];refine hgR ?_;refine hg ?_;refine xhw 2 (fun ξ=>xpp.pre h0 (xkn V T) rfl rfl) rfl rfl ?_;clear h0;refine hg ?_
           repeat' ((first | refine hfk ?_ ?_<;>intros | refine hik ?_)<;>refine hgS ?_)
           all_goals try (exfalso;omega)
           refine xhw 2 (fun ξ=>xpp.pre h1 (xkn V T) rfl rfl) rfl rfl ?_;refine hg ?_
           repeat' ((first | refine hfk ?_ ?_<;>intros | refine hik ?_)<;>refine hgS ?_)
           all_goals try (exfalso;omega)
           refine xhw 2 (fun ξ=>xpp.pre h2 (xkn V T) rfl rfl) rfl rfl ?_;refine hg ?_
           repeat' ((first | refine hfk ?_ ?_<;>intros | refine hik ?_)<;>refine hgS ?_)
           all_goals try (exfalso;omega)
           repeat' ((first | refine hfk ?_ ?_<;>intros | refine hik ?_ | with_reducible first | refine wml (hH) ?_ | refine ysi (hH) ?_)<;>refine hgS ?_)
           all_goals first
            | (exfalso;omega)
            | exact StH.vzq rfl (by kernel_rfl) rfl
 . skip
   refine xpp.run [] Go.Proofs.Tryz.func111 rfl rfl ?_;simp only [Go.Proofs.Tryz.f111];refine hgR ?_;refine hg ?_;refine xhw 2 (fun ξ=>xpp.pre h0 (xkn V T) rfl rfl) rfl rfl ?_;clear h0;refine hg ?_
   repeat' ((first | refine hfk ?_ ?_<;>intros | refine hik ?_)<;>refine hgS ?_)
   all_goals first
    | (exfalso;omega)
    | exact StH.krE rfl (by kernel_rfl) rfl rfl
def tbH:Option Tb->List HC
 | none=>[.dat (cS ⟨⟨[]⟩⟩),.dat (cS ⟨⟨[]⟩⟩),.dat .zc]
 | some t=>(tbC t).map .dat
structure OpF (T:Vt) (o:Int) (lk:Option Tb) (ks:List Kn) (b2:Bool) (O:Kr):Prop where
 e11:b2=true->lk=none->O=.inl 11
 e13:(b2=true->lk.isSome=true)->(∃ j,j<ks.length/\(ks.getD j default).t≠vv5 o)->O=.inl 13
 log:b2=false->vv5 o=true->(∀ j,j<ks.length->(ks.getD j default).t=true)->O=.inr (truH o (ks.getD 0 default) (ks.getD 1 default))
 look:∀ t,b2=true->lk=some t->(∀ j,j<ks.length->(ks.getD j default).t=false)->O=yyv t (ks.getD 0 default).v
 num:b2=false->vv5 o=false->(∀ j,j<ks.length->(ks.getD j default).t=false)->O=numH o (ks.getD 0 default).v (ks.getD 1 default).v
theorem zh4 {T:Vt} {o:Int} {s:ByteArray} {ks:List Kn} (_ho:2<=o/\o<=15) (_h3:o≠3) (_h5:o≠5):OpF T o (z2f T s) ks (decide (o=2)) (opH T o s ks):=by
 have hany:(∀ j,j<ks.length->(ks.getD j default).t=vv5 o)->ks.any (fun k=>!(k.t==vv5 o))=false:=fun h=>by
  rw [List.any_eq_false];intro k hk;obtain ⟨i,hi,rfl⟩:=List.getElem_of_mem hk
  have:=h i hi
  rw [show ks.getD i default=ks[i] by simp [hi]] at this;simp [this]
 have h2l:decide (o=2)=true->vv5 o=false:=fun h=>by rw [of_decide_eq_true h];rfl
 unfold opH;refine ⟨fun h1 h2=>?_,fun h1 h2=>?_,fun h1 h2 h6=>?_,fun t h1 h2 h6=>?_,fun h1 h2 h6=>?_⟩
 . rw [h1,h2];rfl
 . have:(decide (o=2)&&!(z2f T s).isSome)=false:=by
    cases hd:decide (o=2) with
    | false=>rfl
    | true=>rw [h1 hd];rfl
   obtain ⟨j,hj,hne⟩:=h2;rw [this,show ks.any (fun k=>!(k.t==vv5 o))=true from List.any_eq_true.2 ⟨_,y7p hj,by simpa using hne⟩];rfl
 . rw [h1,hany (fun j hj=>(h6 j hj).trans h2.symm),h2];rfl
 . rw [h1,h2,hany (fun j hj=>(h6 j hj).trans (h2l h1).symm),h2l h1];rfl
 . rw [h1,hany (fun j hj=>(h6 j hj).trans h2.symm),h2];rfl
theorem whd (o:Int) (ks:List Kn) (ho:vv5 o=true) (hl:ks.length<=1073741824) (h0:0<ks.length) (h1:o≠4->ks.length=2) (ha:∀ j,j<ks.length->(ks.getD j default).t=true) :
 CallsD Γ prog 112 [.one (cI o),.one (.sl 11 (ks.map Kn.C))] (.agg (knC (truH o (ks.getD 0 default) (ks.getD 1 default)))):=by
 have t0:=ha 0 h0
 cases hk0:ks.getD 0 default with
 | num v=>rw [hk0] at t0;cases t0
 | tru c d=>
  by_cases h4:o=4
  . have:=wqt (Γ:=Γ) o ks ho c d false false h0 (fun h=>absurd h4 h) hl hk0 (fun h=>absurd h4 h)
    subst h4;exact this
  . have hl2:=h1 h4;have t1:=ha 1 (by omega)
    cases hk1:ks.getD 1 default with
    | num v=>rw [hk1] at t1;cases t1
    | tru c' d'=>exact wqt o ks ho c d c' d' h0 (fun _=>by omega) hl hk0 (fun _=>hk1)
theorem z07 {o:Int} {a b c:Bool} (h1:decide (o=4)=a) (h2:decide (o=14)=b) (h3:decide (o=15)=c):vv5 o=(a||b||c):=by unfold vv5;rw [h1,h2,h3]
theorem wjm {B:Nat} (hB:4300<=B) (V:Vi) (T:Vt) (hV:Ism B V) (hT:∀ s t,z2f T s=some t->t.Sm/\tbOk t=true):∀ x:Ex,x.Sm->x.shaped=true->x.wqm=false->B*x.nd<=33554400->xpp Γ prog 68 [mI V,mB T] [.agg [.mp 0,.mp 1],.agg ((exC x).map .dat)] [mI V,mB T] (krV (x.hul V T)):=by
 refine Ex.ind (fun x ih hx hsh hcl hnd=>?_);have hl:=hx.len;have hul:=Ex.y3z V T x
 have hnode:xes x=true:=by rw [Ex.ypb,Bool.and_eq_true] at hsh;exact hsh.1
 have hargs:∀ y∈x.args,y.shaped=true:=by rw [Ex.ypb,Bool.and_eq_true,List.all_eq_true] at hsh;exact hsh.2
 have hcalls:x.op≠3/\∀ y∈x.args,y.wqm=false:=by
  rw [Ex.xrx,Bool.or_eq_false_iff,decide_eq_false_iff_not,List.any_eq_false] at hcl;exact ⟨hcl.1,fun y hy=>by simpa using hcl.2 y hy⟩
 have hnds:∀ y∈x.args,B*y.nd<=33554400:=fun y hy=>Nat.le_trans (Nat.mul_le_mul_left _ (by have:=Ex.xka hy;have:=Ex.xk0 x;omega)) hnd
 have hok:∀ y∈x.args,Kok 33554400 (y.hul V T):=fun y hy=>(vme hB hV hT y (hargs y hy) (hcalls.2 y hy)).mono (hnds y hy)
 by_cases h0:x.op=0
 . rw [decide_eq_true h0,cond_true] at hul;have hn:=xsm hnode h0;have hlf:=z8b (Γ:=Γ) V T x hx (by unfold inI;omega) h0;rw [hul];refine xpp.run [] Go.Proofs.Tryz.func68 rfl rfl ?_;simp only [Go.Proofs.Tryz.f68];refine hgR ?_
   repeat' ((first | refine hfk ?_ ?_<;>intros | refine hik ?_)<;>refine hgS ?_)
   all_goals try (exfalso;omega)
   all_goals
    rw [show cI 0=cI x.op by rw [h0]];refine x6x (xpp.pre hlf (xkn V T) rfl rfl) ?_;refine hg ?_;exact StH.vzq rfl (by kernel_rfl) rfl
 rw [decide_eq_false h0,cond_false] at hul;by_cases h1:x.op=1
 . rw [decide_eq_true h1,cond_true] at hul;have hlf:=v6o (Γ:=Γ) V T x h1;rw [hul];refine xpp.run [] Go.Proofs.Tryz.func68 rfl rfl ?_;simp only [Go.Proofs.Tryz.f68];refine hgR ?_
   repeat' ((first | refine hfk ?_ ?_<;>intros | refine hik ?_)<;>refine hgS ?_)
   all_goals try (exfalso;omega)
   all_goals
    rw [show cI 1=cI x.op by rw [h1]];refine x6x (xpp.pre hlf (xkn V T) rfl rfl) ?_;refine hg ?_;exact StH.vzq rfl (by kernel_rfl) rfl
 rw [decide_eq_false h1,cond_false] at hul;obtain ⟨o1,o2,a1,a2,a3⟩:=vl0 hnode hcalls.1 h0 h1;by_cases h5:x.op=5
 . rw [decide_eq_true h5,cond_true] at hul;have hl3:=a2 h5
   have hm:=fun i (hi:i<3)=>y7p (show i<x.args.length by omega)
   have hev:=fun i (hi:i<3)=>ih _ (hm i hi) (hx.arg _ (hm i hi)) (hargs _ (hm i hi)) (hcalls.2 _ (hm i hi)) (hnds _ (hm i hi))
   rw [hul,getD_map (show 0<x.args.length by omega),getD_map (show 1<x.args.length by omega),getD_map (show 2<x.args.length by omega)];have hch:=z1f (Γ:=Γ) V T x (by omega) hl _ _ _ ((hok _ (hm 0 (by decide))).mono (by decide)) ((hok _ (hm 1 (by decide))).mono (by decide)) ((hok _ (hm 2 (by decide))).mono (by decide)) (hev 0 (by decide)) (hev 1 (by decide)) (hev 2 (by decide));refine xpp.run [] Go.Proofs.Tryz.func68 rfl rfl ?_;simp only [Go.Proofs.Tryz.f68];refine hgR ?_
   repeat' ((first | refine hfk ?_ ?_<;>intros | refine hik ?_)<;>refine hgS ?_)
   all_goals try (exfalso;omega)
   all_goals
    rw [show cI 5=cI x.op by rw [h5]];refine x6x (xpp.pre hch (xkn V T) rfl rfl) ?_;refine hg ?_;exact StH.vzq rfl (by kernel_rfl) rfl
 rw [decide_eq_false h5,cond_false] at hul;rw [hul];clear hul hnd hV;generalize hS:seqH (x.args.map (Ex.hul V T))=S;refine xpp.run [] Go.Proofs.Tryz.func68 rfl rfl ?_;simp only [Go.Proofs.Tryz.f68];refine hgR ?_
 repeat' ((first | refine hfk ?_ ?_<;>intros | refine hik ?_)<;>refine hgS ?_)
 all_goals try (exfalso;omega)
 refine x20 [2,3,4,5,34,35] (fun p:Nat×List Kn=>[(6,.one (.sl 5 11 0 p.2.length)),(36,.one (.dat (cI p.1)))])
  (fun p=>[mI V,mB T,.box [.mp 0,.mp 1] (some 120),.box ((exC x).map .dat) (some 24),.box ((krZ false false false).map .dat) (some 84),.arr (.sl 11 (p.2.map Kn.C)) 0 (some 84)])
  (fun p=>p.1<=x.args.length/\p.2.length=p.1/\(∀ k∈p.2,Kok 33554400 (.inr k))/\S=match seqH ((x.args.drop p.1).map (Ex.hul V T)) with
    | .inl e=>.inl e
    | .inr r=>.inr (p.2++r)) (fun p=>x.args.length-p.1) (0,[]) ⟨Nat.zero_le _,rfl,fun r hr=>(by cases hr),by simp only [List.drop_zero,List.nil_append];rw [hS];cases S<;>rfl⟩ ?_ ?_
 . refine hg ?_;refine StH.trans (StH.empty (d:=6) (es:=11) (c:=.sl 11 []) (T:=some 84) rfl rfl (fun r hr=>by cases hr) rfl) ?_;refine hg ?_;exact StH.same svl rfl
 clear hS;rintro ⟨i,ks⟩ ⟨q1,q2,q3,q4⟩;simp only at q1 q2 q3 q4;refine hg ?_;refine vt2 (fun hlt _=>?_) (fun hlt _=>?_)
 . have hlt':i<x.args.length:=by omega
   have hy:=y7p hlt';rw [xfc hlt',List.map_cons] at q4;have hky:=hok _ hy;refine hg ?_;refine x6x (xpp.pre (ih _ hy (hx.arg _ hy) (hargs _ hy) (hcalls.2 _ hy) (hnds _ hy)) (xkn V T) rfl rfl) ?_;clear ih hok;generalize hr:Ex.hul V T (x.args.getD i default)=r at q4 hky ⊢
   rcases r with e | k
   . have he:¬e=0:=hky;rw [seqH] at q4;have q4':S=.inl e:=q4;rw [q4'];refine hg ?_
     repeat' ((first | refine hfk ?_ ?_<;>intros | refine hik ?_)<;>refine hgS ?_)
     all_goals first
      | (exfalso;omega)
      | exact StH.krE rfl (by kernel_rfl) rfl rfl
   . rw [seqH] at q4
     have q4':S=match seqH ((x.args.drop (i+1)).map (Ex.hul V T)) with
      | .inl e=>.inl e
      | .inr r=>.inr ((ks++[k])++r):=by
      rw [q4]
      cases seqH ((x.args.drop (i+1)).map (Ex.hul V T)) with
      | inl e=>rfl
      | inr r=>simp only [List.append_assoc,List.singleton_append]
     clear q4
     have hmap:ks.map Kn.C++[knC k]=(ks++[k]).map Kn.C:=by simp;rfl
     refine hg ?_
     repeat' ((first | refine hfk ?_ ?_<;>intros | refine hik ?_)<;>refine hgS ?_)
     all_goals try (exfalso;omega)
     rw [hmap]
     refine ⟨(i+1,ks++[k]),⟨by dsimp only;omega,by dsimp only;rw [List.length_append,List.length_singleton,q2],fun r hr'=>by
      rcases List.mem_append.1 hr' with h | h
      . exact q3 r h
      . rw [List.mem_singleton.1 h];exact hky,q4'⟩,by dsimp only;omega,?_⟩
     refine StH.z04 [2,3,4,5,6,34,35,36] 5 8 6 rfl rfl rfl rfl rfl rfl rfl (by kernel_rfl) ?_;refine hg ?_;exact StH.same svl rfl
 . have q4':S=.inr ks:=by rw [q4,List.drop_eq_nil_of_le (by omega)];show (match seqH [] with | .inl e=>Sum.inl e | .inr r=>Sum.inr (ks++r))=_;rw [seqH];simp only [List.append_nil]
   rw [q4'];clear q4 q4' ih hok
   have hlen:ks.length=x.args.length:=by omega
   have hlen0:0<ks.length:=by omega
   have hO:v9t T x.op x.name (.inr ks)=opH T x.op x.name ks:=rfl;rw [hO];clear hO;have hop:=zh4 (T:=T) (s:=x.name) (ks:=ks) ⟨o1,o2⟩ hcalls.1 h5;generalize hO:opH T x.op x.name ks=O at hop ⊢;clear hO
   have l1:=fun h=>(hlen.trans (a1 h))
   have l2:=fun p q=>hlen.trans (a3 p q h5)
   clear a1 a2 a3;obtain ⟨tbx,htb⟩:∃ tbx,tbx=tbH (z2f T x.name):=⟨_,rfl⟩;obtain ⟨b2,e2⟩:∃ b,decide (x.op=2)=b:=⟨_,rfl⟩;obtain ⟨b4,e4⟩:∃ b,decide (x.op=4)=b:=⟨_,rfl⟩;obtain ⟨b14,e14⟩:∃ b,decide (x.op=14)=b:=⟨_,rfl⟩;obtain ⟨b15,e15⟩:∃ b,decide (x.op=15)=b:=⟨_,rfl⟩
   cases b2<;>cases b4<;>cases b14<;>cases b15
   all_goals
    have f2:=e2;have f4:=e4;have f14:=e14;have f15:=e15;simp only [decide_eq_true_eq,decide_eq_false_iff_not] at f2 f4 f14 f15
    first
     | (exfalso;omega)
     | clear f2 f4 f14 f15
   all_goals
    cases hlk:z2f T x.name
    all_goals
     rw [hlk] at hop htb;rw [e2] at hop
     conv=>simp (maxSteps:=2000000) (disch:=omega) only [go_sem,Nat.reduceAdd,Nat.reduceSub,Nat.reduceMul,Int.reduceToNat,Nat.reduceEqDiff,Nat.reduceBEq,Nat.reduceBneDiff,Nat.reduceLT,Int.reduceEq,Int.reduceLT,Int.reduceLE,Int.reduceNeg,Int.reduceAdd,Int.reduceSub,Int.reduceMul,hlk,e2,e4,e14,e15]
     repeat' ((first | refine hfk ?_ ?_<;>intros | refine hik ?_)<;>refine hgS ?_)
     all_goals first
      | exact StH.krE rfl (by kernel_rfl) rfl (hop.e11 rfl rfl)
      | skip
   all_goals
    have el:=z07 e4 e14 e15;simp only [Bool.or_self,Bool.or_true,Bool.or_false] at el;refine x20 [2,3,4,5,6,11,12,13,84,85] (fun n:Nat=>[(86,.one (.dat (cI n)))])
     (fun _=>[mI V,mB T,.box [.mp 0,.mp 1] (some 120),.box ((exC x).map .dat) (some 24),.box ((krZ false false false).map .dat) (some 84),.arr (.sl 11 (ks.map Kn.C)) 0 (some 84),.box tbx (some 40)])
     (fun n=>n<=ks.length/\∀ j,j<n->(ks.getD j default).t=vv5 x.op) (fun n=>ks.length-n) 0 ⟨Nat.zero_le _,fun j hj=>absurd hj (Nat.not_lt_zero _)⟩ ?_ ?_
    . refine hg ?_;exact StH.same svl (by rw [htb];rfl)
    rintro n ⟨n1,n2⟩;refine hg ?_;refine vt2 (fun hlt _=>?_) (fun hlt _=>?_)
    . have hlt':n<ks.length:=by omega
      refine hg ?_
      repeat' ((first | refine hfk ?_ ?_<;>intros | refine hik ?_)<;>refine hgS ?_)
      . rename_i ht;exact StH.krE rfl (by kernel_rfl) rfl (hop.e13 (fun h=>by first | rfl | cases h) ⟨n,hlt',fun h=>by rw [ht,el] at h;cases h⟩)
      . rename_i ht;refine ⟨n+1,⟨by omega,xm4 (by first | exact n2 | (rw [<-el];exact n2)) ht⟩,by omega,?_⟩;subst htb;refine StH.z04 [2,3,4,5,6,11,12,13,84,85,86] 2 2 7 rfl rfl rfl rfl rfl rfl rfl (by kernel_rfl) ?_;refine hg ?_;exact StH.same svl rfl
    . have hall : ∀ j, j < ks.length → (ks.getD j default).t = vv5 x.op := fun j hj => n2 j (by omega)
      rw [el] at hall;clear n2;have hz0:=q3 _ (y7p (show 0<ks.length by omega));subst htb
      first
       | (have hO:=hop.log rfl el hall
          have hk:=whd (Γ:=Γ) x.op ks el (by omega) hlen0 (l2 (of_decide_eq_false e2)) hall;rw [hO];refine hg1 @e2 ?_
          repeat' ((first | refine hfk ?_ ?_<;>intros | refine hik ?_ | with_reducible first | refine wml (hk) ?_ | refine ysi (hk) ?_)<;>refine hgS ?_)
          exact StH.vzq rfl (by kernel_rfl) rfl)
       | (have hO:=hop.look _ rfl rfl hall
          have ht0:=hall 0 hlen0
          cases hk0:ks.getD 0 default with
          | tru c d=>rw [hk0] at ht0;cases ht0
          | num v=>
           rw [hk0] at hz0 hO;have hz0:ivZ v<=33554400:=hz0;obtain ⟨hm1,hm2⟩:=hT _ _ hlk;have hk:=vyf (Γ:=Γ) _ v (by omega) hm2 hm1;rw [hO];refine hg3 @e2 @hk0 @tbH.eq_def ?_
           repeat' ((first | refine hfk ?_ ?_<;>intros | refine hik ?_ | with_reducible first | refine wml (hk) ?_ | refine ysi (hk) ?_)<;>refine hgS ?_)
           exact StH.vzq rfl (by kernel_rfl) rfl)
       | (have hO:=hop.num rfl el hall
          have h24:x.op≠2/\x.op≠4/\x.op≠14/\x.op≠15:=⟨of_decide_eq_false e2,of_decide_eq_false e4,of_decide_eq_false e14,of_decide_eq_false e15⟩;have hl2:=l2 h24.1 h24.2.1;have ht0:=hall 0 hlen0;have ht1:=hall 1 (by omega);have hz1:=q3 _ (y7p (show 1<ks.length by omega))
          cases hk0:ks.getD 0 default with
          | tru c d=>rw [hk0] at ht0;cases ht0
          | num v=>cases hk1:ks.getD 1 default with
           | tru c d=>rw [hk1] at ht1;cases ht1
           | num w=>
            rw [hk0] at hz0 hO;rw [hk1] at hz1 hO;have hk:=ycg (Γ:=Γ) x.op (by omega) v w hz0 hz1;rw [hO];clear h24;refine hg3 @e2 @hk0 @hk1 ?_
            repeat' ((first | refine hfk ?_ ?_<;>intros | refine hik ?_ | with_reducible first | refine wml (hk) ?_ | refine ysi (hk) ?_)<;>refine hgS ?_)
            exact StH.vzq rfl (by kernel_rfl) rfl)
end Go.Hp.T
namespace Go.Hp.T
open Go Go.RowKit Go.Slot Go.Hp Go.Slot.T
open Go.Proofs.Tryz (prog)
set_option maxRecDepth 10000
set_option maxHeartbeats 4000000
variable {Γ:List (Nat×List Cell)}
theorem wmd (f:FuncId) (l:List SV):vb5 (.clo f l)=l.flatMap wj3:=rfl
attribute [go_sem] wmd
end Go.Hp.T
