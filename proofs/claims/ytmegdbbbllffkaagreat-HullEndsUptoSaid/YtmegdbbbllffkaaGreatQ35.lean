/- The proof, part Q35: Sf, Ge, Gh. -/
import Derived.Test.YtmegdbbbllffkaaGreatQ34
import Derived.Test.YtmegdbbbllffkaaGreatQ33
namespace Go.Hp.T
open Go Go.RowKit Go.Slot Go.Hp Go.Slot.T
open Go.Proofs.Tryz (prog)
set_option maxRecDepth 10000
set_option maxHeartbeats 4000000
variable {Γ:List (Nat×List Cell)}
abbrev krZ (t c d:Bool):List Cell:=[cB t,cB c,cB d,cI 0,.zc,cI 0,.zc,cI 0,.zc,cI 0,.zc]
theorem w8s (c d:Bool):AV.Le (.agg (krZ true c d)) (.agg (knC (.tru c d))):=
 .agg (.cons (.refl _) (.cons (.refl _) (.cons (.refl _) (.cons (.refl _) (.cons (.ysc _) (.cons (.refl _) (.cons (.ysc _) (.cons (.refl _) (.cons (.ysc _) (.cons (.refl _) (.cons (.ysc _) .nil)))))))))))
theorem xp8 (e:Int):RLe (.tup [.agg (krZ false false false),.one (cI e)]) (krR (.inl e)):=
 .tup (.cons (.agg (.cons (.refl _) (.cons (.refl _) (.cons (.refl _) (.cons (.refl _) (.cons (.ysc _) (.cons (.refl _) (.cons (.ysc _) (.cons (.refl _) (.cons (.ysc _) (.cons (.refl _) (.cons (.ysc _) .nil)))))))))))) (.cons (.refl _) .nil))
theorem vu1 {c d:Bool} {r:Kr} (h:r=.inr (.tru c d)):RLe (.tup [.agg (krZ true c d),.one (cI 0)]) (krR r):=by
 subst h;exact .tup (.cons (w8s c d) (.cons (.refl _) .nil))
theorem ve7:∀ x:Ex,x.Sm->CallsD Γ prog 59 [.agg (exC x)] (.one (cB x.xi4)):=by
 refine Ex.ind (fun x ih hx=>?_);have hl:=hx.len;have hR:=Ex.wd9 x;generalize x.xi4=R at hR;refine CallsD.run [] Go.Proofs.Tryz.func59 rfl rfl rfl ?_;simp only [Go.Proofs.Tryz.f59];refine hgR ?_;refine y55 [1,2,6,7] (fun n:Nat=>[(8,.one (.dat (cI n)))]) (fun _=>[.box ((exC x).map .dat) (some 24)]) (fun n=>n<=x.args.length/\∀ j,j<n->(x.args.getD j default).xi4=false) (fun n=>x.args.length-n) 0 ⟨Nat.zero_le _,fun j hj=>by omega⟩ ?_ ?_
 . refine hg ?_;exact StH.same svl rfl
 intro n hn;obtain ⟨hn,hj⟩:=hn;refine hg ?_;refine vnx (fun hlt _=>?_) (fun hlt _=>?_)
 . have hlt':n<x.args.length:=by omega
   have hc:=ih _ (w4t hlt') (hx.arg _ (w4t hlt'))
   have hyes:(x.args.getD n default).xi4=true->x.args.any Ex.xi4=true:=fun h=>List.any_eq_true.2 ⟨_,w4t hlt',h⟩
   have hnext:(x.args.getD n default).xi4=false->∀ j,j<n+1->(x.args.getD j default).xi4=false:=fun h j hj2=>by
    rcases Nat.lt_or_ge j n with h3 | h3
    . exact hj j h3
    . rw [show j=n by omega];exact h
   clear ih hj;generalize (x.args.getD n default).xi4=b at hc hyes hnext;refine hg ?_
   repeat' ((first | refine hfk ?_ ?_<;>intros | refine hik ?_ | with_reducible first | refine v6l (hc) ?_ | refine vgi (hc) ?_)<;>refine hgS ?_)
   all_goals first
    | (rw [Bool.or_true];exact RLe.ofEq rfl)
    | exact RLe.ofEq (by rw [hR,hyes (by assumption),Bool.or_true])
    | exact ⟨n+1,⟨by omega,hnext (by assumption)⟩,by omega,StH.back [1,2,6,7,8] 0 0 1 rfl rfl rfl rfl rfl (by kernel_rfl) (StH.same svl rfl)⟩
 . have e:n=x.args.length:=by omega
   subst e
   have ha:x.args.any Ex.xi4=false:=by
    rw [List.any_eq_false];intro y hy;obtain ⟨j,hj',rfl⟩:=List.getElem_of_mem hy
    have:=hj j hj'
    rw [show x.args.getD j default=x.args[j] from by simp [hj']] at this;simp [this]
   refine hg ?_;exact RLe.ofEq (by rw [hR,ha,Bool.or_false])
theorem x82 (o:Int) (ks:List Kn) (ho:ze4 o=true) (c d c' d':Bool) (hl0:1<=ks.length) (hl1:o≠4->2<=ks.length) (hl:ks.length<=1073741824) (h0:ks.getD 0 default=.tru c d) (h1:o≠4->ks.getD 1 default=.tru c' d') :
 CallsD Γ prog 101 [.one (cI o),.one (.sl 11 (ks.map Kn.C))] (.agg (knC (truH o (.tru c d) (.tru c' d')))):=by
 unfold truH
 rcases v6i.1 ho with rfl | rfl | rfl
 . refine CallsD.run [] Go.Proofs.Tryz.func101 rfl rfl rfl ?_;simp only [Go.Proofs.Tryz.f101];refine hgR ?_;refine hg1 @h0 ?_
   repeat' ((first | refine hfk ?_ ?_<;>intros | refine hik ?_)<;>refine hgS ?_)
   exact RLe.ofEq rfl
 . have h1:=h1 (by decide);have hl1:=hl1 (by decide);refine CallsD.run [] Go.Proofs.Tryz.func101 rfl rfl rfl ?_;simp only [Go.Proofs.Tryz.f101];refine hgR ?_;refine hg2 @h0 @h1 ?_
   repeat' ((first | refine hfk ?_ ?_<;>intros | refine hik ?_)<;>refine hgS ?_)
   all_goals refine lfE ?_;first | exact trivial | rfl
 . have h1:=h1 (by decide);have hl1:=hl1 (by decide);refine CallsD.run [] Go.Proofs.Tryz.func101 rfl rfl rfl ?_;simp only [Go.Proofs.Tryz.f101];refine hgR ?_;refine hg2 @h0 @h1 ?_
   repeat' ((first | refine hfk ?_ ?_<;>intros | refine hik ?_)<;>refine hgS ?_)
   all_goals refine lfE ?_;first | exact trivial | rfl
theorem z7a {x y:Rat}:decide (0<=Fc.ordQ x y)=decide (y<=x):=by
 have:=@vn7 x y
 rw [show decide (0<=Fc.ordQ x y) = !decide (Fc.ordQ x y<0) by rw [<-decide_not];exact decide_eq_decide.2 (by omega),this,<-decide_not];exact decide_eq_decide.2 Rat.not_lt
theorem zb8 (o:Int) (ho:6<=o/\o<=13) (a b:Iv) (ha:ivZ a<=33554400) (hb:ivZ b<=33554400):CallsD Γ prog 103 [.one (cI o),.agg (ivC a),.agg (ivC b)] (krR (numH o a b)):=by
 have c1:=iAdd (Γ:=Γ) a b (by omega) (by omega);have c2:=iSub (Γ:=Γ) a b (by omega) (by omega);have c3:=iMul (Γ:=Γ) a b (by omega) (by omega);have c4:=iMin (Γ:=Γ) a b (by omega) (by omega);have c5:=iMax (Γ:=Γ) a b (by omega) (by omega);have c6:=oCmp (Γ:=Γ) (some a.lo) (some b.hi) (zlo ha) (zhi hb);have c7:=oCmp (Γ:=Γ) (some a.hi) (some b.lo) (zhi ha) (zlo hb);have c8:=v1d (Γ:=Γ) a b (by omega) (by omega);have c9:=ws1 (Γ:=Γ) a b (by omega) (by omega);have c10:=z9e (Γ:=Γ) (some a.lo) (some a.hi) (zlo ha) (zhi ha);unfold numH
 have:o=6\/o=7\/o=8\/o=9\/o=10\/o=11\/o=12\/o=13:=by omega
 rcases this with rfl | rfl | rfl | rfl | rfl | rfl | rfl | rfl<;>simp only [Int.reduceEq,decide_true,decide_false,cond_true,cond_false]
 . refine CallsD.run [] Go.Proofs.Tryz.func103 rfl rfl rfl ?_;simp only [Go.Proofs.Tryz.f103];refine hgR ?_
   repeat' ((first | refine hfk ?_ ?_<;>intros | refine hik ?_ | with_reducible first | refine v6l (c1) ?_ | refine vgi (c1) ?_)<;>refine hgS ?_)
   exact RLe.ofEq rfl
 . refine CallsD.run [] Go.Proofs.Tryz.func103 rfl rfl rfl ?_;simp only [Go.Proofs.Tryz.f103];refine hgR ?_
   repeat' ((first | refine hfk ?_ ?_<;>intros | refine hik ?_ | with_reducible first | refine v6l (c2) ?_ | refine vgi (c2) ?_)<;>refine hgS ?_)
   exact RLe.ofEq rfl
 . refine CallsD.run [] Go.Proofs.Tryz.func103 rfl rfl rfl ?_;simp only [Go.Proofs.Tryz.f103];refine hgR ?_
   repeat' ((first | refine hfk ?_ ?_<;>intros | refine hik ?_ | with_reducible first | refine v6l (c3) ?_ | refine vgi (c3) ?_)<;>refine hgS ?_)
   exact RLe.ofEq rfl
 . cases h0:b.has 0 with
   | true=>
    have d1:=vfo (Γ:=Γ) a b h0 (by omega) (by omega);refine CallsD.run [] Go.Proofs.Tryz.func103 rfl rfl rfl ?_;simp only [Go.Proofs.Tryz.f103];refine hgR ?_
    repeat' ((first | refine hfk ?_ ?_<;>intros | refine hik ?_ | with_reducible first | refine v6l (d1) ?_ | refine vgi (d1) ?_)<;>refine hgS ?_)
    exact RLe.ofEq rfl
   | false=>
    have d1:=yol (Γ:=Γ) a b h0 (by omega) (by omega);refine CallsD.run [] Go.Proofs.Tryz.func103 rfl rfl rfl ?_;simp only [Go.Proofs.Tryz.f103];refine hgR ?_
    repeat' ((first | refine hfk ?_ ?_<;>intros | refine hik ?_ | with_reducible first | refine v6l (d1) ?_ | refine vgi (d1) ?_)<;>refine hgS ?_)
    exact RLe.ofEq rfl
 . refine CallsD.run [] Go.Proofs.Tryz.func103 rfl rfl rfl ?_;simp only [Go.Proofs.Tryz.f103];refine hgR ?_
   repeat' ((first | refine hfk ?_ ?_<;>intros | refine hik ?_ | with_reducible first | refine v6l (c4) ?_ | refine vgi (c4) ?_)<;>refine hgS ?_)
   exact RLe.ofEq rfl
 . refine CallsD.run [] Go.Proofs.Tryz.func103 rfl rfl rfl ?_;simp only [Go.Proofs.Tryz.f103];refine hgR ?_
   repeat' ((first | refine hfk ?_ ?_<;>intros | refine hik ?_ | with_reducible first | refine v6l (c5) ?_ | refine vgi (c5) ?_)<;>refine hgS ?_)
   exact RLe.ofEq rfl
 . have e1:decide (cmpO (some a.lo) (some b.hi)<0)=decide (a.lo<b.hi):=vn7;have e2:decide (0<=cmpO (some a.hi) (some b.lo))=decide (b.lo<=a.hi):=z7a;rw [<-e1,<-e2];clear e1 e2;refine CallsD.run [] Go.Proofs.Tryz.func103 rfl rfl rfl ?_;simp only [Go.Proofs.Tryz.f103];refine hgR ?_
   repeat' ((first | refine hfk ?_ ?_<;>intros | refine hik ?_ | with_reducible first | refine v6l (c6) ?_ | refine vgi (c6) ?_ | refine v6l (c7) ?_ | refine vgi (c7) ?_)<;>refine hgS ?_)
   exact vu1 rfl
 . rw [show decide (a.lo=a.hi)=decide (some a.lo=some a.hi) from decide_eq_decide.2 ⟨fun h=>by rw [h],fun h=>Option.some.inj h⟩];generalize decide (a=b)=p at c9 ⊢;generalize decide (some a.lo=some a.hi)=q at c10 ⊢;refine CallsD.run [] Go.Proofs.Tryz.func103 rfl rfl rfl ?_;simp only [Go.Proofs.Tryz.f103];refine hgR ?_
   repeat' ((first | refine hfk ?_ ?_<;>intros | refine hik ?_ | with_reducible first | refine v6l (c8) ?_ | refine vgi (c8) ?_ | refine v6l (c9) ?_ | refine vgi (c9) ?_ | refine v6l (c10) ?_ | refine vgi (c10) ?_)<;>refine hgS ?_)
   all_goals exact vu1 (by (refine bsE ?_;try exact trivial))
theorem vcn (t:Tb) (k:Iv) (hk:ivZ k<=67108864) (ht:tbOk t=true) (hs:t.Sm):CallsD Γ prog 102 [.agg (tbC t),.agg (ivC k)] (krR (x7a t k)):=by
 have hl:=hs.r;have hrows:=(yun ht).2.2.2
 have L:∀ q,qs q<=67108864->CallsD Γ prog 137 [.agg (tbC t),.agg (qC (some q))] (qR (wyo t (some q)).1 (wyo t (some q)).2):=fun q hq=>ymc t (some q) hq hs.n hs.u hs.r
 have hL:=L k.lo (zlo hk);unfold x7a
 rcases yqt ht k.lo with ⟨h,w,hw,hq⟩ | ⟨h,hw⟩
 . rw [h,hw] at hL ⊢;rw [decide_eq_true rfl,cond_true,show (some w).getD 0=w from rfl];have hp:=wsc (Γ:=Γ) w (by omega);generalize hR:yk1 t k t.rows (Iv.pt w)=R;refine CallsD.run [] Go.Proofs.Tryz.func102 rfl rfl rfl ?_;simp only [Go.Proofs.Tryz.f102];refine hgR ?_
   repeat' ((first | refine hfk ?_ ?_<;>intros | refine hik ?_ | with_reducible first | refine v6l (hL) ?_ | refine vgi (hL) ?_ | refine v6l (hp) ?_ | refine vgi (hp) ?_)<;>refine hgS ?_)
   refine y55 [2,3,4,5,6,7,8,26,27] (fun p:Nat×Iv×Rat=>[(28,.one (.dat (cI p.1)))]) (fun p=>[.box ((tbC t).map .dat) (some 122),.box ((ivC k).map .dat) (some 35),.box ((krZ false false false).map .dat) (some 89),.box ((qC (some p.2.2)).map .dat) (some 33),.box ((ivC p.2.1).map .dat) (some 35)])
    (fun p=>p.1<=t.rows.length/\ivZ p.2.1<=4204/\R=yk1 t k (t.rows.drop p.1) p.2.1) (fun p=>t.rows.length-p.1) (0,Iv.pt w,w) ⟨Nat.zero_le _,by rw [yp5];exact hq,hR.symm⟩ ?_ ?_
   . refine hg ?_;exact StH.same svl rfl
   clear hR hL hp;rintro ⟨i,v,q⟩ ⟨q1,q2,q3⟩;simp only at q1 q2 q3;refine hg ?_;refine vnx (fun hlt _=>?_) (fun hlt _=>?_)
   . have hlt':i<t.rows.length:=by omega
     have hkey:=wyg ht hlt';have hin:=wju (hrows i hlt').1;have c1:=oInt (Γ:=Γ) (t.rows.getD i default).k (by unfold inI;omega);have hz:qs (((t.rows.getD i default).k:Int):Rat)<=4:=wtn (by unfold inI;omega);have c2:=iHas (Γ:=Γ) k (((t.rows.getD i default).k:Int):Rat) hk (by omega);have c3:=L (((t.rows.getD i default).k:Int):Rat) (by omega);rw [hkey] at c3
     have hw':qs (tw t i)<=4204:=by
      have h:=xbu t (some (((t.rows.getD i default).k:Int):Rat));rw [hkey] at h;exact h
     have c4:=wsc (Γ:=Γ) (tw t i) (by omega);have c5:=yul (Γ:=Γ) v (Iv.pt (tw t i)) (by omega) (by rw [yp5];omega);have hz2:ivZ (v.hull (Iv.pt (tw t i)))<=4204:=ysj q2 (by rw [yp5];exact hw');rw [xqz hlt',yk1,hkey,show (some (tw t i),(0:Int)).1.getD 0=tw t i from rfl] at q3;clear hkey L hrows;generalize tw t i=u at *;generalize k.has (((t.rows.getD i default).k:Int):Rat)=b at *;refine hg ?_
     repeat' ((first | refine hfk ?_ ?_<;>intros | refine hik ?_ | with_reducible first | refine v6l (c1) ?_ | refine vgi (c1) ?_ | refine v6l (c2) ?_ | refine vgi (c2) ?_ | refine v6l (c3) ?_ | refine vgi (c3) ?_ | refine v6l (c4) ?_ | refine vgi (c4) ?_ | refine v6l (c5) ?_ | refine vgi (c5) ?_)<;>refine hgS ?_)
     . refine ⟨(i+1,v.hull (Iv.pt u),u),⟨by dsimp only;omega,hz2,rfl⟩,by dsimp only;omega,?_⟩;exact StH.back [2,3,4,5,6,7,8,26,27,28] 0 0 5 rfl rfl rfl rfl rfl (by kernel_rfl) (StH.same svl rfl)
     . refine ⟨(i+1,v,q),⟨by dsimp only;omega,q2,rfl⟩,by dsimp only;omega,?_⟩;exact StH.back [2,3,4,5,6,7,8,26,27,28] 0 0 5 rfl rfl rfl rfl rfl (by kernel_rfl) (StH.same svl rfl)
   . have e:i=t.rows.length:=by omega
     subst e;rw [List.drop_eq_nil_of_le (Nat.le_refl _),yk1] at q3;subst q3;refine hg ?_;exact RLe.ofEq rfl
 . rw [h,hw] at hL ⊢;refine CallsD.run [] Go.Proofs.Tryz.func102 rfl rfl rfl ?_;simp only [Go.Proofs.Tryz.f102];refine hgR ?_
   repeat' ((first | refine hfk ?_ ?_<;>intros | refine hik ?_ | with_reducible first | refine v6l (hL) ?_ | refine vgi (hL) ?_)<;>refine hgS ?_)
   all_goals first
    | exact xp8 4
    | (exfalso;omega)
theorem z9v {α:Type} {C:α->SV} (h:∀ r a,yo9 r (C a)=C a) (r:Nat->Nat) (l:List (ByteArray×α)):rnSB r (.map (envM C l))=.map (envM C l):=by
 have:(envM C l).map (fun p=>(p.1,yo9 r p.2))=envM C l:=by
  induction l with
  | nil=>rfl
  | cons p l ih=>
   show (Value.string p.1,yo9 r (C p.2))::(envM C l).map _=_;rw [ih,h];rfl
 show SB.map _=_;rw [this]
theorem y07 {α:Type} {C:α->SV} (h:∀ i j a,wmz i j (C a)=C a) (i j:Nat) (l:List (ByteArray×α)):swSB i j (.map (envM C l))=.map (envM C l):=by
 have:(envM C l).map (fun p=>(p.1,wmz i j p.2))=envM C l:=by
  induction l with
  | nil=>rfl
  | cons p l ih=>
   show (Value.string p.1,wmz i j (C p.2))::(envM C l).map _=_;rw [ih,h];rfl
 show SB.map _=_;rw [this]
theorem y51 {α:Type} {C:α->SV} (h:∀ a,vp6 (C a)=[]) (l:List (ByteArray×α)):z0y (.map (envM C l))=[]:=by
 show (envM C l).flatMap (fun p=>vp6 p.2)=[]
 induction l with
 | nil=>rfl
 | cons p l ih=>show vp6 (C p.2)++(envM C l).flatMap _=[];rw [ih,h];rfl
theorem y60 {r:Nat->Nat} {l:Vq}:rnSB r (.map (envQ l))=.map (envQ l):=z9v (fun _ _=>rfl) r l
theorem xqg {r:Nat->Nat} {l:Vt}:rnSB r (.map (envB l))=.map (envB l):=z9v (fun _ _=>rfl) r l
theorem v9y (i j:Nat) (l:Vq):swSB i j (.map (envQ l))=.map (envQ l):=y07 (fun _ _ _=>rfl) i j l
theorem w2a (i j:Nat) (l:Vt):swSB i j (.map (envB l))=.map (envB l):=y07 (fun _ _ _=>rfl) i j l
theorem xia (l:Vq):z0y (.map (envQ l))=[]:=y51 (fun _=>rfl) l
theorem y7o (l:Vt):z0y (.map (envB l))=[]:=y51 (fun _=>rfl) l
attribute [go_sem] xia y7o
attribute [go_sem 20000] y60 xqg v9y w2a
abbrev mQ (l:Vq):SB:=.map (envQ l)
abbrev mB (l:Vt):SB:=.map (envB l)
theorem wlf (V:Vq) (T:Vt):∀ r,[mQ V,mB T].map (rnSB r)=[mQ V,mB T]:=fun r=>by
 simp only [List.map_cons,List.map_nil,mQ,mB,y60,xqg]
theorem yvk (o:Int) (l:List Rs) (hl:l.length<=1073741824):CallsD Γ prog 89 [.one (cI o),.one (.sl 6 (l.map Rs.C))] (rsR (logV o l)):=by
 generalize hR:logV o l=R;refine CallsD.run [] Go.Proofs.Tryz.func89 rfl rfl rfl ?_;simp only [Go.Proofs.Tryz.f89];refine hgR ?_;refine y55 [0,1,4,10,11] (fun i:Nat=>[(6,.one (.dat (cB ((l.take i).all (·.i))))),(7,.one (.dat (cB ((l.take i).any (·.i))))),(12,.one (.dat (cI i)))]) (fun _=>[.box ((rsZ false false).map .dat) (some 66)])
  (fun i=>i<=l.length/\∀ j,j<i->(l.getD j default).t=true) (fun i=>l.length-i) 0 ⟨Nat.zero_le _,fun j hj=>by omega⟩ ?_ ?_
 . refine hg ?_;exact StH.same svl rfl
 rintro i ⟨hi,hj⟩;refine hg ?_;refine vnx (fun hlt _=>?_) (fun hlt _=>?_)
 . have hlt':i<l.length:=by omega
   have hbad:(l.getD i default).t=false->R=(⟨false,false,none⟩,13):=fun h=>by
    rw [<-hR];unfold logV;rw [show l.any (fun r=>!r.t)=true from List.any_eq_true.2 ⟨_,w4t hlt',by rw [h];rfl⟩];rfl
   have hA:(l.take (i+1)).all (·.i)=((l.take i).all (·.i)&&(l.getD i default).i):=by rw [z4f hlt',List.all_append];simp
   have hS:(l.take (i+1)).any (·.i)=((l.take i).any (·.i)||(l.getD i default).i):=by rw [z4f hlt',List.any_append];simp
   have hnext:=fun h=>xrx (p:=fun j=>(l.getD j default).t=true) hj h
   clear hj hR;generalize (l.take i).all (·.i)=A at *;generalize (l.take i).any (·.i)=S at *;refine hg ?_
   repeat' ((first | refine hfk ?_ ?_<;>intros | refine hik ?_)<;>refine hgS ?_)
   all_goals first
    | exact rsEq rfl
    | (rw [hbad (by assumption)];exact rsEq rfl)
    | (refine ⟨i+1,⟨by omega,hnext (by assumption)⟩,by omega,?_⟩
       rw [hA,hS];simp only [*,Bool.true_and,Bool.false_and,Bool.true_or,Bool.false_or]
       exact StH.back [0,1,4,6,7,10,11,12] 0 0 1 rfl rfl rfl rfl rfl (by kernel_rfl) (StH.same svl rfl))
 . have e:i=l.length:=by omega
   have hall:l.any (fun r=>!r.t)=false:=by
    rw [List.any_eq_false];intro r hr;obtain ⟨j,hj',rfl⟩:=List.getElem_of_mem hr
    have:=hj j (by omega)
    rw [show l.getD j default=l[j] from by simp [hj']] at this;simp [this]
   have e2:R=bif decide (o=14) then truV (l.all (·.i)) else bif decide (o=15) then truV (l.any (·.i)) else truV (!l.all (·.i)):=by rw [<-hR];unfold logV;rw [hall];rfl
   rw [e2,e,List.take_length];generalize l.all (·.i)=A;generalize l.any (·.i)=S;refine hg ?_
   repeat' ((first | refine hfk ?_ ?_<;>intros | refine hik ?_ | with_reducible first | refine v6l (yln _) ?_ | refine vgi (yln _) ?_)<;>refine hgS ?_)
   all_goals refine lfE ?_;first | exact trivial | rfl
theorem StH.yzu {e:List SB} {σ:List SV} {η:List SB} {t i:Bool} {n:Int} {r:Rs×Int} (he:η.take e.length=e) (h:(σ.all fun x=>(vp6 x).all fun b=>Nat.blt b e.length)=true) (hσ:σ=[SV.tup [.agg ((T.rsZ t i).map .dat),.one (.dat (cI n))]]) (hr:r=(⟨t,i,none⟩,n)):StH Γ e σ η [rsS r] e:=by
 subst hr;exact StH.trans (StH.zx4 he h hσ) (StH.rsZ StH.refl)
theorem xrw (V:Vq) (T:Vt) (s:ByteArray) (k:Rs) (hT:∀ s t,ycr T s=some t->t.Sm/\tbOk t=true) (hk:qz k.v<=67108864):vfe Γ prog 88 [mQ V,mB T] [.agg [.mp 0,.mp 1],.one (.dat (cS s)),.agg ((rsC k).map .dat)] [mQ V,mB T] (rsS (woh T s k)):=by
 cases h:ycr T s with
 | none=>
  have e:woh T s k=(⟨false,false,none⟩,11):=by unfold woh;rw [h];rfl
  rw [e];refine vfe.run [] Go.Proofs.Tryz.func88 rfl rfl ?_;simp only [Go.Proofs.Tryz.f88];refine hgR ?_;refine hg1 @h ?_
  repeat' ((first | refine hfk ?_ ?_<;>intros | refine hik ?_)<;>refine hgS ?_)
  exact StH.yzu rfl (by kernel_rfl) rfl rfl
 | some t=>
  obtain ⟨h1,h2⟩:=hT s t h;have hL:=ymc (Γ:=Γ) t k.v hk h1.n h1.u h1.r
  have e:woh T s k=bif k.t then (Rs.zero,13) else numV (wyo t k.v).1 (wyo t k.v).2:=by unfold woh;rw [h]
  rw [e];generalize wyo t k.v=r at hL;obtain ⟨rv,re⟩:=r;simp only at hL;refine vfe.run [] Go.Proofs.Tryz.func88 rfl rfl ?_;simp only [Go.Proofs.Tryz.f88];refine hgR ?_;refine hg1 @h ?_
  repeat' ((first | refine hfk ?_ ?_<;>intros | refine hik ?_ | with_reducible first | refine v6l (hL) ?_ | refine vgi (hL) ?_ | refine v6l (w3m rv re) ?_ | refine vgi (w3m rv re) ?_)<;>refine hgS ?_)
  . exact StH.yzu rfl (by kernel_rfl) rfl rfl
  . exact StH.zx4 rfl (by kernel_rfl) rfl
abbrev scB:SB:=.box [.mp 1,.mp 2] (some 110)
theorem vyh (V:Vq) (T:Vt) (s:ByteArray) (hs:s.size<=1073741824) (a c d:SB):vfe Γ prog 83 [a,mQ V,mB T,scB,c,d] [.one (.dat (cS s)),.one (.ptr 3 0)] [a,mQ V,mB T,scB,c,d] (.one (.dat (cB (!((ycr V s).isSome||(ycr T s).isSome||!isName s||isWord s))))):=by
 cases h1:ycr V s with
 | none=>cases h2:ycr T s with
  | none=>
   refine vfe.run [] Go.Proofs.Tryz.func83 rfl rfl ?_;simp only [Go.Proofs.Tryz.f83];refine hgR ?_;refine hg2 @h1 @h2 ?_
   repeat' ((first | refine hfk ?_ ?_<;>intros | refine hik ?_ | with_reducible first | refine v6l (vv6 s (by omega)) ?_ | refine vgi (vv6 s (by omega)) ?_ | refine v6l (v7c s) ?_ | refine vgi (v7c s) ?_)<;>refine hgS ?_)
   all_goals exact StH.zx4 rfl (by kernel_rfl) (by (((conv=>simp only [Bool.and_true,Bool.true_and,Bool.and_false,Bool.false_and,Bool.or_true,Bool.true_or,Bool.or_false,Bool.false_or,Bool.not_true,Bool.not_false,decide_true,decide_false,not_true_eq_false,not_false_eq_true,wgp,if_true,if_false,Bool.and_self,Bool.or_self,cond_true,cond_false,List.length_map,ne_eq,Int.reduceEq,Int.reduceLT,Int.reduceLE, *,h1,h2,Option.isSome])<;>try exact trivial))<;>first | rfl | trivial)
  | some t=>
   refine vfe.run [] Go.Proofs.Tryz.func83 rfl rfl ?_;simp only [Go.Proofs.Tryz.f83];refine hgR ?_;refine hg2 @h1 @h2 ?_
   repeat' ((first | refine hfk ?_ ?_<;>intros | refine hik ?_ | with_reducible first | refine v6l (vv6 s (by omega)) ?_ | refine vgi (vv6 s (by omega)) ?_ | refine v6l (v7c s) ?_ | refine vgi (v7c s) ?_)<;>refine hgS ?_)
   all_goals exact StH.zx4 rfl (by kernel_rfl) (by (((conv=>simp only [Bool.and_true,Bool.true_and,Bool.and_false,Bool.false_and,Bool.or_true,Bool.true_or,Bool.or_false,Bool.false_or,Bool.not_true,Bool.not_false,decide_true,decide_false,not_true_eq_false,not_false_eq_true,wgp,if_true,if_false,Bool.and_self,Bool.or_self,cond_true,cond_false,List.length_map,ne_eq,Int.reduceEq,Int.reduceLT,Int.reduceLE, *,h1,h2,Option.isSome])<;>try exact trivial))<;>first | rfl | trivial)
 | some q=>cases h2:ycr T s with
  | none=>
   refine vfe.run [] Go.Proofs.Tryz.func83 rfl rfl ?_;simp only [Go.Proofs.Tryz.f83];refine hgR ?_;refine hg2 @h1 @h2 ?_
   repeat' ((first | refine hfk ?_ ?_<;>intros | refine hik ?_ | with_reducible first | refine v6l (vv6 s (by omega)) ?_ | refine vgi (vv6 s (by omega)) ?_ | refine v6l (v7c s) ?_ | refine vgi (v7c s) ?_)<;>refine hgS ?_)
   all_goals exact StH.zx4 rfl (by kernel_rfl) (by (((conv=>simp only [Bool.and_true,Bool.true_and,Bool.and_false,Bool.false_and,Bool.or_true,Bool.true_or,Bool.or_false,Bool.false_or,Bool.not_true,Bool.not_false,decide_true,decide_false,not_true_eq_false,not_false_eq_true,wgp,if_true,if_false,Bool.and_self,Bool.or_self,cond_true,cond_false,List.length_map,ne_eq,Int.reduceEq,Int.reduceLT,Int.reduceLE, *,h1,h2,Option.isSome])<;>try exact trivial))<;>first | rfl | trivial)
  | some t=>
   refine vfe.run [] Go.Proofs.Tryz.func83 rfl rfl ?_;simp only [Go.Proofs.Tryz.f83];refine hgR ?_;refine hg2 @h1 @h2 ?_
   repeat' ((first | refine hfk ?_ ?_<;>intros | refine hik ?_ | with_reducible first | refine v6l (vv6 s (by omega)) ?_ | refine vgi (vv6 s (by omega)) ?_ | refine v6l (v7c s) ?_ | refine vgi (v7c s) ?_)<;>refine hgS ?_)
   all_goals exact StH.zx4 rfl (by kernel_rfl) (by (((conv=>simp only [Bool.and_true,Bool.true_and,Bool.and_false,Bool.false_and,Bool.or_true,Bool.true_or,Bool.or_false,Bool.false_or,Bool.not_true,Bool.not_false,decide_true,decide_false,not_true_eq_false,not_false_eq_true,wgp,if_true,if_false,Bool.and_self,Bool.or_self,cond_true,cond_false,List.length_map,ne_eq,Int.reduceEq,Int.reduceLT,Int.reduceLE, *,h1,h2,Option.isSome])<;>try exact trivial))<;>first | rfl | trivial)
theorem xhs (V:Vq) (T:Vt) (x:Ex) (hl:3<=x.args.length) (hl2:x.args.length<=1073741824)
 (h:∀ i,i<3->vfe Γ prog 51 [mQ V,mB T] [.agg [.mp 0,.mp 1],.agg ((exC (x.args.getD i default)).map .dat)] [mQ V,mB T] (rsS ((x.args.getD i default).cal V T))) :
 vfe Γ prog 87 [mQ V,mB T] [.agg [.mp 0,.mp 1],.agg ((exC x).map .dat)] [mQ V,mB T] (rsS (chV (x.args.map (Ex.cal V T)))):=by
 have h0:=h 0 (by decide);have h1:=h 1 (by decide);have h2:=h 2 (by decide);clear h
 have e:chV (x.args.map (Ex.cal V T))=bif decide (¬((x.args.getD 0 default).cal V T).2=0) then (Rs.zero,((x.args.getD 0 default).cal V T).2) else bif !((x.args.getD 0 default).cal V T).1.t then (Rs.zero,13) else bif ((x.args.getD 0 default).cal V T).1.i then (x.args.getD 1 default).cal V T else (x.args.getD 2 default).cal V T:=by
  unfold chV;rw [getD_map (show 0<x.args.length by omega),getD_map (show 1<x.args.length by omega),getD_map (show 2<x.args.length by omega)]
 rw [e];generalize (x.args.getD 0 default).cal V T=r0 at h0;generalize (x.args.getD 1 default).cal V T=r1 at h1;generalize (x.args.getD 2 default).cal V T=r2 at h2;obtain ⟨⟨t0,i0,v0⟩,e0⟩:=r0;simp only at h0 ⊢;refine vfe.run [] Go.Proofs.Tryz.func87 rfl rfl ?_;simp only [Go.Proofs.Tryz.f87];refine hgR ?_;refine hg ?_;refine zjb 2 (fun ξ=>vfe.pre h0 (wlf V T) rfl rfl) rfl rfl ?_;clear h0;refine hg ?_
 repeat' ((first | refine hfk ?_ ?_<;>intros | refine hik ?_)<;>refine hgS ?_)
 . exact StH.yzu rfl (by kernel_rfl) rfl rfl
 . exact StH.yzu rfl (by kernel_rfl) rfl rfl
 . refine zjb 2 (fun ξ=>vfe.pre h1 (wlf V T) rfl rfl) rfl rfl ?_;refine hg ?_
   repeat' ((first | refine hfk ?_ ?_<;>intros | refine hik ?_)<;>refine hgS ?_)
   exact StH.zx4 rfl (by kernel_rfl) rfl
 . refine zjb 2 (fun ξ=>vfe.pre h2 (wlf V T) rfl rfl) rfl rfl ?_;refine hg ?_
   repeat' ((first | refine hfk ?_ ?_<;>intros | refine hik ?_)<;>refine hgS ?_)
   exact StH.zx4 rfl (by kernel_rfl) rfl
theorem zz4 {B:Nat} (hB:4300<=B) (V:Vq) (T:Vt) (hV:Vsm B V) (hT:∀ s t,ycr T s=some t->t.Sm/\tbOk t=true):∀ x:Ex,x.Sm->x.shaped=true->x.xi4=false->B*x.nd<=67108864->vfe Γ prog 51 [mQ V,mB T] [.agg [.mp 0,.mp 1],.agg ((exC x).map .dat)] [mQ V,mB T] (rsS (x.cal V T)):=by
 refine Ex.ind (fun x ih hx hsh hcl hnd=>?_);have hl:=hx.len;have hu:=hx.u;have hcal:=Ex.vwm V T x
 have hnode:yxn x=true:=by rw [Ex.xg3,Bool.and_eq_true] at hsh;exact hsh.1
 have hargs:∀ y∈x.args,y.shaped=true:=by rw [Ex.xg3,Bool.and_eq_true,List.all_eq_true] at hsh;exact hsh.2
 have hcalls:x.op≠3/\∀ y∈x.args,y.xi4=false:=by
  rw [Ex.wd9,Bool.or_eq_false_iff,decide_eq_false_iff_not,List.any_eq_false] at hcl;exact ⟨hcl.1,fun y hy=>by simpa using hcl.2 y hy⟩
 have hnds:∀ y∈x.args,B*y.nd<=67108864:=fun y hy=>Nat.le_trans (Nat.mul_le_mul_left _ (by have:=Ex.xks hy;have:=Ex.yuy x;omega)) hnd
 by_cases h0:x.op=0
 . rw [decide_eq_true h0,cond_true] at hcal;have hn:=zta hnode h0
   have hin:inI x.n:=by unfold inI;omega
   have hz:=wtn hin;have ho:=oInt (Γ:=Γ) x.n hin;rw [hcal]
   rcases v4u x.unit with ⟨u,h,hq⟩ | ⟨e,he,h⟩
   . have hr:=v1q (Γ:=Γ) hu h
     have e1:v43 x.n x.unit=numV (mulO (some (x.n:Rat)) (some u.f)) (erO (some (x.n:Rat)) (some u.f)):=by unfold v43 facO;rw [h];rfl
     have hm:=oMul (Γ:=Γ) (some (x.n:Rat)) (some u.f) (by omega) (by show qs u.f<=_;omega);rw [e1];refine vfe.run [] Go.Proofs.Tryz.func51 rfl rfl ?_;simp only [Go.Proofs.Tryz.f51];refine hgR ?_
     repeat' ((first | refine hfk ?_ ?_<;>intros | refine hik ?_ | with_reducible first | refine v6l (hr) ?_ | refine vgi (hr) ?_ | refine v6l (ho) ?_ | refine vgi (ho) ?_ | refine v6l (hm) ?_ | refine vgi (hm) ?_ | refine v6l (w3m _ _) ?_ | refine vgi (w3m _ _) ?_)<;>refine hgS ?_)
     all_goals first
      | (exfalso;omega)
      | exact StH.zx4 rfl (by kernel_rfl) rfl
   . have hr:=vqa (Γ:=Γ) x.unit hu;rw [h] at hr
     have e1:v43 x.n x.unit=(⟨false,false,none⟩,14):=by unfold v43;rw [h];simp only [decide_eq_true he,cond_true];rfl
     rw [e1];refine vfe.run [] Go.Proofs.Tryz.func51 rfl rfl ?_;simp only [Go.Proofs.Tryz.f51];refine hgR ?_
     repeat' ((first | refine hfk ?_ ?_<;>intros | refine hik ?_ | with_reducible first | refine v6l (hr) ?_ | refine vgi (hr) ?_)<;>refine hgS ?_)
     all_goals first
      | (exfalso;omega)
      | exact StH.yzu rfl (by kernel_rfl) rfl rfl
 rw [decide_eq_false h0,cond_false] at hcal;by_cases h1:x.op=1
 . rw [decide_eq_true h1,cond_true] at hcal;rw [hcal];unfold ztc
   cases hlk:ycr V x.name with
   | none=>
    show vfe _ _ _ _ _ _ (rsS (⟨false,false,none⟩,11));refine vfe.run [] Go.Proofs.Tryz.func51 rfl rfl ?_;simp only [Go.Proofs.Tryz.f51];refine hgR ?_
    repeat' ((first | refine hfk ?_ ?_<;>intros | refine hik ?_)<;>refine hgS ?_)
    all_goals try (exfalso;omega)
    refine hg1 @hlk ?_
    repeat' ((first | refine hfk ?_ ?_<;>intros | refine hik ?_)<;>refine hgS ?_)
    all_goals first
     | (exfalso;omega)
     | exact StH.yzu rfl (by kernel_rfl) rfl rfl
   | some q=>
    have hq:=hV _ _ hlk;have ho:=oInt (Γ:=Γ) 0 (by decide);have hz:=wtn (n:=0) (by decide);have ha:=oAdd (Γ:=Γ) (some q) (some ((0:Int):Rat)) (by show qs q<=_;have:=Ex.yuy x;have:B<=B*x.nd:=Nat.le_mul_of_pos_right _ (by omega);omega) (by omega);show vfe _ _ _ _ _ _ (rsS (numV (addO (some q) (some ((0:Int):Rat))) 0));refine vfe.run [] Go.Proofs.Tryz.func51 rfl rfl ?_;simp only [Go.Proofs.Tryz.f51];refine hgR ?_
    repeat' ((first | refine hfk ?_ ?_<;>intros | refine hik ?_)<;>refine hgS ?_)
    all_goals try (exfalso;omega)
    refine hg1 @hlk ?_
    repeat' ((first | refine hfk ?_ ?_<;>intros | refine hik ?_ | with_reducible first | refine v6l (ho) ?_ | refine vgi (ho) ?_ | refine v6l (ha) ?_ | refine vgi (ha) ?_ | refine v6l (w3m _ _) ?_ | refine vgi (w3m _ _) ?_)<;>refine hgS ?_)
    all_goals first
     | (exfalso;omega)
     | exact StH.zx4 rfl (by kernel_rfl) rfl
 rw [decide_eq_false h1,cond_false] at hcal
 have hne:x.args.length≠0:=fun h=>by
  unfold yxn at hnode;rw [decide_eq_false h0,decide_eq_false h1,h] at hnode;simp at hnode
 obtain ⟨hl2,hl3⟩:=x6z hnode hcalls.1 hne;by_cases h5:x.op=5
 . rw [decide_eq_true h5,cond_true] at hcal;rw [hcal];have hl3':=hl3 h5
   have hch:=xhs (Γ:=Γ) V T x hl3' hl (fun i hi=>by
    have hm:=w4t (show i<x.args.length by omega)
    exact ih _ hm (hx.arg _ hm) (hargs _ hm) (hcalls.2 _ hm) (hnds _ hm))
   refine vfe.run [] Go.Proofs.Tryz.func51 rfl rfl ?_;simp only [Go.Proofs.Tryz.f51];refine hgR ?_
   repeat' ((first | refine hfk ?_ ?_<;>intros | refine hik ?_)<;>refine hgS ?_)
   all_goals try (exfalso;omega)
   rw [show cI 5=cI x.op by rw [h5]];refine xwg (vfe.pre hch (wlf V T) rfl rfl) ?_;refine hg ?_;exact StH.zx4 rfl (by kernel_rfl) rfl
 rw [decide_eq_false h5,cond_false] at hcal
 have hqz:∀ y∈x.args,qz (y.cal V T).1.v<=67108864:=fun y hy=>Nat.le_trans (v6n hB hV y (hargs y hy) (hcalls.2 y hy)) (hnds y hy)
 rw [hcal];clear hcal hu hnd hV;generalize hS:seqV (x.args.map (Ex.cal V T))=S;refine vfe.run [] Go.Proofs.Tryz.func51 rfl rfl ?_;simp only [Go.Proofs.Tryz.f51];refine hgR ?_
 repeat' ((first | refine hfk ?_ ?_<;>intros | refine hik ?_)<;>refine hgS ?_)
 all_goals try (exfalso;omega)
 refine y55 [2,3,4,68,69] (fun p:Nat×List Rs=>[(10,.one (.sl 5 6 0 p.2.length)),(70,.one (.dat (cI p.1)))])
  (fun p=>[mQ V,mB T,.box [.mp 0,.mp 1] (some 110),.box ((exC x).map .dat) (some 24),.box ((rsZ false false).map .dat) (some 66),.arr (.sl 6 (p.2.map Rs.C)) 0 (some 66)])
  (fun p=>p.1<=x.args.length/\p.2.length=p.1/\(∀ r∈p.2,qz r.v<=67108864)/\S=match seqV ((x.args.drop p.1).map (Ex.cal V T)) with
    | .inl e=>.inl e
    | .inr r=>.inr (p.2++r)) (fun p=>x.args.length-p.1) (0,[]) ⟨Nat.zero_le _,rfl,fun r hr=>(by cases hr),by simp only [List.drop_zero,List.nil_append];rw [hS];cases S<;>rfl⟩ ?_ ?_
 . refine hg ?_;refine StH.trans (StH.empty (d:=10) (es:=6) (c:=.sl 6 []) (T:=some 66) rfl rfl (fun r hr=>by cases hr) rfl) ?_;refine hg ?_;exact StH.same svl rfl
 clear hS;rintro ⟨i,rs⟩ ⟨q1,q2,q3,q4⟩;simp only at q1 q2 q3 q4;refine hg ?_;refine vnx (fun hlt _=>?_) (fun hlt _=>?_)
 . have hlt':i<x.args.length:=by omega
   have hy:=w4t hlt';rw [xqz hlt',List.map_cons] at q4;have hqy:=hqz _ hy;refine hg ?_;refine xwg (vfe.pre (ih _ hy (hx.arg _ hy) (hargs _ hy) (hcalls.2 _ hy) (hnds _ hy)) (wlf V T) rfl rfl) ?_;generalize hr:Ex.cal V T (x.args.getD i default)=r at q4 hqy ⊢;obtain ⟨t,e⟩:=r;rw [seqV] at q4;simp only at q4 hqy;refine hg ?_;refine vnx (fun he hd=>?_) (fun he hd=>?_)
   . refine hg ?_
     have q4':S=.inl e:=by rw [q4,show decide (¬e=0)=true from hd];rfl
     rw [q4'];exact StH.yzu rfl (by kernel_rfl) rfl rfl
   . refine hg ?_;rw [show decide (¬e=0)=false from hd,cond_false] at q4
     have q4':S=match seqV ((x.args.drop (i+1)).map (Ex.cal V T)) with
      | .inl e=>.inl e
      | .inr r=>.inr ((rs++[t])++r):=by
      rw [q4]
      cases seqV ((x.args.drop (i+1)).map (Ex.cal V T)) with
      | inl e=>rfl
      | inr r=>simp only [List.append_assoc,List.singleton_append]
     have hmap:rs.map Rs.C++[rsC t]=(rs++[t]).map Rs.C:=by simp;rfl
     rw [hmap]
     refine ⟨(i+1,rs++[t]),⟨by dsimp only;omega,by dsimp only;rw [List.length_append,List.length_singleton,q2],fun r hr'=>by
      rcases List.mem_append.1 hr' with h | h
      . exact q3 r h
      . rw [List.mem_singleton.1 h];exact hqy,q4'⟩,by dsimp only;omega,?_⟩
     refine StH.xuw [2,3,4,10,68,69,70] 5 8 6 rfl rfl rfl rfl rfl rfl rfl (by kernel_rfl) ?_;refine hg ?_;exact StH.same svl rfl
 . have q4':S=.inr rs:=by rw [q4,List.drop_eq_nil_of_le (by omega)];show (match seqV [] with | .inl e=>Sum.inl e | .inr r=>Sum.inr (rs++r))=_;rw [seqV];simp only [List.append_nil]
   rw [q4'];clear q4 q4' ih
   have hlen:rs.length=x.args.length:=by omega
   have hr0:=q3 _ (w4t (show 0<rs.length by omega))
   have hlen0:0<rs.length:=by omega
   by_cases h2:x.op=2
   . have hk:=xrw (Γ:=Γ) V T x.name (rs.getD 0 default) hT hr0;rw [show xem T x.op x.name (.inr rs)=woh T x.name (rs.getD 0 default) by show opV T x.op x.name rs=_;unfold opV;rw [decide_eq_true h2];rfl];refine hg ?_
     repeat' ((first | refine hfk ?_ ?_<;>intros | refine hik ?_)<;>refine hgS ?_)
     all_goals try (exfalso;omega)
     refine zjb 2 (fun ξ=>vfe.pre hk (wlf V T) rfl rfl) rfl rfl ?_;generalize woh T x.name (rs.getD 0 default)=r;obtain ⟨⟨t,i,v⟩,e⟩:=r;refine hg ?_
     repeat' ((first | refine hfk ?_ ?_<;>intros | refine hik ?_)<;>refine hgS ?_)
     exact StH.zx4 rfl (by kernel_rfl) rfl
   by_cases h4:x.op=4\/x.op=14\/x.op=15
   . have hk:=yvk (Γ:=Γ) x.op rs (by omega)
     rw [show xem T x.op x.name (.inr rs)=logV x.op rs by
      show opV T x.op x.name rs=_;unfold opV
      rw [decide_eq_false h2,show (decide (x.op=4)||decide (x.op=14)||decide (x.op=15))=true by rcases h4 with h | h | h<;>simp [h]];rfl]
     generalize logV x.op rs=r at hk;obtain ⟨⟨t,i,v⟩,e⟩:=r;refine hg ?_
     rcases h4 with h4 | h4 | h4
     all_goals
      rw [h4] at hk
      repeat' ((first | refine hfk ?_ ?_<;>intros | refine hik ?_ | with_reducible first | refine v6l (hk) ?_ | refine vgi (hk) ?_)<;>refine hgS ?_)
      all_goals first
       | (exfalso;omega)
       | exact StH.zx4 rfl (by kernel_rfl) rfl
   . have hl:=hl2 h2 (fun h=>h4 (.inl h))
     have hlen1:1<rs.length:=by omega
     have hr1:=q3 _ (w4t hlen1);have hk:=x5u (Γ:=Γ) x.op (rs.getD 0 default) (rs.getD 1 default) hr0 hr1
     rw [show xem T x.op x.name (.inr rs)=ariV x.op (rs.getD 0 default) (rs.getD 1 default) by
      show opV T x.op x.name rs=_;unfold opV
      rw [decide_eq_false h2,show (decide (x.op=4)||decide (x.op=14)||decide (x.op=15))=false by simp only [Bool.or_eq_false_iff,decide_eq_false_iff_not];exact ⟨⟨fun h=>h4 (.inl h),fun h=>h4 (.inr (.inl h))⟩,fun h=>h4 (.inr (.inr h))⟩];rfl]
     generalize ariV x.op (rs.getD 0 default) (rs.getD 1 default)=r at hk;obtain ⟨⟨t,i,v⟩,e⟩:=r;refine hg ?_
     repeat' ((first | refine hfk ?_ ?_<;>intros | refine hik ?_ | with_reducible first | refine v6l (hk) ?_ | refine vgi (hk) ?_)<;>refine hgS ?_)
     all_goals first
      | (exfalso;omega)
      | exact StH.zx4 rfl (by kernel_rfl) rfl
end Go.Hp.T
