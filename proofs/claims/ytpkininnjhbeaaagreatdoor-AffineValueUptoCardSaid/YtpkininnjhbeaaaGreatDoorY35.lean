import Derived.Test.YtpkininnjhbeaaaGreatDoorY34
import Derived.Test.YtpkininnjhbeaaaGreatDoorY29
import Derived.Test.YtpkininnjhbeaaaGreatDoorY28
import Derived.Test.YtpkininnjhbeaaaGreatDoorY31
import Derived.Test.YtpkininnjhbeaaaGreatDoorY27
namespace Go.Hp.T
open Go Go.RowKit Go.Slot Go.Hp Go.Slot.T
open Go.Proofs.Tryz (prog)
set_option maxRecDepth 10000
set_option maxHeartbeats 0
variable {Γ:List (Nat×List Cell)}
theorem xyf (V:Va):(envA V).length=V.length:=yzr _ V
theorem wxu (T:Vt):(envB T).length=T.length:=yzr _ T
attribute [go_sem] xyf wxu
def rdO (n:Nat):Option (Va×Vt)->List SB
 | none=>[]
 | some p=>rdE n p.1 p.2
def rdR:Option (Va×Vt)->SV
 | none=>.tup [.one .any,.one (.dat (cB false))]
 | some _=>.tup [.one (.ptr 0 0),.one (.dat (cB true))]
theorem wdm {J:List SB} {h1:HC}:StH Γ [] [SV.tup [.one h1,.one (.dat (cB false))]] J [SV.tup [.one .any,.one (.dat (cB false))]] []:=
 StH.trans (StH.tup1 (l':=[.one .any,.one (.dat (cB false))]) (.cons (.one (.any _)) (.cons (.refl _) .nil))) (by
  have:=StH.cutB (Γ:=Γ) (e:=[]) (I:=[SV.tup [.one .any,.one (.dat (cB false))]]) (J:=J) 0 (Nat.le_refl _) (by unfold yyj;rfl)
  exact this)
theorem zar (n:Nat) (V:Va) (T:Vt) (b:Bool):StH Γ [] [SV.tup [.one (.ptr 2 0),.one (.dat (cB b))]] [mA V,mB T,.box [.dat (cI n),.mp 0,.mp 1] (some 127)] [SV.tup [.one (.ptr 0 0),.one (.dat (cB b))]] (rdE n V T):=by
 have e1:swL 1 2 [mA V,mB T,.box [.dat (cI n),.mp 0,.mp 1] (some 127)]=[mA V,.box [.dat (cI n),.mp 0,.mp 2] (some 127),mB T]:=by
  show [swSB 1 2 (mA V),.box [.dat (cI n),.mp 0,.mp 2] (some 127),swSB 1 2 (mB T)]=_;rw [vho,vcy]
 have e2:swL 0 1 [mA V,.box [.dat (cI n),.mp 0,.mp 2] (some 127),mB T]=rdE n V T:=by
  show [.box [.dat (cI n),.mp 1,.mp 2] (some 127),swSB 0 1 (mA V),swSB 0 1 (mB T)]=_;rw [vho,vcy]
 have h1:=StH.vim (Γ:=Γ) (e:=[]) (I:=[SV.tup [.one (.ptr 2 0),.one (.dat (cB b))]]) (J:=[mA V,mB T,.box [.dat (cI n),.mp 0,.mp 1] (some 127)]) (i:=1) (j:=2) (by decide) (by decide) (by simp) (by simp);have h2:=StH.vim (Γ:=Γ) (e:=[]) (I:=[SV.tup [.one (.ptr 1 0),.one (.dat (cB b))]]) (J:=[mA V,.box [.dat (cI n),.mp 0,.mp 2] (some 127),mB T]) (i:=0) (j:=1) (by decide) (by decide) (by simp) (by simp);rw [e1] at h1;rw [e2] at h2;exact h1.trans h2
theorem v12 (k:Rat) (cs:List Rat):(Af.of k cs).c=qF (some k):=rfl
theorem v0e (k:Rat) (cs:List Rat):(Af.of k cs).l.map Fc.C=cs.map rowQ:=vqk cs
theorem zxz (nm:ByteArray) (k:Rat) (cs:List Rat):Sl.val ⟨nm,Af.of k cs⟩=(k,cs):=by
 show ((Fc.of k).val,(cs.map Fc.of).map Fc.val)=_;rw [List.map_map,Fc.xhg]
 congr 1
 conv=>rhs;rw [<-List.map_id cs]
 exact List.map_congr_left (fun q _=>Fc.xhg q)
theorem zw1 (ss:List Sl) (ms:List Tb) (hl:ss.length<=1073741824) (hm:ms.length<=1073741824) (hs:∀ s∈ss,s.name.size<=1073741824/\s.f.l.length<=1048576/\s.f.le 67108864) (hms:∀ t∈ms,t.Sm) :
 xpp Γ prog 40 [] [.one (.dat (.sl 6 (ss.map Sl.C))),.one (.dat (.sl 3 (ms.map Tb.C)))] (rdO (nOf ss) (entA ss ms)) (rdR (entA ss ms)):=by
 have hbad:∀ n,nOf ss=n->gS n [] ss=none->entA ss ms=none:=fun n hn h=>by unfold entA;rw [hn,h]
 have hbad2:∀ n V,nOf ss=n->gS n [] ss=some V->gTb V [] ms=none->entA ss ms=none:=fun n V hn h k=>by unfold entA;rw [hn,h];simp only [k]
 have hgood:∀ n V T,nOf ss=n->gS n [] ss=some V->gTb V [] ms=some T->entA ss ms=bif decide ((V.length:Int)=ss.length)&&decide ((T.length:Int)=ms.length) then some (V,T) else none:=fun n V T hn h k=>by unfold entA;rw [hn,h];simp only [k]
 generalize hn:nOf ss=n;have hbad:=hbad n hn
 have hbad2:=fun V=>hbad2 n V hn
 have hgood:=fun V T=>hgood n V T hn
 have e1:ss.length≠0->(ss.getD 0 default).f.l.length=n:=fun h=>by
  cases ss with
  | nil=>exact absurd rfl h
  | cons s l=>exact hn
 have e0:ss.length=0->n=0:=fun h=>by rw [<-hn,List.eq_nil_of_length_eq_zero h];rfl
 generalize entA ss ms=E at *;clear hn;refine xpp.run [] Go.Proofs.Tryz.func40 rfl rfl ?_;simp only [Go.Proofs.Tryz.f40];refine hgR ?_
 repeat' ((first | refine hfk ?_ ?_<;>intros | refine hik ?_)<;>refine hgS ?_)
 all_goals
  refine x20 [0,1,6,29,30] (fun p:Nat×Va=>[(31,.one (.dat (cI p.1)))]) (fun p=>[mA p.2,mB [],.box [.dat (cI n),.mp 0,.mp 1] (some 127)])
   (fun p=>p.1<=ss.length/\gS n [] ss=gS n p.2 (ss.drop p.1)) (fun p=>ss.length-p.1) (0,[]) ⟨Nat.zero_le _,rfl⟩ ?_ ?_
  . refine hg ?_;exact StH.same svl (by first | rfl | (rw [e1 (by omega)];done) | (rw [e1 (by omega)];rfl) | (rw [e0 (by omega)];done) | (rw [e0 (by omega)];rfl))
  rintro ⟨i,V⟩ ⟨h1,h2⟩;simp only at h1 h2;clear e1 e0;refine hg ?_;refine vt2 (fun hlt _=>?_) (fun hlt _=>?_)
  . have hlt':i<ss.length:=by omega
    have hy:=hs _ (y7p hlt');rw [xfc hlt',gS] at h2;refine hg ?_;have hr:=v1n (Γ:=Γ) (ss.getD i default).f n hy.2.1 hy.2.2;have hnm:=vfk (Γ:=Γ) (ss.getD i default).name (by have:=hy.1;omega);have hwd:=yko (Γ:=Γ) (ss.getD i default).name;clear hgood hbad2;generalize ss.getD i default=s at *;obtain ⟨nm,f⟩:=s;simp only at hy h2 hr hnm hwd ⊢;generalize isName nm=b1 at *;generalize isWord nm=b2 at *;by_cases hok:f.ok n
    . obtain ⟨k,cs,rfl,hcs⟩:=Af.vy4 hok;rw [decide_eq_true hok] at hr h2;rw [zxz] at h2;rw [y6w] at hr;rw [v0e];simp only [v12];clear hok
      repeat' ((first | refine hfk ?_ ?_<;>intros | refine hik ?_ | with_reducible first | refine hcA ?_ | refine hcB ?_)<;>refine hgS ?_)
      all_goals first
       | exact wdm
       | (rw [hbad (by rw [h2];simp [*])];exact wdm)
       | (refine ⟨(i+1,updF V nm (k,cs)),⟨by dsimp only;omega,by first | rfl | (rw [h2];simp [*];done) | (simp [*];done)⟩,by dsimp only;omega,?_⟩
          refine StH.cutN [0,1,6,29,30,31] 3 rfl ?_ ?_
          . refine hg ?_;exact trivial
          exact StH.same svl rfl)
    . rw [decide_eq_false hok] at hr h2;rw [Af.C_eq] at hr
      repeat' ((first | refine hfk ?_ ?_<;>intros | refine hik ?_ | with_reducible first | refine hcA ?_ | refine hcB ?_)<;>refine hgS ?_)
      all_goals first
       | exact wdm
       | (rw [hbad (by rw [h2];simp [*])];exact wdm)
  . have hV:gS n [] ss=some V:=by rw [h2,List.drop_eq_nil_of_le (by omega)];rfl
    have hbad2:=hbad2 V hV
    have hgood:=fun T=>hgood V T hV
    clear h2 h1 hlt hbad hV;refine hg ?_;refine x20 [0,1,6,63,64] (fun p:Nat×Vt=>[(65,.one (.dat (cI p.1)))]) (fun p=>[mA V,mB p.2,.box [.dat (cI n),.mp 0,.mp 1] (some 127)])
     (fun p=>p.1<=ms.length/\gTb V [] ms=gTb V p.2 (ms.drop p.1)) (fun p=>ms.length-p.1) (0,[]) ⟨Nat.zero_le _,rfl⟩ ?_ ?_
    . refine hg ?_;exact StH.same svl rfl
    rintro ⟨j,T⟩ ⟨h1,h2⟩;simp only at h1 h2;refine hg ?_;refine vt2 (fun hlt _=>?_) (fun hlt _=>?_)
    . have hlt':j<ms.length:=by omega
      have hy:=hms _ (y7p hlt');rw [xfc hlt',gTb] at h2;have hr:=w8d (Γ:=Γ) _ hy.n hy.u hy.r;have hwd:=yko (Γ:=Γ) (ms.getD j default).name
      replace h2:gTb V [] ms=bif (z2f V (ms.getD j default).name).isSome||isWord (ms.getD j default).name||!vgr (fun s=>(xx7 s).2) (ms.getD j default) then none else gTb V (updF T (ms.getD j default).name (ms.getD j default)) (ms.drop (j+1)):=h2
      generalize isWord (ms.getD j default).name=b2 at *;generalize vgr (fun s=>(xx7 s).2) (ms.getD j default)=b3 at *;clear hgood hms;refine hg ?_
      cases hl:z2f V (ms.getD j default).name with
      | none =>
       rw [hl] at h2;refine hg1 @hl ?_
       repeat' ((first | refine hfk ?_ ?_<;>intros | refine hik ?_ | with_reducible first | refine hcA ?_ | refine hcB ?_)<;>refine hgS ?_)
       all_goals first
        | exact wdm
        | (rw [hbad2 (by rw [h2];simp [*])];exact wdm)
        | (refine ⟨(j+1,updF T (ms.getD j default).name (ms.getD j default)),⟨by dsimp only;omega,by first | rfl | (rw [h2];simp [*];done) | (simp [*];done)⟩,by dsimp only;omega,?_⟩
           refine StH.cutN [0,1,6,63,64,65] 3 rfl ?_ ?_
           . refine hg ?_;exact trivial
           exact StH.same svl rfl)
      | some d=>
       rw [hl] at h2;refine hg1 @hl ?_
       repeat' ((first | refine hfk ?_ ?_<;>intros | refine hik ?_ | with_reducible first | refine hcA ?_ | refine hcB ?_)<;>refine hgS ?_)
       all_goals first
        | exact wdm
        | (rw [hbad2 (by rw [h2];simp [*])];exact wdm)
    . have hT : gTb V [] ms = some T := by rw [h2, List.drop_eq_nil_of_le (by omega)]; rfl
      rw [hgood T hT];clear h2 h1 hlt hbad2 hgood hT;refine hg ?_
      repeat' ((first | refine hfk ?_ ?_<;>intros | refine hik ?_)<;>refine hgS ?_)
      all_goals first
       | exact wdm
       | (generalize decide ((T.length:Int)=ms.length)=q
          cases q
          . exact wdm
          . exact zar n V T true)
theorem xf9:∀ x:Ex,x.Sm->CallsD Γ prog 39 [.agg (exC x)] (.one (cB x.wqm)):=by
 refine Ex.ind (fun x ih hx=>?_);have hl:=hx.len;have hc:CallsD Γ prog 77 [.one (.sl 5 (x.args.map Ex.cells)),fN 39] (.one (cB (x.args.any Ex.wqm))):=vps x.args _ _ hl (fun y hy=>ih y hy (hx.arg y hy));refine CallsD.run [] Go.Proofs.Tryz.func39 rfl rfl rfl ?_;simp only [Go.Proofs.Tryz.f39];refine hgR ?_
 repeat' ((first | refine hfk ?_ ?_<;>intros | refine hik ?_ | with_reducible first | refine hcA ?_ | refine hcB ?_)<;>refine hgS ?_)
 all_goals refine RLe.ofEq ?_
 all_goals rw [Ex.xrx]
 all_goals (refine bsE ?_;try exact trivial)
abbrev afR (r:Th×Int):AV:=.tup [.agg [.raw (.int .i64 (qF r.1.c).s),.ints .i64 (qF r.1.c).L,.raw (.int .i64 (qF r.1.c).t),.ints .i64 (qF r.1.c).M,.sl 4 (r.1.l.map rowQ)],.one (cI r.2)]
theorem afEq {e:Int} {r:Th×Int} (h:r=(Th.zero,e)):RLe (.tup [.agg [cI 0,.zc,cI 0,.zc,.zc],.one (cI e)]) (afR r):=by
 subst h;exact .tup (.cons (.agg (.cons (.refl _) (.cons (.zuc _) (.cons (.refl _) (.cons (.zuc _) (.cons (.zcSl _) .nil)))))) (.cons (.refl _) .nil))
theorem v0f {B:Nat} (hB:4300<=B) (hB2:B*200<=33554432) (x:Ex) (ss:List Sl) (ms:List Tb) (hx:x.Sm) (hn:nOf ss<=6) (hl:ss.length<=1073741824) (hm:ms.length<=1073741824) (hs:∀ s∈ss,s.name.size<=1073741824/\s.f.l.length<=1048576/\s.f.le 67108864) (hsm:∀ s∈ss,s.sm B) (hms:∀ t∈ms,t.Sm) :
 CallsD Γ prog 10 [.agg (exC x),.one (.sl 6 (ss.map Sl.C)),.one (.sl 3 (ms.map Tb.C))] (afR (affF x ss ms)):=by
 have hr:=zw1 (Γ:=Γ) ss ms hl hm hs hms;have c1:=zfy (Γ:=Γ) x hx;have c2:=xf9 (Γ:=Γ) x hx
 cases hr1:zqs x with
 | false=>
  rw [hr1] at c1
  have e:affF x ss ms=(Th.zero,2):=by unfold affF;rw [hr1];rfl
  rw [e];refine CallsD.run [] Go.Proofs.Tryz.func10 rfl rfl rfl ?_;simp only [Go.Proofs.Tryz.f10];refine hgR ?_
  repeat' ((first | refine hfk ?_ ?_<;>intros | refine hik ?_ | with_reducible first | refine hcA ?_ | refine hcB ?_)<;>refine hgS ?_)
  exact afEq rfl
 | true=>cases hc1:x.wqm with
  | true=>
   rw [hr1] at c1;rw [hc1] at c2;rw [show affF x ss ms=(Th.zero,2) by unfold affF;rw [hr1,hc1];rfl];refine CallsD.run [] Go.Proofs.Tryz.func10 rfl rfl rfl ?_;simp only [Go.Proofs.Tryz.f10];refine hgR ?_
   repeat' ((first | refine hfk ?_ ?_<;>intros | refine hik ?_ | with_reducible first | refine hcA ?_ | refine hcB ?_)<;>refine hgS ?_)
   exact afEq rfl
  | false=>
   rw [hr1] at c1;rw [hc1] at c2
   have hsh:x.shaped=true:=by unfold zqs at hr1;rw [Bool.and_eq_true] at hr1;exact hr1.2
   cases hrd:entA ss ms with
   | none=>
    rw [hrd] at hr;rw [show affF x ss ms=(Th.zero,1) by unfold affF;rw [hr1,hc1,hrd];rfl]
    have hr2:∀ a b:SB,xpp Γ prog 40 [a,b] [.one (.dat (.sl 6 (ss.map Sl.C))),.one (.dat (.sl 3 (ms.map Tb.C)))] [a,b] (.tup [.one .any,.one (.dat (cB false))]):=fun a b=>xpp.at [] (J:=[a,b]) hr (by decide) rfl rfl rfl
    refine CallsD.run [] Go.Proofs.Tryz.func10 rfl rfl rfl ?_;simp only [Go.Proofs.Tryz.f10];refine hgR ?_
    repeat' ((first | refine hfk ?_ ?_<;>intros | refine hik ?_ | with_reducible first | refine hcA ?_ | refine hcB ?_)<;>refine hgS ?_)
    refine zqa (hr2 _ _) rfl ?_;refine hg ?_
    repeat' ((first | refine hfk ?_ ?_<;>intros | refine hik ?_)<;>refine hgS ?_)
    exact afEq rfl
   | some p=>
    obtain ⟨V,T⟩:=p;rw [hrd] at hr
    have hr2:∀ a b:SB,xpp Γ prog 40 [a,b] [.one (.dat (.sl 6 (ss.map Sl.C))),.one (.dat (.sl 3 (ms.map Tb.C)))] [a,b,.box [.dat (cI (nOf ss)),.mp 3,.mp 4] (some 127),mA V,mB T] (.tup [.one (.ptr 2 0),.one (.dat (cB true))]):=fun a b=>by
     have h:=xpp.at [] (J:=[a,b]) hr (by decide) rfl rfl rfl
     have e:putR [] [a,b] (rdO (nOf ss) (some (V,T)))=[a,b,.box [.dat (cI (nOf ss)),.mp 3,.mp 4] (some 127),mA V,mB T]:=by
      show [a,b,.box [.dat (cI (nOf ss)),.mp 3,.mp 4] (some 127),rnSB _ (mA V),rnSB _ (mB T)]=_;rw [vir,zgw]
     rw [e] at h;exact h
    have hnd:=zvr hr1;have hB3:B*x.nd<=33554432:=Nat.le_trans (Nat.mul_le_mul_left _ hnd) hB2;have hV:=zd4 hrd hsm;have hc:=wto (Γ:=Γ) hB V T hV (yxy hrd hms) hn x hx hsh hc1 hB3
    have hc2:∀ a b:SB,xpp Γ prog 41 [a,b,.box [.dat (cI (nOf ss)),.mp 3,.mp 4] (some 127),mA V,mB T] [.one (.ptr 2 0),.agg ((exC x).map .dat)] [a,b,.box [.dat (cI (nOf ss)),.mp 3,.mp 4] (some 127),mA V,mB T] (thS (x.aff (nOf ss) V T)):=fun a b=>
     xpp.roN [2,3,4] (J:=[a,b,.box [.dat (cI (nOf ss)),.mp 3,.mp 4] (some 127),mA V,mB T]) hc (by decide) rfl (by
      show [some _,some (mA V),some (mB T)]=[some _,some (rnSB _ (mA V)),some (rnSB _ (mB T))]
      rw [vir,zgw];rfl)
    have e:affF x ss ms=bif decide (¬(x.aff (nOf ss) V T).2=0) then (Th.zero,(x.aff (nOf ss) V T).2) else bif (x.aff (nOf ss) V T).1.t then (Th.zero,13) else ((x.aff (nOf ss) V T).1,0):=by unfold affF;rw [hr1,hc1,hrd];rfl
    rw [e];clear hc hr hV e;generalize x.aff (nOf ss) V T=r at hc2 ⊢;obtain ⟨⟨t,i,v,l⟩,e⟩:=r;refine CallsD.run [] Go.Proofs.Tryz.func10 rfl rfl rfl ?_;simp only [Go.Proofs.Tryz.f10];refine hgR ?_
    repeat' ((first | refine hfk ?_ ?_<;>intros | refine hik ?_ | with_reducible first | refine hcA ?_ | refine hcB ?_)<;>refine hgS ?_)
    refine zqa (hr2 _ _) rfl ?_;refine hg ?_
    repeat' ((first | refine hfk ?_ ?_<;>intros | refine hik ?_)<;>refine hgS ?_)
    refine x6x (hc2 _ _) ?_;refine hg ?_
    repeat' ((first | refine hfk ?_ ?_<;>intros | refine hik ?_)<;>refine hgS ?_)
    all_goals first
     | exact afEq (by simp [*])
     | exact RLe.ofEq (by simp [*])
end Go.Hp.T
namespace Go.Hp.T
open Go Go.RowKit Go.Slot Go.Hp Go.Slot.T
open Go.Proofs.Tryz (prog)
set_option maxRecDepth 10000
set_option maxHeartbeats 0
variable {Γ:List (Nat×List Cell)}
variable {i a b:Nat} {c:Int} {place:Nat->Option (Nat×Nat)} {r:List (Nat×SV)} {α:Type}
theorem vol {p:Nat->Prop} (h:∀ j,j<i->p j) (hi:p i):∀ j,j<i+1->p j:=fun j hj=>by
 rcases Nat.lt_or_eq_of_le (Nat.le_of_lt_succ hj) with h2 | h2
 . exact h j h2
 . rw [h2];exact hi
theorem vas (c:Int):CallsD Γ prog 164 [.one (c8 c)] (.one (cB (wxl c))):=by
 refine CallsD.run [] Go.Proofs.Tryz.func164 rfl rfl rfl ?_;simp only [Go.Proofs.Tryz.f164];refine hgR ?_
 repeat' ((first | refine hfk ?_ ?_<;>intros | refine hik ?_)<;>refine hgS ?_)
 all_goals refine lf1 @wxl.eq_def ?_;first | exact trivial | rfl
theorem xyb (c:Int):CallsD Γ prog 165 [.one (c8 c)] (.one (cB (isDigit c))):=by
 refine CallsD.run [] Go.Proofs.Tryz.func165 rfl rfl rfl ?_;simp only [Go.Proofs.Tryz.f165];refine hgR ?_
 repeat' ((first | refine hfk ?_ ?_<;>intros | refine hik ?_)<;>refine hgS ?_)
 all_goals refine lf1 @isDigit.eq_def ?_;first | exact trivial | rfl
theorem wp7 (h:c<32\/126<c):xtc c=false:=by
 unfold xtc
 rcases h with h | h
 . rw [decide_eq_false (show ¬32<=c by omega)];rfl
 . rw [decide_eq_false (show ¬c<=126 by omega),Bool.and_false]
theorem xou (h:¬c<32) (h':¬126<c):xtc c=true:=by
 unfold xtc;rw [decide_eq_true (show 32<=c by omega),decide_eq_true (show c<=126 by omega)];rfl
theorem x9o {s:ByteArray} (hi:i<s.size) (hj:∀ j,j<i->xtc (yuk s j)=true) (h:xtc (yuk s i)=false):yn7 s=false:=by
 unfold yn7;rw [yxq (by omega) hj (.inr h),decide_eq_true (show ¬((i:Int)=s.size) by omega),Bool.or_true];rfl
theorem voo {s:ByteArray} (hj:∀ j,j<s.size->xtc (yuk s j)=true):yn7 s=decide ((s.size:Int)<=400):=by
 unfold yn7;rw [yxq (Nat.le_refl _) hj (.inl rfl),decide_eq_false (show ¬¬((s.size:Int)=s.size) from fun h=>h rfl),Bool.or_false];by_cases h:(s.size:Int)<=400
 . rw [decide_eq_true h,decide_eq_false (show ¬400<(s.size:Int) by omega)];rfl
 . rw [decide_eq_false h,decide_eq_true (show 400<(s.size:Int) by omega)];rfl
theorem zti (s:ByteArray) (hs:s.size<=1073741824):CallsD Γ prog 234 [.one (cS s)] (.one (cB (yn7 s))):=by
 refine CallsD.run [] Go.Proofs.Tryz.func234 rfl rfl rfl ?_;simp only [Go.Proofs.Tryz.f234];refine hgR ?_;refine x20 [0] (fun n:Nat=>[(3,.one (.dat (cI n)))]) (fun _=>[]) (fun n=>n<=s.size/\∀ j,j<n->xtc (yuk s j)=true) (fun n=>s.size-n) 0 ⟨Nat.zero_le _,fun j hj=>by omega⟩ ?_ ?_
 . refine hg ?_;exact StH.same svl rfl
 intro n hn;obtain ⟨hn,hj⟩:=hn;refine hg ?_
 repeat' ((first | refine hfk ?_ ?_<;>intros | refine hik ?_)<;>refine hgS ?_)
 . rw [x9o (by omega) hj (wp7 (.inr (by assumption)))];exact RLe.ofEq rfl
 . refine ⟨n+1,⟨by omega,vol hj (xou (by assumption) (by assumption))⟩,by omega,StH.same svl rfl⟩
 . rw [x9o (by omega) hj (wp7 (.inl (by assumption)))];exact RLe.ofEq rfl
 . have e:n=s.size:=by omega
   subst e;rw [voo hj];exact RLe.ofEq rfl
theorem xhj {s:ByteArray} (hi:i<s.size) (hj:∀ j,j<i->xic (yuk s j)=true) (h:xic (yuk s i)=false):isName s=false:=by
 unfold isName;rw [yxq (by omega) hj (.inr h),decide_eq_false (show ¬((i:Int)=s.size) by omega),Bool.and_false]
theorem wc9 {s:ByteArray} (h:¬(s.size:Int)<=20):isName s=false:=by
 unfold isName;rw [decide_eq_false h,Bool.and_false,Bool.false_and]
theorem y3x (h:wxl c=true):xic c=true:=by unfold xic;rw [h];rfl
theorem wex (s:ByteArray) (hs:s.size<=1073741824):CallsD Γ prog 110 [.one (cS s)] (.one (cB (isName s))):=by
 refine CallsD.run [] Go.Proofs.Tryz.func110 rfl rfl rfl ?_;simp only [Go.Proofs.Tryz.f110];refine hgR ?_
 repeat' ((first | refine hfk ?_ ?_<;>intros | refine hik ?_ | with_reducible first | refine wml (vas _) ?_ | refine ysj (vas _) ?_)<;>refine hgS ?_)
 . exact RLe.ofEq (by unfold isName;simp [*])
 . rename_i h1 _ h2 _ h3;refine x20 [0] (fun n:Nat=>[(3,.one (.dat (cI n)))]) (fun _=>[]) (fun n=>n<=s.size/\0<n/\∀ j,j<n->xic (yuk s j)=true) (fun n=>s.size-n) 1 ⟨by omega,by omega,fun j hj=>?_⟩ ?_ ?_
   . have e:j=0:=by omega
     subst e;exact y3x h3
   . refine hg ?_;exact StH.same svl rfl
   intro n hn;obtain ⟨hn,hn0,hj⟩:=hn;refine hg ?_
   repeat' ((first | refine hfk ?_ ?_<;>intros | refine hik ?_ | with_reducible first | refine wml (vas _) ?_ | refine ysj (vas _) ?_ | refine wml (xyb _) ?_ | refine ysj (xyb _) ?_)<;>refine hgS ?_)
   . rename_i h4 h5 h6 _;rw [xhj (by omega) hj (by unfold xic;rw [h4,h5,decide_eq_false h6];rfl)];exact RLe.ofEq rfl
   . rename_i h6 _;exact ⟨n+1,⟨by omega,by omega,vol hj (by unfold xic;rw [decide_eq_true (show yuk s n=95 by omega),Bool.or_true])⟩,by omega,StH.same svl rfl⟩
   . rename_i h5;exact ⟨n+1,⟨by omega,by omega,vol hj (by unfold xic;rw [h5,Bool.or_true,Bool.true_or])⟩,by omega,StH.same svl rfl⟩
   . rename_i h4;exact ⟨n+1,⟨by omega,by omega,vol hj (y3x h4)⟩,by omega,StH.same svl rfl⟩
   . have e:n=s.size:=by omega
     subst e
     have e:isName s=true:=by
      unfold isName;rw [yxq (Nat.le_refl _) hj (.inl rfl),h3,decide_eq_true (show ¬s.size=0 by omega),decide_eq_true (show (s.size:Int)<=20 by omega),decide_eq_true rfl];rfl
     rw [e];exact RLe.ofEq rfl
 . rw [wc9 (by omega)];exact RLe.ofEq rfl
 . rename_i h _
   have e:s.size=0:=by omega
   exact RLe.ofEq (by unfold isName;rw [e];rfl)
def rEs (s:ByteArray):Nat->ByteArray
 | 0=>⟨#[34]⟩
 | i+1=>(bif decide (yuk s i=34)||decide (yuk s i=92) then rEs s i++⟨#[92]⟩ else rEs s i)++s.extract i (i+1)
theorem ylo (s:ByteArray) (i:Nat):rEs s (i+1)=(bif decide (yuk s i=34)||decide (yuk s i=92) then rEs s i++⟨#[92]⟩ else rEs s i)++s.extract i (i+1):=by rw [rEs]
theorem wf0 (s:ByteArray):∀ i,(rEs s i).size<=2*i+1
 | 0=>by unfold rEs;decide
 | i+1=>by
  have:=wf0 s i
  have h2:(⟨#[92]⟩:ByteArray).size=1:=rfl
  have h3:(s.extract i (i+1)).size<=1:=by rw [ByteArray.size_extract];omega
  unfold rEs
  cases decide (yuk s i=34)||decide (yuk s i=92)<;>simp only [cond_true,cond_false,ByteArray.size_append]<;>omega
theorem wgn (s:ByteArray) (hs:s.size<=1073741824):CallsD Γ prog 235 [.one (cS s)] (.one (cS (rEs s s.size++⟨#[34]⟩))):=by
 refine CallsD.run [] Go.Proofs.Tryz.func235 rfl rfl rfl ?_;simp only [Go.Proofs.Tryz.f235];refine hgR ?_;refine x20 [0] (fun n:Nat=>[(3,.one (.dat (cS (rEs s n)))),(4,.one (.dat (cI n)))]) (fun _=>[]) (fun n=>n<=s.size) (fun n=>s.size-n) 0 (Nat.zero_le _) ?_ ?_
 . refine hg ?_;exact StH.same svl rfl
 intro n hn;have hl:=wf0 s n
 have h3:(s.extract n (n+1)).size<=1:=by rw [ByteArray.size_extract];omega
 have h4:(rEs s n).size+1+(s.extract n (n+1)).size<=9223372036854775807:=by omega
 have h5:(rEs s n).size+(s.extract n (n+1)).size<=9223372036854775807:=by omega
 clear h3 hl;refine hg ?_
 repeat' ((first | refine hfk ?_ ?_<;>intros | refine hik ?_)<;>refine hgS ?_)
 . rename_i _ _ h6 _
   have e:rEs s n++⟨#[92]⟩++s.extract n (n+1)=rEs s (n+1):=by rw [ylo,decide_eq_true h6,Bool.or_true];rfl
   rw [e];exact ⟨n+1,by omega,by omega,StH.same svl rfl⟩
 . rename_i h7 _ h6 _
   have e:rEs s n++s.extract n (n+1)=rEs s (n+1):=by rw [ylo,decide_eq_false h6,decide_eq_false h7];rfl
   rw [e];exact ⟨n+1,by omega,by omega,StH.same svl rfl⟩
 . rename_i h7 _
   have e:rEs s n++⟨#[92]⟩++s.extract n (n+1)=rEs s (n+1):=by rw [ylo,decide_eq_true h7,Bool.true_or];rfl
   rw [e];exact ⟨n+1,by omega,by omega,StH.same svl rfl⟩
 . have e:n=s.size:=by omega
   subst e;exact RLe.ofEq rfl
theorem yrb (s:ByteArray) (hs:s.size<=1073741824):∃ t,CallsD Γ prog 192 [.one (cS s)] (.tup [.one (cS t),.one (cB (yn7 s))]):=by
 refine ⟨bif yn7 s then rEs s s.size++⟨#[34]⟩ else ⟨#[]⟩,?_⟩;refine CallsD.run [] Go.Proofs.Tryz.func192 rfl rfl rfl ?_;simp only [Go.Proofs.Tryz.f192];refine hgR ?_
 repeat' ((first | refine hfk ?_ ?_<;>intros | refine hik ?_ | with_reducible first | refine wml (zti s hs) ?_ | refine ysj (zti s hs) ?_ | refine wml (wgn s hs) ?_ | refine ysj (wgn s hs) ?_)<;>refine hgS ?_)
 all_goals refine lfE ?_;first | exact trivial | rfl
def vci (place:Nat->Option (Nat×Nat)) (cs:List HC) (ps:List (Nat×SV)):Option (List HC):=y31 place cs ps
def xjd (place:Nat->Option (Nat×Nat)) (cs:List HC) (r:List (Nat×SV)) (a:Option (Nat×Nat)) (b:Option (List HC)):Option (List HC):=match a,b with
 | some (off,size),some us=>if us.length=size/\off+size<=cs.length then y31 place (cs.take off++us++cs.drop (off+size)) r else none
 | _,_=>none
def yrd (place:Nat->Option (Nat×Nat)) (cs:List HC) (r:List (Nat×SV)) (b:Bool):Option (List HC):=bif b then y31 place cs r else none
theorem zlg {cs:List HC} {ps:List (Nat×SV)}:y31 place cs ps=vci place cs ps:=rfl
theorem z0c {cs:List HC}:vci place cs []=some cs:=rfl
theorem yq3 {cs:List HC} {x:SV}:vci place cs ((i,x)::r)=xjd place cs r (place i) (vg7 x):=by
 unfold vci;rw [y31];rfl
theorem yf7:Nat.beq a b=decide (a=b):=by rw [Bool.eq_iff_iff,decide_eq_true_iff,Nat.beq_eq]
theorem x88:Nat.ble a b=decide (a<=b):=by rw [Bool.eq_iff_iff,decide_eq_true_iff,Nat.ble_eq]
theorem xe4 (h:a<=b):Nat.ble a b=true:=Nat.ble_eq_true_of_le h
theorem v1a {cs us:List HC} {off size:Nat}:xjd place cs r (some (off,size)) (some us)=yrd place (cs.take off++(us++cs.drop (off+size))) r (Nat.beq us.length size&&Nat.ble (off+size) cs.length):=by
 rw [<-List.append_assoc];show (if us.length=size/\off+size<=cs.length then y31 place (cs.take off++us++cs.drop (off+size)) r else none)=_;rw [yf7,x88];by_cases h1:us.length=size
 . by_cases h2:off+size<=cs.length
   . rw [if_pos ⟨h1,h2⟩,decide_eq_true h1,decide_eq_true h2];rfl
   . rw [if_neg (fun h=>h2 h.2),decide_eq_false h2,Bool.and_false];rfl
 . rw [if_neg (fun h=>h1 h.1),decide_eq_false h1];rfl
theorem wte {cs:List HC}:yrd place cs r true=vci place cs r:=rfl
attribute [go_sem ↓ 30000] zlg
attribute [go_sem] z0c yq3 v1a wte yf7 xe4
theorem n12:((12:Nat):Int)=12:=rfl
attribute [go_sem] n12
theorem vn7 (s:ByteArray):isWord s=(seq ⟨#[110,111,116]⟩ s||seq ⟨#[105,102]⟩ s||seq ⟨#[116,104,101,110]⟩ s||seq ⟨#[101,108,115,101]⟩ s||seq ⟨#[97,110,100]⟩ s||seq ⟨#[111,114]⟩ s||seq ⟨#[108,111,111,107]⟩ s||seq ⟨#[109,105,110]⟩ s||seq ⟨#[109,97,120]⟩ s||seq ⟨#[105,110,116,111]⟩ s||seq ⟨#[116,111]⟩ s||seq ⟨#[97,115]⟩ s):=by
 unfold isWord;simp only [@wsk s]
theorem z6d (s:ByteArray):CallsD Γ prog 111 [.one (cS s)] (.one (cB (isWord s))):=by
 rw [vn7];refine CallsD.run [] Go.Proofs.Tryz.func111 rfl rfl rfl ?_;simp only [Go.Proofs.Tryz.f111];refine hgR ?_
 repeat' ((first | refine hfk ?_ ?_<;>intros | refine hik ?_ | with_reducible refine v6k ?_ | with_reducible refine yp8 ?_)<;>refine hgS ?_)
 all_goals refine lfE ?_;first | exact trivial | rfl
def xmx (o:Int):Int:=bif decide (o=0)||decide (o=1) then 0 else bif decide (o=2)||decide (o=4) then 1 else bif decide (o=5) then 3 else bif decide (o=6)||decide (o=7)||decide (o=8)||decide (o=9)||decide (o=10)||decide (o=11)||decide (o=12)||decide (o=13)||decide (o=14)||decide (o=15) then 2 else -1
theorem vgi (o:Int):CallsD Γ prog 194 [.one (cI o)] (.one (cI (xmx o))):=by
 refine CallsD.run [] Go.Proofs.Tryz.func194 rfl rfl rfl ?_;simp only [Go.Proofs.Tryz.f194];refine hgR ?_
 repeat' ((first | refine hfk ?_ ?_<;>intros | refine hik ?_)<;>refine hgS ?_)
 all_goals refine lf1 @xmx.eq_def ?_;first | exact trivial | rfl
theorem zfr (s:ByteArray) (hs:s.size<=1073741824):CallsD Γ prog 193 [.one (cS s)] (.one (cB (isNamed s))):=by
 refine CallsD.run [] Go.Proofs.Tryz.func193 rfl rfl rfl ?_;simp only [Go.Proofs.Tryz.f193];refine hgR ?_
 repeat' ((first | refine hfk ?_ ?_<;>intros | refine hik ?_ | with_reducible first | refine wml (wex s hs) ?_ | refine ysj (wex s hs) ?_ | refine wml (z6d s) ?_ | refine ysj (z6d s) ?_)<;>refine hgS ?_)
 all_goals refine lf1 @isNamed.eq_def ?_;first | exact trivial | rfl
def z9x (x:Ex):Bool:=
 bif decide (x.op=0) then yn7 x.unit&&decide (0<=x.n)&&decide (x.n<=1099511627776)&&decide (x.name.size=0)&&decide ((x.args.length:Int)=0) else
 bif decide (¬x.n=0)||decide (¬x.unit.size=0) then false else
 bif decide (x.op=3) then isNamed x.name&&decide (1<=(x.args.length:Int))&&decide ((x.args.length:Int)<=6) else
 bif decide (x.op=1)||decide (x.op=2) then isNamed x.name&&decide ((x.args.length:Int)=xmx x.op) else
 decide (x.name.size=0)&&decide (0<(x.args.length:Int))&&decide ((x.args.length:Int)=xmx x.op)
theorem x1g (x:Ex) (hx:x.Sm):CallsD Γ prog 136 [.agg (exC x)] (.one (cB (z9x x))):=by
 have hu:=hx.u;have hs:=hx.s;have hl:=hx.len;obtain ⟨q,hq⟩:∃ q,CallsD Γ prog 192 [.one (cS x.unit)] (.tup [.one (cS q),.one (cB (yn7 x.unit))]):=yrb x.unit hu;refine CallsD.run [] Go.Proofs.Tryz.func136 rfl rfl rfl ?_;simp only [Go.Proofs.Tryz.f136];refine hgR ?_
 repeat' ((first | refine hfk ?_ ?_<;>intros | refine hik ?_ | with_reducible first | refine hcA ?_ | refine hcB ?_ | refine wml (zfr x.name hs) ?_ | refine ysj (zfr x.name hs) ?_ | refine wml (vgi _) ?_ | refine ysj (vgi _) ?_)<;>refine hgS ?_)
 all_goals refine lf1 @z9x.eq_def ?_;first | exact trivial | rfl
mutual
def Ex.rsh:Ex->Bool
 | .mk o n u s l=>z9x (.mk o n u s l)&&Ex.rshL l
def Ex.rshL:List Ex->Bool
 | []=>true
 | y::l=>Ex.rsh y&&Ex.rshL l
end
theorem Ex.ver:∀ l:List Ex,Ex.rshL l=l.all Ex.rsh
 | []=>by rw [Ex.rshL];rfl
 | y::l=>by rw [Ex.rshL,Ex.ver l];rfl
theorem Ex.zpu (x:Ex):x.rsh=(z9x x&&x.args.all Ex.rsh):=by cases x;rw [Ex.rsh,Ex.ver];rfl
theorem all_true {p:Ex->Bool} {l:List Ex} (h:∀ j,j<l.length->p (l.getD j default)=true):l.all p=true:=by
 rw [List.all_eq_true];intro y hy;obtain ⟨j,hj,rfl⟩:=List.getElem_of_mem hy
 have:=h j hj
 rwa [show l.getD j default=l[j] from by simp [hj]] at this
theorem all_false {p:Ex->Bool} {l:List Ex} {j:Nat} (hj:j<l.length) (h:p (l.getD j default)=false):l.all p=false:=by
 cases e:l.all p with
 | false=>rfl
 | true=>rw [List.all_eq_true.1 e _ (y7p hj)] at h;cases h
theorem ynp:∀ x:Ex,x.Sm->CallsD Γ prog 74 [.agg (exC x)] (.one (cB x.rsh)):=by
 refine Ex.ind (fun x ih hx=>?_);have hl:=hx.len;refine CallsD.run [] Go.Proofs.Tryz.func74 rfl rfl rfl ?_;simp only [Go.Proofs.Tryz.f74];refine hgR ?_
 repeat' ((first | refine hfk ?_ ?_<;>intros | refine hik ?_ | with_reducible first | refine wml (x1g x hx) ?_ | refine ysj (x1g x hx) ?_)<;>refine hgS ?_)
 . rename_i h0;rw [Ex.zpu,h0];exact RLe.ofEq rfl
 . rename_i h0;refine x20 [1] (fun n:Nat=>[(3,.one (.dat (cI n)))]) (fun _=>[.box ((exC x).map .dat) (some 24)]) (fun n=>n<=x.args.length/\∀ j,j<n->(x.args.getD j default).rsh=true) (fun n=>x.args.length-n) 0 ⟨Nat.zero_le _,fun j hj=>by omega⟩ ?_ ?_
   . refine hg ?_;exact StH.same svl rfl
   intro n hn;obtain ⟨hn,hj⟩:=hn;refine hg ?_
   repeat' ((first | refine hfk ?_ ?_<;>intros | refine hik ?_ | with_reducible first | refine wml (ih _ (y7p (show n<x.args.length by omega)) (hx.arg _ (y7p (show n<x.args.length by omega)))) ?_ | refine ysj (ih _ (y7p (show n<x.args.length by omega)) (hx.arg _ (y7p (show n<x.args.length by omega)))) ?_)<;>refine hgS ?_)
   . rename_i h1;rw [Ex.zpu,all_false (by omega) h1,Bool.and_false];exact RLe.ofEq rfl
   . rename_i h1;exact ⟨n+1,⟨by omega,vol hj h1⟩,by omega,StH.same svl rfl⟩
   . have e:n=x.args.length:=by omega
     subst e;rw [Ex.zpu,h0,all_true hj];exact RLe.ofEq rfl
mutual
def Ex.rsz:Ex->Int->Int->Int
 | .mk _ _ _ _ l,n,lv=>bif decide (n<1)||decide (lv<1) then -1 else Ex.rszL l n lv 1
def Ex.rszL:List Ex->Int->Int->Int->Int
 | [],_,_,k=>k
 | y::l,n,lv,k=>bif decide (Ex.rsz y (n-k) (lv-1)<0) then -1 else Ex.rszL l n lv (k+Ex.rsz y (n-k) (lv-1))
end
theorem Ex.vey (x:Ex) (n lv:Int):x.rsz n lv=bif decide (n<1)||decide (lv<1) then -1 else Ex.rszL x.args n lv 1:=by cases x;rw [Ex.rsz];rfl
theorem Ex.zba:∀(l:List Ex),(∀ y∈l,∀ n lv:Int,-1<=y.rsz n lv/\(0<=y.rsz n lv->y.rsz n lv<=n))->∀ n lv k:Int,1<=k->k<=n->-1<=Ex.rszL l n lv k/\(0<=Ex.rszL l n lv k->Ex.rszL l n lv k<=n)
 | [],_,n,lv,k,h1,h2=>by rw [Ex.rszL];omega
 | y::l,h,n,lv,k,h1,h2=>by
  rw [Ex.rszL];have hy:=h y (by simp) (n-k) (lv-1);generalize y.rsz (n-k) (lv-1)=m at hy;by_cases hm:m<0
  . rw [decide_eq_true hm];simp only [cond_true];omega
  . rw [decide_eq_false hm];exact Ex.zba l (fun z hz=>h z (by simp [hz])) n lv (k+m) (by omega) (by omega)
theorem Ex.wmi:∀(x:Ex) (n lv:Int),-1<=x.rsz n lv/\(0<=x.rsz n lv->x.rsz n lv<=n):=by
 refine Ex.ind (fun x ih n lv=>?_);rw [Ex.vey];by_cases h1:n<1
 . rw [decide_eq_true h1];simp only [Bool.true_or,cond_true];omega
 . by_cases h2:lv<1
   . rw [decide_eq_true h2];simp only [Bool.or_true,cond_true];omega
   . rw [decide_eq_false h1,decide_eq_false h2];exact Ex.zba x.args ih n lv 1 (by omega) (by omega)
theorem woy:∀ x:Ex,x.Sm->∀ n lv:Int,n<=1000->lv<=1000->0<=n->0<=lv->CallsD Γ prog 73 [.agg (exC x),.one (cI n),.one (cI lv)] (.one (cI (x.rsz n lv))):=by
 refine Ex.ind (fun x ih hx n lv hn hlv hn0 hlv0=>?_);have hl:=hx.len;refine CallsD.run [] Go.Proofs.Tryz.func73 rfl rfl rfl ?_;simp only [Go.Proofs.Tryz.f73];refine hgR ?_
 repeat' ((first | refine hfk ?_ ?_<;>intros | refine hik ?_)<;>refine hgS ?_)
 . rename_i h1 _ h2 _;exact RLe.ofEq (by rw [Ex.vey,decide_eq_true h2,Bool.or_true];rfl)
 . rename_i h1 _ h2 _
   have e0:x.rsz n lv=Ex.rszL x.args n lv 1:=by rw [Ex.vey,decide_eq_false h1,decide_eq_false h2];rfl
   refine x20 [1,2,3] (fun p:Nat×Int=>[(7,.one (.dat (cI p.2))),(8,.one (.dat (cI p.1)))]) (fun _=>[.box ((exC x).map .dat) (some 24)]) (fun p=>p.1<=x.args.length/\1<=p.2/\p.2<=n/\Ex.rszL (x.args.drop p.1) n lv p.2=Ex.rszL x.args n lv 1) (fun p=>x.args.length-p.1) (0,1) ⟨Nat.zero_le _,by simp only;omega,by simp only;omega,rfl⟩ ?_ ?_
   . refine hg ?_;exact StH.same svl rfl
   rintro ⟨i,k⟩ ⟨hi,hk1,hk2,hc⟩;simp only at hi hk1 hk2 hc;refine hg ?_;refine vt2 (fun hlt hd=>?_) (fun hlt _=>?_)
   . have hlt':i<x.args.length:=by omega
     have hy:=y7p hlt';have hcc:=ih _ hy (hx.arg _ hy) (n-k) (lv-1) (by omega) (by omega) (by omega) (by omega);have hb:=Ex.wmi (x.args.getD i default) (n-k) (lv-1);rw [xfc hlt',Ex.rszL] at hc;generalize (x.args.getD i default).rsz (n-k) (lv-1)=m at hcc hb hc;rw [e0,<-hc];clear e0 hc;refine hg1 @hd ?_
     repeat' ((first | refine hfk ?_ ?_<;>intros | refine hik ?_ | with_reducible first | refine hcA ?_ | refine hcB ?_)<;>refine hgS ?_)
     . exact RLe.ofEq rfl
     . exact ⟨(i+1,k+m),⟨by simp only;omega,by simp only;omega,by simp only;omega,rfl⟩,by simp only;omega,StH.same svl rfl⟩
   . refine hg ?_;rw [e0,<-hc,List.drop_eq_nil_of_le (by omega),Ex.rszL];exact RLe.ofEq rfl
 . rename_i h1 _;exact RLe.ofEq (by rw [Ex.vey,decide_eq_true h1];rfl)
theorem rFew (x:Ex) (hx:x.Sm) (n lv:Int) (hn:n<=1000) (hlv:lv<=1000) (hn0:0<=n) (hlv0:0<=lv):CallsD Γ prog 36 [.agg (exC x),.one (cI n),.one (cI lv)] (.one (cB (decide (0<=x.rsz n lv)))):=by
 have h:=woy (Γ:=Γ) x hx n lv hn hlv hn0 hlv0;refine CallsD.run [] Go.Proofs.Tryz.func36 rfl rfl rfl ?_;simp only [Go.Proofs.Tryz.f36];refine hgR ?_
 repeat' ((first | refine hfk ?_ ?_<;>intros | refine hik ?_ | with_reducible first | refine hcA ?_ | refine hcB ?_)<;>refine hgS ?_)
 all_goals exact RLe.ofEq rfl
def ygj (x:Ex):Bool:=decide (0<=x.rsz 200 20)&&x.rsh
theorem xsr (x:Ex) (hx:x.Sm):CallsD Γ prog 37 [.agg (exC x)] (.one (cB (ygj x))):=by
 have h:=rFew (Γ:=Γ) x hx 200 20 (by decide) (by decide) (by decide) (by decide);refine CallsD.run [] Go.Proofs.Tryz.func37 rfl rfl rfl ?_;simp only [Go.Proofs.Tryz.f37];refine hgR ?_
 repeat' ((first | refine hfk ?_ ?_<;>intros | refine hik ?_ | with_reducible first | refine hcA ?_ | refine hcB ?_ | refine wml (ynp x hx) ?_ | refine ysj (ynp x hx) ?_)<;>refine hgS ?_)
 all_goals (refine RLe.ofEq ?_;conv=>simp only [Bool.and_true,Bool.true_and,Bool.and_false,Bool.false_and,Bool.or_true,Bool.true_or,Bool.or_false,Bool.false_or,Bool.not_true,Bool.not_false,decide_true,decide_false,not_true_eq_false,not_false_eq_true,wiu,if_true,if_false,Bool.and_self,Bool.or_self,cond_true,cond_false,List.length_map,ne_eq,Int.reduceEq,Int.reduceLT,Int.reduceLE, *,ygj]);first | exact trivial | rfl
mutual
def Ex.short:Ex->Bool
 | .mk _ _ u s l=>Ex.wb1 l&&(decide ((s.size:Int)<=30)&&decide ((u.size:Int)<=30))
def Ex.wb1:List Ex->Bool
 | []=>true
 | y::l=>Ex.short y&&Ex.wb1 l
end
theorem Ex.wdt:∀ l:List Ex,Ex.wb1 l=l.all Ex.short
 | []=>by rw [Ex.wb1];rfl
 | y::l=>by rw [Ex.wb1,Ex.wdt l];rfl
theorem Ex.ygf (x:Ex):x.short=(x.args.all Ex.short&&(decide ((x.name.size:Int)<=30)&&decide ((x.unit.size:Int)<=30))):=by cases x;rw [Ex.short,Ex.wdt];rfl
theorem x4w:∀ x:Ex,x.Sm->CallsD Γ prog 72 [.agg (exC x)] (.one (cB x.short)):=by
 refine Ex.ind (fun x ih hx=>?_);have hl:=hx.len;refine CallsD.run [] Go.Proofs.Tryz.func72 rfl rfl rfl ?_;simp only [Go.Proofs.Tryz.f72];refine hgR ?_;refine x20 [1] (fun n:Nat=>[(3,.one (.dat (cI n)))]) (fun _=>[.box ((exC x).map .dat) (some 24)]) (fun n=>n<=x.args.length/\∀ j,j<n->(x.args.getD j default).short=true) (fun n=>x.args.length-n) 0 ⟨Nat.zero_le _,fun j hj=>by omega⟩ ?_ ?_
 . refine hg ?_;exact StH.same svl rfl
 intro n hn;obtain ⟨hn,hj⟩:=hn;refine hg ?_
 repeat' ((first | refine hfk ?_ ?_<;>intros | refine hik ?_ | with_reducible first | refine wml (ih _ (y7p (show n<x.args.length by omega)) (hx.arg _ (y7p (show n<x.args.length by omega)))) ?_ | refine ysj (ih _ (y7p (show n<x.args.length by omega)) (hx.arg _ (y7p (show n<x.args.length by omega)))) ?_)<;>refine hgS ?_)
 . rename_i h1;rw [Ex.ygf,all_false (by omega) h1];exact RLe.ofEq rfl
 . rename_i h1;exact ⟨n+1,⟨by omega,vol hj h1⟩,by omega,StH.same svl rfl⟩
 all_goals
  have e:n=x.args.length:=by omega
  subst e;rw [Ex.ygf,all_true hj]
  refine lfE ?_;first | exact trivial | rfl
def fewX (x:Ex):Bool:=(decide (0<=x.rsz 60 12)||(decide (0<=x.rsz 220 24)&&!ygj x))&&x.short
def vrS (v:Vr):Bool:=decide ((v.name.size:Int)<=30)
def tbS (t:Tb):Bool:=decide ((t.name.size:Int)<=30)&&(decide ((t.unit.size:Int)<=30)&&decide ((t.rows.length:Int)<=8))
def v1w (x:Ex) (vs:List Vr) (ms:List Tb):Bool:=fewX x&&((vs.take 11).all vrS&&((ms.take 6).all tbS&&(decide ((vs.length:Int)<=10)&&decide ((ms.length:Int)<=5))))
theorem xdn [Inhabited α] {p:α->Bool} {l:List α} {n:Nat} (h1:i<n) (h2:i<l.length) (h:p (l.getD i default)=false):(l.take n).all p=false:=by
 cases e:(l.take n).all p with
 | false=>rfl
 | true=>
  have hm:l.getD i default∈l.take n:=by
   rw [show l.getD i default=l[i] from by simp [h2]];exact List.mem_take_iff_getElem.2 ⟨i,by omega,rfl⟩
  rw [List.all_eq_true.1 e _ hm] at h;cases h
theorem z8a [Inhabited α] {p:α->Bool} {l:List α} {n:Nat} (hj:∀ j,j<i->p (l.getD j default)=true) (h:i=n\/i=l.length):(l.take n).all p=true:=by
 rw [List.all_eq_true];intro y hy;obtain ⟨j,hj2,rfl⟩:=List.mem_take_iff_getElem.1 hy
 have:=hj j (by omega)
 rwa [show l.getD j default=l[j] from by simp [show j<l.length by omega]] at this
theorem znv (x:Ex) (hx:x.Sm) (vs:List Vr) (ms:List Tb) (hv:vs.length<=1073741824) (_hm:ms.length<=1073741824):CallsD Γ prog 35 [.agg (exC x),.one (.sl 7 (vs.map Vr.C)),.one (.sl 3 (ms.map Tb.C))] (.one (cB (v1w x vs ms))):=by
 have h1:=rFew (Γ:=Γ) x hx 60 12 (by decide) (by decide) (by decide) (by decide);have h2:=rFew (Γ:=Γ) x hx 220 24 (by decide) (by decide) (by decide) (by decide);have h3:=xsr (Γ:=Γ) x hx;have h4:=x4w (Γ:=Γ) x hx;have hf:fewX x=((decide (0<=x.rsz 60 12)||(decide (0<=x.rsz 220 24)&&!ygj x))&&x.short):=rfl;generalize decide (0<=x.rsz 60 12)=b1 at h1 hf;generalize decide (0<=x.rsz 220 24)=b2 at h2 hf;generalize ygj x=b3 at h3 hf;generalize x.short=b4 at h4 hf;generalize hR:v1w x vs ms=R;refine CallsD.run [] Go.Proofs.Tryz.func35 rfl rfl rfl ?_;simp only [Go.Proofs.Tryz.f35];refine hgR ?_
 repeat' ((first | refine hfk ?_ ?_<;>intros | refine hik ?_ | with_reducible first | refine hcA ?_ | refine hcB ?_)<;>refine hgS ?_)
 all_goals first
  | exact RLe.ofEq (by rw [<-hR];unfold v1w;rw [hf];simp [*])
  | skip
 all_goals
  have hX:fewX x=true:=by rw [hf];simp [*]
  clear hf h1 h2 h3 h4;refine x20 [1,2] (fun n:Nat=>[(7,.one (.dat (cI n)))]) (fun _=>[.box ((exC x).map .dat) (some 24)]) (fun n=>n<=vs.length/\n<=11/\∀ j,j<n->vrS (vs.getD j default)=true) (fun n=>vs.length-n) 0 ⟨Nat.zero_le _,Nat.zero_le _,fun j hj=>by omega⟩ ?_ ?_
  . refine hg ?_;exact StH.same svl rfl
  intro n hn;obtain ⟨hn,hn2,hj⟩:=hn;refine hg ?_
  repeat' ((first | refine hfk ?_ ?_<;>intros | refine hik ?_)<;>refine hgS ?_)
  . rename_i h _;exact RLe.ofEq (by rw [<-hR];unfold v1w;rw [xdn (i:=n) (by omega) (by omega) (by unfold vrS;exact decide_eq_false (by omega)),hX];rfl)
  . rename_i h _;exact ⟨n+1,⟨by omega,by omega,vol hj (by unfold vrS;exact decide_eq_true (by omega))⟩,by omega,StH.same svl rfl⟩
  all_goals
   have hV:(vs.take 11).all vrS=true:=z8a (i:=n) hj (by omega);clear hj;refine x20 [1,2] (fun n:Nat=>[(8,.one (.dat (cI n)))]) (fun _=>[.box ((exC x).map .dat) (some 24)]) (fun n=>n<=ms.length/\n<=6/\∀ j,j<n->tbS (ms.getD j default)=true) (fun n=>ms.length-n) 0 ⟨Nat.zero_le _,Nat.zero_le _,fun j hj=>by omega⟩ ?_ ?_
   . refine hg ?_;exact StH.same svl rfl
   intro k hk;obtain ⟨hk,hk2,hj⟩:=hk;refine hg ?_
   repeat' ((first | refine hfk ?_ ?_<;>intros | refine hik ?_)<;>refine hgS ?_)
   all_goals first
    | exact RLe.ofEq (by rw [<-hR];unfold v1w;rw [xdn (l:=ms) (i:=k) (by omega) (by omega) (by unfold tbS;first | (rw [decide_eq_false (show ¬((ms.getD k default).name.size:Int)<=30 by omega)];rfl) | (rw [decide_eq_false (show ¬((ms.getD k default).unit.size:Int)<=30 by omega),Bool.false_and,Bool.and_false]) | (rw [decide_eq_false (show ¬((ms.getD k default).rows.length:Int)<=8 by omega),Bool.and_false,Bool.and_false])),hX,hV];rfl)
    | exact RLe.ofEq (by rw [<-hR];unfold v1w;rw [z8a (l:=ms) (i:=k) hj (by omega),hX,hV];simp [*])
    | exact ⟨k+1,⟨by omega,by omega,vol hj (by unfold tbS;rw [decide_eq_true (show ((ms.getD k default).name.size:Int)<=30 by omega),decide_eq_true (show ((ms.getD k default).unit.size:Int)<=30 by omega),decide_eq_true (show ((ms.getD k default).rows.length:Int)<=8 by omega)];rfl)⟩,by omega,StH.same svl rfl⟩
    | skip
end Go.Hp.T
namespace Go.Hp.T
open Go Go.RowKit Go.Slot Go.Hp Go.Slot.T
open Go.Proofs.Tryz (prog)
set_option maxRecDepth 10000
set_option maxHeartbeats 0
variable {Γ:List (Nat×List Cell)}
end Go.Hp.T
