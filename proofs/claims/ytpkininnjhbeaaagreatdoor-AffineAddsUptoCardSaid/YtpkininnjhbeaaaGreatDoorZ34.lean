/- The proof, part Z34: A6, Qa, Qb, Qc, Ya, Yb, Yc, Yd, Yl, Ym, A7, Ii, Oj, Qra, Qrb, Qrc, Qrd, Qre, Qrf, Qrg, Qrh, Qri, Qrj, Qrk. -/
import Derived.Test.YtpkininnjhbeaaaGreatDoorZ33
import Derived.Test.YtpkininnjhbeaaaGreatDoorZ29
import Derived.Test.YtpkininnjhbeaaaGreatDoorZ28
import Derived.Test.YtpkininnjhbeaaaGreatDoorZ31
import Derived.Test.YtpkininnjhbeaaaGreatDoorZ27
import Derived.Test.YtpkininnjhbeaaaGreatDoorZ32
import Derived.Test.YtpkininnjhbeaaaGreatDoorZ21
import Derived.Test.YtpkininnjhbeaaaGreatDoorChecked
namespace Go.Hp.T
open Go Go.RowKit Go.Slot Go.Hp Go.Slot.T
open Go.Proofs.Tryz (prog)
set_option maxRecDepth 10000
set_option maxHeartbeats 8000000
variable {Γ:List (Nat×List Cell)}
theorem xyf (V:Va):(envA V).length=V.length:=yzr _ V
theorem wxu (T:Vt):(envB T).length=T.length:=yzr _ T
attribute [go_sem] xyf wxu
def rdO (n:Nat):Option (Va×Vt)->List SB
 | none=>[]
 | some p=>rdE n p.1 p.2
def rdR:Option (Va×Vt)->SV
 | none=>.tup [.one .any,.one (.dat (cB false))]
 | some _=>.tup [.one (.ptr 0 0),.one (.dat (cB true))]
theorem wdm {J:List SB} {h1:HC}:StH Γ [] [SV.tup [.one h1,.one (.dat (cB false))]] J [SV.tup [.one .any,.one (.dat (cB false))]] []:=
 StH.trans (StH.tup1 (l':=[.one .any,.one (.dat (cB false))]) (.cons (.one (.any _)) (.cons (.refl _) .nil))) (by
  have:=StH.cutB (Γ:=Γ) (e:=[]) (I:=[SV.tup [.one .any,.one (.dat (cB false))]]) (J:=J) 0 (Nat.le_refl _) (by unfold yyj;rfl)
  exact this)
theorem zar (n:Nat) (V:Va) (T:Vt) (b:Bool):StH Γ [] [SV.tup [.one (.ptr 2 0),.one (.dat (cB b))]] [mA V,mB T,.box [.dat (cI n),.mp 0,.mp 1] (some 127)] [SV.tup [.one (.ptr 0 0),.one (.dat (cB b))]] (rdE n V T):=by
 have e1:swL 1 2 [mA V,mB T,.box [.dat (cI n),.mp 0,.mp 1] (some 127)]=[mA V,.box [.dat (cI n),.mp 0,.mp 2] (some 127),mB T]:=by
  show [swSB 1 2 (mA V),.box [.dat (cI n),.mp 0,.mp 2] (some 127),swSB 1 2 (mB T)]=_;rw [vho,vcy]
 have e2:swL 0 1 [mA V,.box [.dat (cI n),.mp 0,.mp 2] (some 127),mB T]=rdE n V T:=by
  show [.box [.dat (cI n),.mp 1,.mp 2] (some 127),swSB 0 1 (mA V),swSB 0 1 (mB T)]=_;rw [vho,vcy]
 have h1:=StH.vim (Γ:=Γ) (e:=[]) (I:=[SV.tup [.one (.ptr 2 0),.one (.dat (cB b))]]) (J:=[mA V,mB T,.box [.dat (cI n),.mp 0,.mp 1] (some 127)]) (i:=1) (j:=2) (by decide) (by decide) (by simp) (by simp);have h2:=StH.vim (Γ:=Γ) (e:=[]) (I:=[SV.tup [.one (.ptr 1 0),.one (.dat (cB b))]]) (J:=[mA V,.box [.dat (cI n),.mp 0,.mp 2] (some 127),mB T]) (i:=0) (j:=1) (by decide) (by decide) (by simp) (by simp);rw [e1] at h1;rw [e2] at h2;exact h1.trans h2
theorem v12 (k:Rat) (cs:List Rat):(Af.of k cs).c=qF (some k):=rfl
theorem v0e (k:Rat) (cs:List Rat):(Af.of k cs).l.map Fc.C=cs.map rowQ:=vqk cs
theorem zxz (nm:ByteArray) (k:Rat) (cs:List Rat):Sl.val ⟨nm,Af.of k cs⟩=(k,cs):=by
 show ((Fc.of k).val,(cs.map Fc.of).map Fc.val)=_;rw [List.map_map,Fc.xhg]
 congr 1
 conv=>rhs;rw [<-List.map_id cs]
 exact List.map_congr_left (fun q _=>Fc.xhg q)
theorem zw1 (ss:List Sl) (ms:List Tb) (hl:ss.length<=1073741824) (hm:ms.length<=1073741824) (hs:∀ s∈ss,s.name.size<=1073741824/\s.f.l.length<=1048576/\s.f.le 67108864) (hms:∀ t∈ms,t.Sm) :
 xpp Γ prog 40 [] [.one (.dat (.sl 6 (ss.map Sl.C))),.one (.dat (.sl 3 (ms.map Tb.C)))] (rdO (nOf ss) (entA ss ms)) (rdR (entA ss ms)):=by
 have hbad:∀ n,nOf ss=n->gS n [] ss=none->entA ss ms=none:=fun n hn h=>by unfold entA;rw [hn,h]
 have hbad2:∀ n V,nOf ss=n->gS n [] ss=some V->gTb V [] ms=none->entA ss ms=none:=fun n V hn h k=>by unfold entA;rw [hn,h];simp only [k]
 have hgood:∀ n V T,nOf ss=n->gS n [] ss=some V->gTb V [] ms=some T->entA ss ms=bif decide ((V.length:Int)=ss.length)&&decide ((T.length:Int)=ms.length) then some (V,T) else none:=fun n V T hn h k=>by unfold entA;rw [hn,h];simp only [k]
 generalize hn:nOf ss=n;have hbad:=hbad n hn
 have hbad2:=fun V=>hbad2 n V hn
 have hgood:=fun V T=>hgood n V T hn
 have e1:ss.length≠0->(ss.getD 0 default).f.l.length=n:=fun h=>by
  cases ss with
  | nil=>exact absurd rfl h
  | cons s l=>exact hn
 have e0:ss.length=0->n=0:=fun h=>by rw [<-hn,List.eq_nil_of_length_eq_zero h];rfl
 generalize entA ss ms=E at *;clear hn;refine xpp.run [] Go.Proofs.Tryz.func40 rfl rfl ?_;simp only [Go.Proofs.Tryz.f40];refine hgR ?_
 repeat' ((first | refine hfk ?_ ?_<;>intros | refine hik ?_)<;>refine hgS ?_)
 all_goals
  refine x20 [0,1,6,29,30] (fun p:Nat×Va=>[(31,.one (.dat (cI p.1)))]) (fun p=>[mA p.2,mB [],.box [.dat (cI n),.mp 0,.mp 1] (some 127)])
   (fun p=>p.1<=ss.length/\gS n [] ss=gS n p.2 (ss.drop p.1)) (fun p=>ss.length-p.1) (0,[]) ⟨Nat.zero_le _,rfl⟩ ?_ ?_
  . refine hg ?_;exact StH.same svl (by first | rfl | (rw [e1 (by omega)];done) | (rw [e1 (by omega)];rfl) | (rw [e0 (by omega)];done) | (rw [e0 (by omega)];rfl))
  rintro ⟨i,V⟩ ⟨h1,h2⟩;simp only at h1 h2;clear e1 e0;refine hg ?_;refine vt2 (fun hlt _=>?_) (fun hlt _=>?_)
  . have hlt':i<ss.length:=by omega
    have hy:=hs _ (y7p hlt');rw [xfc hlt',gS] at h2;refine hg ?_;have hr:=v1n (Γ:=Γ) (ss.getD i default).f n hy.2.1 hy.2.2;have hnm:=vfk (Γ:=Γ) (ss.getD i default).name (by have:=hy.1;omega);have hwd:=yko (Γ:=Γ) (ss.getD i default).name;clear hgood hbad2;generalize ss.getD i default=s at *;obtain ⟨nm,f⟩:=s;simp only at hy h2 hr hnm hwd ⊢;generalize isName nm=b1 at *;generalize isWord nm=b2 at *;by_cases hok:f.ok n
    . obtain ⟨k,cs,rfl,hcs⟩:=Af.vy4 hok;rw [decide_eq_true hok] at hr h2;rw [zxz] at h2;rw [y6w] at hr;rw [v0e];simp only [v12];clear hok
      repeat' ((first | refine hfk ?_ ?_<;>intros | refine hik ?_ | with_reducible first | refine wml (hnm) ?_ | refine ysj (hnm) ?_ | refine wml (hwd) ?_ | refine ysj (hwd) ?_ | refine wml (hr) ?_ | refine ysj (hr) ?_)<;>refine hgS ?_)
      all_goals first
       | exact wdm
       | (rw [hbad (by rw [h2];simp [*])];exact wdm)
       | (refine ⟨(i+1,updF V nm (k,cs)),⟨by dsimp only;omega,by first | rfl | (rw [h2];simp [*];done) | (simp [*];done)⟩,by dsimp only;omega,?_⟩
          refine StH.cutN [0,1,6,29,30,31] 3 rfl ?_ ?_
          . refine hg ?_;exact trivial
          exact StH.same svl rfl)
    . rw [decide_eq_false hok] at hr h2;rw [Af.C_eq] at hr
      repeat' ((first | refine hfk ?_ ?_<;>intros | refine hik ?_ | with_reducible first | refine wml (hnm) ?_ | refine ysj (hnm) ?_ | refine wml (hwd) ?_ | refine ysj (hwd) ?_ | refine wml (hr) ?_ | refine ysj (hr) ?_)<;>refine hgS ?_)
      all_goals first
       | exact wdm
       | (rw [hbad (by rw [h2];simp [*])];exact wdm)
  . have hV:gS n [] ss=some V:=by rw [h2,List.drop_eq_nil_of_le (by omega)];rfl
    have hbad2:=hbad2 V hV
    have hgood:=fun T=>hgood V T hV
    clear h2 h1 hlt hbad hV;refine hg ?_;refine x20 [0,1,6,63,64] (fun p:Nat×Vt=>[(65,.one (.dat (cI p.1)))]) (fun p=>[mA V,mB p.2,.box [.dat (cI n),.mp 0,.mp 1] (some 127)])
     (fun p=>p.1<=ms.length/\gTb V [] ms=gTb V p.2 (ms.drop p.1)) (fun p=>ms.length-p.1) (0,[]) ⟨Nat.zero_le _,rfl⟩ ?_ ?_
    . refine hg ?_;exact StH.same svl rfl
    rintro ⟨j,T⟩ ⟨h1,h2⟩;simp only at h1 h2;refine hg ?_;refine vt2 (fun hlt _=>?_) (fun hlt _=>?_)
    . have hlt':j<ms.length:=by omega
      have hy:=hms _ (y7p hlt');rw [xfc hlt',gTb] at h2;have hr:=w8d (Γ:=Γ) _ hy.n hy.u hy.r;have hwd:=yko (Γ:=Γ) (ms.getD j default).name
      replace h2:gTb V [] ms=bif (z2f V (ms.getD j default).name).isSome||isWord (ms.getD j default).name||!vgr (fun s=>(xx7 s).2) (ms.getD j default) then none else gTb V (updF T (ms.getD j default).name (ms.getD j default)) (ms.drop (j+1)):=h2
      generalize isWord (ms.getD j default).name=b2 at *;generalize vgr (fun s=>(xx7 s).2) (ms.getD j default)=b3 at *;clear hgood hms;refine hg ?_
      cases hl:z2f V (ms.getD j default).name with
      | none =>
       rw [hl] at h2;refine hg1 @hl ?_
       repeat' ((first | refine hfk ?_ ?_<;>intros | refine hik ?_ | with_reducible first | refine wml (hr) ?_ | refine ysj (hr) ?_ | refine wml (hwd) ?_ | refine ysj (hwd) ?_)<;>refine hgS ?_)
       all_goals first
        | exact wdm
        | (rw [hbad2 (by rw [h2];simp [*])];exact wdm)
        | (refine ⟨(j+1,updF T (ms.getD j default).name (ms.getD j default)),⟨by dsimp only;omega,by first | rfl | (rw [h2];simp [*];done) | (simp [*];done)⟩,by dsimp only;omega,?_⟩
           refine StH.cutN [0,1,6,63,64,65] 3 rfl ?_ ?_
           . refine hg ?_;exact trivial
           exact StH.same svl rfl)
      | some d=>
       rw [hl] at h2;refine hg1 @hl ?_
       repeat' ((first | refine hfk ?_ ?_<;>intros | refine hik ?_ | with_reducible first | refine wml (hr) ?_ | refine ysj (hr) ?_ | refine wml (hwd) ?_ | refine ysj (hwd) ?_)<;>refine hgS ?_)
       all_goals first
        | exact wdm
        | (rw [hbad2 (by rw [h2];simp [*])];exact wdm)
    . have hT : gTb V [] ms = some T := by rw [h2, List.drop_eq_nil_of_le (by omega)]; rfl
      rw [hgood T hT];clear h2 h1 hlt hbad2 hgood hT;refine hg ?_
      repeat' ((first | refine hfk ?_ ?_<;>intros | refine hik ?_)<;>refine hgS ?_)
      all_goals first
       | exact wdm
       | (generalize decide ((T.length:Int)=ms.length)=q
          cases q
          . exact wdm
          . exact zar n V T true)
theorem xf9:∀ x:Ex,x.Sm->CallsD Γ prog 39 [.agg (exC x)] (.one (cB x.wqm)):=by
 refine Ex.ind (fun x ih hx=>?_);have hl:=hx.len;have hc:CallsD Γ prog 77 [.one (.sl 5 (x.args.map Ex.cells)),fN 39] (.one (cB (x.args.any Ex.wqm))):=vps x.args _ _ hl (fun y hy=>ih y hy (hx.arg y hy));refine CallsD.run [] Go.Proofs.Tryz.func39 rfl rfl rfl ?_;simp only [Go.Proofs.Tryz.f39];refine hgR ?_
 repeat' ((first | refine hfk ?_ ?_<;>intros | refine hik ?_ | with_reducible first | refine wml (hc) ?_ | refine ysj (hc) ?_)<;>refine hgS ?_)
 all_goals refine RLe.ofEq ?_
 all_goals rw [Ex.xrx]
 all_goals (refine bsE ?_;try exact trivial)
abbrev afR (r:Th×Int):AV:=.tup [.agg [.raw (.int .i64 (qF r.1.c).s),.ints .i64 (qF r.1.c).L,.raw (.int .i64 (qF r.1.c).t),.ints .i64 (qF r.1.c).M,.sl 4 (r.1.l.map rowQ)],.one (cI r.2)]
theorem afEq {e:Int} {r:Th×Int} (h:r=(Th.zero,e)):RLe (.tup [.agg [cI 0,.zc,cI 0,.zc,.zc],.one (cI e)]) (afR r):=by
 subst h;exact .tup (.cons (.agg (.cons (.refl _) (.cons (.zuc _) (.cons (.refl _) (.cons (.zuc _) (.cons (.zcSl _) .nil)))))) (.cons (.refl _) .nil))
theorem v0f {B:Nat} (hB:4300<=B) (hB2:B*200<=33554432) (x:Ex) (ss:List Sl) (ms:List Tb) (hx:x.Sm) (hn:nOf ss<=6) (hl:ss.length<=1073741824) (hm:ms.length<=1073741824) (hs:∀ s∈ss,s.name.size<=1073741824/\s.f.l.length<=1048576/\s.f.le 67108864) (hsm:∀ s∈ss,s.sm B) (hms:∀ t∈ms,t.Sm) :
 CallsD Γ prog 10 [.agg (exC x),.one (.sl 6 (ss.map Sl.C)),.one (.sl 3 (ms.map Tb.C))] (afR (affF x ss ms)):=by
 have hr:=zw1 (Γ:=Γ) ss ms hl hm hs hms;have c1:=zfy (Γ:=Γ) x hx;have c2:=xf9 (Γ:=Γ) x hx
 cases hr1:zqs x with
 | false=>
  rw [hr1] at c1
  have e:affF x ss ms=(Th.zero,2):=by unfold affF;rw [hr1];rfl
  rw [e];refine CallsD.run [] Go.Proofs.Tryz.func10 rfl rfl rfl ?_;simp only [Go.Proofs.Tryz.f10];refine hgR ?_
  repeat' ((first | refine hfk ?_ ?_<;>intros | refine hik ?_ | with_reducible first | refine wml (c1) ?_ | refine ysj (c1) ?_)<;>refine hgS ?_)
  exact afEq rfl
 | true=>cases hc1:x.wqm with
  | true=>
   rw [hr1] at c1;rw [hc1] at c2;rw [show affF x ss ms=(Th.zero,2) by unfold affF;rw [hr1,hc1];rfl];refine CallsD.run [] Go.Proofs.Tryz.func10 rfl rfl rfl ?_;simp only [Go.Proofs.Tryz.f10];refine hgR ?_
   repeat' ((first | refine hfk ?_ ?_<;>intros | refine hik ?_ | with_reducible first | refine wml (c1) ?_ | refine ysj (c1) ?_ | refine wml (c2) ?_ | refine ysj (c2) ?_)<;>refine hgS ?_)
   exact afEq rfl
  | false=>
   rw [hr1] at c1;rw [hc1] at c2
   have hsh:x.shaped=true:=by unfold zqs at hr1;rw [Bool.and_eq_true] at hr1;exact hr1.2
   cases hrd:entA ss ms with
   | none=>
    rw [hrd] at hr;rw [show affF x ss ms=(Th.zero,1) by unfold affF;rw [hr1,hc1,hrd];rfl]
    have hr2:∀ a b:SB,xpp Γ prog 40 [a,b] [.one (.dat (.sl 6 (ss.map Sl.C))),.one (.dat (.sl 3 (ms.map Tb.C)))] [a,b] (.tup [.one .any,.one (.dat (cB false))]):=fun a b=>xpp.at [] (J:=[a,b]) hr (by decide) rfl rfl rfl
    refine CallsD.run [] Go.Proofs.Tryz.func10 rfl rfl rfl ?_;simp only [Go.Proofs.Tryz.f10];refine hgR ?_
    repeat' ((first | refine hfk ?_ ?_<;>intros | refine hik ?_ | with_reducible first | refine wml (c1) ?_ | refine ysj (c1) ?_ | refine wml (c2) ?_ | refine ysj (c2) ?_)<;>refine hgS ?_)
    refine zqa (hr2 _ _) rfl ?_;refine hg ?_
    repeat' ((first | refine hfk ?_ ?_<;>intros | refine hik ?_)<;>refine hgS ?_)
    exact afEq rfl
   | some p=>
    obtain ⟨V,T⟩:=p;rw [hrd] at hr
    have hr2:∀ a b:SB,xpp Γ prog 40 [a,b] [.one (.dat (.sl 6 (ss.map Sl.C))),.one (.dat (.sl 3 (ms.map Tb.C)))] [a,b,.box [.dat (cI (nOf ss)),.mp 3,.mp 4] (some 127),mA V,mB T] (.tup [.one (.ptr 2 0),.one (.dat (cB true))]):=fun a b=>by
     have h:=xpp.at [] (J:=[a,b]) hr (by decide) rfl rfl rfl
     have e:putR [] [a,b] (rdO (nOf ss) (some (V,T)))=[a,b,.box [.dat (cI (nOf ss)),.mp 3,.mp 4] (some 127),mA V,mB T]:=by
      show [a,b,.box [.dat (cI (nOf ss)),.mp 3,.mp 4] (some 127),rnSB _ (mA V),rnSB _ (mB T)]=_;rw [vir,zgw]
     rw [e] at h;exact h
    have hnd:=zvr hr1;have hB3:B*x.nd<=33554432:=Nat.le_trans (Nat.mul_le_mul_left _ hnd) hB2;have hV:=zd4 hrd hsm;have hc:=wto (Γ:=Γ) hB V T hV (yxy hrd hms) hn x hx hsh hc1 hB3
    have hc2:∀ a b:SB,xpp Γ prog 41 [a,b,.box [.dat (cI (nOf ss)),.mp 3,.mp 4] (some 127),mA V,mB T] [.one (.ptr 2 0),.agg ((exC x).map .dat)] [a,b,.box [.dat (cI (nOf ss)),.mp 3,.mp 4] (some 127),mA V,mB T] (thS (x.aff (nOf ss) V T)):=fun a b=>
     xpp.roN [2,3,4] (J:=[a,b,.box [.dat (cI (nOf ss)),.mp 3,.mp 4] (some 127),mA V,mB T]) hc (by decide) rfl (by
      show [some _,some (mA V),some (mB T)]=[some _,some (rnSB _ (mA V)),some (rnSB _ (mB T))]
      rw [vir,zgw];rfl)
    have e:affF x ss ms=bif decide (¬(x.aff (nOf ss) V T).2=0) then (Th.zero,(x.aff (nOf ss) V T).2) else bif (x.aff (nOf ss) V T).1.t then (Th.zero,13) else ((x.aff (nOf ss) V T).1,0):=by unfold affF;rw [hr1,hc1,hrd];rfl
    rw [e];clear hc hr hV e;generalize x.aff (nOf ss) V T=r at hc2 ⊢;obtain ⟨⟨t,i,v,l⟩,e⟩:=r;refine CallsD.run [] Go.Proofs.Tryz.func10 rfl rfl rfl ?_;simp only [Go.Proofs.Tryz.f10];refine hgR ?_
    repeat' ((first | refine hfk ?_ ?_<;>intros | refine hik ?_ | with_reducible first | refine wml (c1) ?_ | refine ysj (c1) ?_ | refine wml (c2) ?_ | refine ysj (c2) ?_)<;>refine hgS ?_)
    refine zqa (hr2 _ _) rfl ?_;refine hg ?_
    repeat' ((first | refine hfk ?_ ?_<;>intros | refine hik ?_)<;>refine hgS ?_)
    refine x6x (hc2 _ _) ?_;refine hg ?_
    repeat' ((first | refine hfk ?_ ?_<;>intros | refine hik ?_)<;>refine hgS ?_)
    all_goals first
     | exact afEq (by simp [*])
     | exact RLe.ofEq (by simp [*])
end Go.Hp.T
namespace Go.Hp.T
open Go Go.RowKit Go.Slot Go.Hp Go.Slot.T
open Go.Proofs.Tryz (prog)
set_option maxRecDepth 10000
set_option maxHeartbeats 4000000
variable {Γ:List (Nat×List Cell)}
variable {place:Nat->Option (Nat×Nat)} {r:List (Nat×SV)} {a b:Nat}
def vci (place:Nat->Option (Nat×Nat)) (cs:List HC) (ps:List (Nat×SV)):Option (List HC):=y31 place cs ps
def xjd (place:Nat->Option (Nat×Nat)) (cs:List HC) (r:List (Nat×SV)) (a:Option (Nat×Nat)) (b:Option (List HC)):Option (List HC):=match a,b with
 | some (off,size),some us=>if us.length=size/\off+size<=cs.length then y31 place (cs.take off++us++cs.drop (off+size)) r else none
 | _,_=>none
def yrd (place:Nat->Option (Nat×Nat)) (cs:List HC) (r:List (Nat×SV)) (b:Bool):Option (List HC):=bif b then y31 place cs r else none
theorem zlg {cs:List HC} {ps:List (Nat×SV)}:y31 place cs ps=vci place cs ps:=rfl
theorem z0c {cs:List HC}:vci place cs []=some cs:=rfl
theorem yq3 {cs:List HC} {i:Nat} {x:SV}:vci place cs ((i,x)::r)=xjd place cs r (place i) (vg7 x):=by
 unfold vci;rw [y31];rfl
theorem yf7:Nat.beq a b=decide (a=b):=by rw [Bool.eq_iff_iff,decide_eq_true_iff,Nat.beq_eq]
theorem x88:Nat.ble a b=decide (a<=b):=by rw [Bool.eq_iff_iff,decide_eq_true_iff,Nat.ble_eq]
theorem xe4 (h:a<=b):Nat.ble a b=true:=Nat.ble_eq_true_of_le h
theorem v1a {cs us:List HC} {off size:Nat}:xjd place cs r (some (off,size)) (some us)=yrd place (cs.take off++(us++cs.drop (off+size))) r (Nat.beq us.length size&&Nat.ble (off+size) cs.length):=by
 rw [<-List.append_assoc];show (if us.length=size/\off+size<=cs.length then y31 place (cs.take off++us++cs.drop (off+size)) r else none)=_;rw [yf7,x88];by_cases h1:us.length=size
 . by_cases h2:off+size<=cs.length
   . rw [if_pos ⟨h1,h2⟩,decide_eq_true h1,decide_eq_true h2];rfl
   . rw [if_neg (fun h=>h2 h.2),decide_eq_false h2,Bool.and_false];rfl
 . rw [if_neg (fun h=>h1 h.1),decide_eq_false h1];rfl
theorem wte {cs:List HC}:yrd place cs r true=vci place cs r:=rfl
attribute [go_sem ↓ 30000] zlg
attribute [go_sem] z0c yq3 v1a wte yf7 xe4
theorem n12:((12:Nat):Int)=12:=rfl
attribute [go_sem] n12
end Go.Hp.T
namespace Go.Hp.T
open Go Go.RowKit Go.Slot Go.Hp Go.Slot.T
open Go.Proofs.Tryz (prog)
set_option maxRecDepth 10000
set_option maxHeartbeats 8000000
variable {Γ:List (Nat×List Cell)}
theorem ya7 {α:Type} {l:List α} {i:Nat} (d:α) (h:i<l.length):l.take (i+1)=l.take i++[l.getD i d]:=by
 rw [List.take_add_one];simp [h]
theorem yge (f:Fc) (n:Int) (_h1:f.L.length<=1099511627776) (_h2:f.M.length<=1099511627776) :
 CallsD Γ prog 47 [.agg f.C,.one (.raw (.int .i64 n))] (.one (.raw (.bool (decide ((f.sz:Int)<=n))))):=by
 have e:((f.sz:Nat):Int)=max (f.L.length:Int) f.M.length:=by unfold Fc.sz;omega
 refine CallsD.run [] Go.Proofs.Tryz.func47 rfl rfl rfl ?_;simp only [Go.Proofs.Tryz.f47];refine hgR ?_;refine ywj (fun h _=>?_) (fun h _=>?_)
 . have h':=decide_eq_true h;refine hg1 @h' ?_;exact (by rw [show decide ((f.sz:Int)<=n)=decide ((f.M.length:Int)<=n) from decide_eq_decide.2 (by omega)];exact .one (.refl _))
 . have h':=decide_eq_false h;refine hg1 @h' ?_;exact (by rw [decide_eq_false (by omega)];exact .one (.refl _))
theorem xlr (f:Fc) (h1:f.L.length<=1099511627776) (h2:f.M.length<=1099511627776) :
 CallsD Γ prog 47 [.agg f.C,.one (.raw (.int .i64 4))] (.one (.raw (.bool (decide (f.sz<=4))))):=by
 have:=yge (Γ:=Γ) f 4 h1 h2
 rwa [decide_eq_decide.2 (show (f.sz:Int)<=4↔f.sz<=4 by omega)] at this
theorem wbl (s:Int) (L:List Int) (s':Int) (M:List Int) (lL:L.length<=1073741824) (_lM:M.length<=1073741824) :
 CallsD Γ prog 89 [.agg [.raw (.int .i64 s),.ints .i64 L],.agg [.raw (.int .i64 s'),.ints .i64 M]] (.one (.raw (.bool (decide (s=s'/\L=M))))):=by
 obtain ⟨r,hr⟩:∃ r,r=decide (s=s'/\L=M):=⟨_,rfl⟩;rw [<-hr]
 have bad:¬(s=s'/\L=M)->false=r:=fun h=>by rw [hr,decide_eq_false h]
 by_cases h1:s=s'
 . subst h1;by_cases h2:(L.length:Int)=M.length
   . have hl:L.length=M.length:=by omega
     have h2':¬((L.length:Int)≠M.length):=fun h=>h h2
     refine CallsD.run [] Go.Proofs.Tryz.func89 rfl rfl rfl ?_;simp only [Go.Proofs.Tryz.f89];refine hgR ?_;refine vt2 (fun h _=>absurd h h2') (fun _ _=>?_);refine hg ?_;refine x20 [2,3] (fun i:Nat=>[(5,.one (.dat (cI (i))))]) (fun _=>[.box [.dat (cI s),.dat (.ints .i64 L)] (some 31),.box [.dat (cI s),.dat (.ints .i64 M)] (some 31)]) (fun i=>i<=L.length/\L.take i=M.take i) (fun i=>L.length-i) 0 ⟨Nat.zero_le _,rfl⟩ ?_ ?_
     . refine hg ?_;exact StH.same svl rfl
     rintro i ⟨hi,he⟩;refine hg ?_;refine vt2 (fun h1 _=>?_) (fun h1 _=>?_)
     . have hgg:∀(l:List Int),i<l.length->l.take (i+1)=l.take i++[l.getD i 0]:=fun l h=>ya7 0 h
       refine hg ?_;refine hik ?_;refine hg ?_;refine vt2 (fun h2 _=>?_) (fun h2 _=>?_)
       . refine hg ?_;exact (by rw [bad (fun e=>h2 (by rw [e.2]))];exact .one (.refl _))
       . have h2:L.getD i 0=M.getD i 0:=by omega
         refine hg ?_;refine ⟨i+1,⟨by omega,?_⟩,by omega,StH.same svl rfl⟩;rw [hgg L (by omega),hgg M (by omega),he,h2]
     . have hi:i=L.length:=by omega
       subst hi;rw [List.take_length,hl,List.take_length] at he
       have e:true=r:=by rw [hr,decide_eq_true ⟨rfl,he⟩]
       refine hg ?_;exact (by rw [e];exact .one (.refl _))
   . have h2:(L.length:Int)≠M.length:=h2;refine CallsD.run [] Go.Proofs.Tryz.func89 rfl rfl rfl ?_;simp only [Go.Proofs.Tryz.f89];refine hgR ?_;refine vt2 (fun _ _=>?_) (fun h _=>absurd h2 h);refine hg ?_;exact (by rw [bad (fun e=>h2 (by rw [e.2]))];exact .one (.refl _))
 . have h1':=decide_eq_true (show s≠s' from h1);refine CallsD.run [] Go.Proofs.Tryz.func89 rfl rfl rfl ?_;simp only [Go.Proofs.Tryz.f89];refine hgR ?_;refine wj9 (fun h _=>absurd h1 h) (fun h _=>?_);refine hg1 @h1' ?_;exact (by rw [bad (fun e=>h1 e.1)];exact .one (.refl _))
theorem xz0 (a b:Fc) (ha:a.sz<=67108864) (hb:b.sz<=67108864):CallsD Γ prog 46 [.agg a.C,.agg b.C] (.one (.raw (.bool (decide (a=b))))):=by
 have la:=szL ha;have lb:=szL hb;obtain ⟨r,hr⟩:∃ r,r=decide (a=b):=⟨_,rfl⟩;rw [<-hr];by_cases h:a.s=b.s/\a.L=b.L
 . have h1:=wbl (Γ:=Γ) a.s a.L b.s b.L (by omega) (by omega);rw [decide_eq_true h] at h1;have h2:=wbl (Γ:=Γ) a.t a.M b.t b.M (by omega) (by omega)
   have e:decide (a.t=b.t/\a.M=b.M)=r:=by
    rw [hr];apply decide_eq_decide.2;constructor
    . intro h';cases a;cases b;simp at h h';simp [h,h']
    . intro h';rw [h'];exact ⟨rfl,rfl⟩
   rw [e] at h2;refine CallsD.run [] Go.Proofs.Tryz.func46 rfl rfl rfl ?_;simp only [Go.Proofs.Tryz.f46];refine hgR ?_
   first | refine wml h1 ?_ | refine ysj h1 ?_
   refine hg ?_
   first | refine wml h2 ?_ | refine ysj h2 ?_
   refine hg ?_;exact (.one (.refl _))
 . have h1:=wbl (Γ:=Γ) a.s a.L b.s b.L (by omega) (by omega);rw [decide_eq_false h] at h1
   have e:r=false:=by rw [hr,decide_eq_false (fun e=>h (by rw [e];exact ⟨rfl,rfl⟩))]
   subst e;refine CallsD.run [] Go.Proofs.Tryz.func46 rfl rfl rfl ?_;simp only [Go.Proofs.Tryz.f46];refine hgR ?_
   first | refine wml h1 ?_ | refine ysj h1 ?_
   refine hg ?_;exact (.one (.refl _))
def fewA (a:Af):Prop:=a.l.length<=6/\a.le 4
instance (a:Af):Decidable (fewA a):=inferInstanceAs (Decidable (a.l.length<=6/\(a.c.sz<=4/\∀ f∈a.l,f.sz<=4)))
theorem w5v (a:Af) (hl:a.l.length<=1048576) (hs:a.le 1048576):CallsD Γ prog 16 [.agg a.C] (.one (cB (decide (fewA a)))):=by
 have few:∀ f:Fc,f.sz<=1048576->CallsD Γ prog 47 [.agg f.C,.one (.raw (.int .i64 4))] (.one (.raw (.bool (decide (f.sz<=4))))):=fun f h=>by
  have h2:=szL h;exact xlr f (by omega) (by omega)
 simp only [Fc.C_eq] at few;have hc:=few a.c hs.1;generalize hR:decide (fewA a)=R;refine CallsD.run [] Go.Proofs.Tryz.func16 rfl rfl rfl ?_;simp only [Go.Proofs.Tryz.f16];refine hgR ?_;refine x20 [1] (fun i:Nat=>[(3,.one (.dat (cI i)))]) (fun _=>[.box (a.C.map .dat) (some 36)]) (fun i=>i<=a.l.length/\i<=7/\∀ j,j<i->(a.l.getD j Fc.zero).sz<=4) (fun i=>a.l.length-i) 0 ⟨Nat.zero_le _,Nat.zero_le _,fun j hj=>by omega⟩ ?_ ?_
 . refine hg ?_;exact StH.same svl rfl
 rintro i ⟨h1,h2,h3⟩;refine hg ?_;by_cases hlt:i<a.l.length
 . have hf:=few (a.l.getD i Fc.zero) (zmm hs.2 hlt)
   have bad:¬(a.l.getD i Fc.zero).sz<=4->R=false:=fun h=>by
    rw [<-hR];exact decide_eq_false (fun hh=>h (zmm hh.2.2 hlt))
   have big:¬a.l.length<=6->R=false:=fun h=>by
    rw [<-hR];exact decide_eq_false (fun hh=>h hh.1)
   repeat' ((first | refine hfk ?_ ?_<;>intros | refine hik ?_ | with_reducible first | refine wml (hf) ?_ | refine ysj (hf) ?_ | refine wml (hc) ?_ | refine ysj (hc) ?_)<;>refine hgS ?_)
   all_goals first
    | exact .one (.refl _)
    | (exfalso;omega)
    | (rw [bad (by assumption)];exact .one (.refl _))
    | (rw [big (by omega)];exact .one (.refl _))
    | exact ⟨i+1,⟨by omega,by omega,xm4 (p:=fun j=>(a.l.getD j Fc.zero).sz<=4) h3 (by first | assumption | exact of_decide_eq_true (by assumption) | exact Decidable.of_not_not (by assumption))⟩,by omega,StH.same svl rfl⟩
 . have hi:i=a.l.length:=by omega
   have e:a.l.length<=6->R=decide (a.c.sz<=4):=fun h=>by
    rw [<-hR]
    exact decide_eq_decide.2 ⟨fun hh=>hh.2.1,fun hh=>⟨h,hh,fun f hf=>by
     obtain ⟨j,hj,rfl⟩:=List.getElem_of_mem hf
     have:=h3 j (by omega)
     rwa [show a.l.getD j Fc.zero=a.l[j] from by simp [hj]] at this⟩⟩
   have big:¬a.l.length<=6->R=false:=fun h=>by
    rw [<-hR];exact decide_eq_false (fun hh=>h hh.1)
   repeat' ((first | refine hfk ?_ ?_<;>intros | refine hik ?_ | with_reducible first | refine wml (hc) ?_ | refine ysj (hc) ?_)<;>refine hgS ?_)
   all_goals first
    | exact .one (.refl _)
    | (exfalso;omega)
    | (rw [big (by omega)];exact .one (.refl _))
    | (rw [e (by omega)];exact .one (.refl _))
theorem CallsD.ws4 {Γ:List (Nat×List Cell)} {P:Program} {f:FuncId} {args args':List AV} {res:AV} (h:CallsD Γ P f args' res) (hle:LeS args args'):CallsD Γ P f args res:=⟨h.1,fun M w vs hM hg hr=>h.2 M w vs hM hg (RdBL.le hle hr)⟩
instance:DecidableEq Af:=fun a b=>decidable_of_iff (a.c=b.c/\a.l=b.l) ⟨fun h=>by cases a;cases b;simp at h;simp [h],fun h=>by rw [h];exact ⟨rfl,rfl⟩⟩
theorem z4n (a b:Af) (la:a.l.length<=1048576) (lb:b.l.length<=1048576) (ha:a.le 67108864) (hb:b.le 67108864):CallsD Γ prog 15 [.agg a.C,.agg b.C] (.one (cB (decide (a=b)))):=by
 have hc:=xz0 (Γ:=Γ) a.c b.c ha.1 hb.1
 have hx:∀ i,i<a.l.length->i<b.l.length->CallsD Γ prog 46 [.agg (a.l.getD i Fc.zero).C,.agg (b.l.getD i Fc.zero).C] (.one (.raw (.bool (decide (a.l.getD i Fc.zero=b.l.getD i Fc.zero))))):=fun i h k=>xz0 _ _ (zmm ha.2 h) (zmm hb.2 k)
 generalize hR:decide (a=b)=R
 have bad1:¬a.l.length=b.l.length->R=false:=fun h=>by rw [<-hR];exact decide_eq_false (fun hh=>h (by rw [hh]))
 have bad2:decide (a.c=b.c)=false->R=false:=fun h=>by rw [<-hR];exact decide_eq_false (fun hh=>of_decide_eq_false h (by rw [hh]))
 have bad3:∀ i,i<a.l.length->decide (a.l.getD i Fc.zero=b.l.getD i Fc.zero)=false->R=false:=fun i _ h=>by rw [<-hR];exact decide_eq_false (fun hh=>of_decide_eq_false h (by rw [hh]))
 have good:a.l.length=b.l.length->decide (a.c=b.c)=true->(∀ j,j<a.l.length->decide (a.l.getD j Fc.zero=b.l.getD j Fc.zero)=true)->R=true:=fun h1 h2 h3=>by
  rw [<-hR];refine decide_eq_true ?_
  have e:a.l=b.l:=List.ext_getElem h1 (fun j hj hk=>by
   have:=of_decide_eq_true (h3 j hj)
   simpa [List.getD_eq_getElem?_getD,hj,hk] using this)
  have e2:=of_decide_eq_true h2
  cases a;cases b;simp only at e e2;rw [e,e2]
 clear hR;simp only [Fc.C_eq] at hc hx;generalize decide (a.c=b.c)=q at hc bad2 good;refine CallsD.run [] Go.Proofs.Tryz.func15 rfl rfl rfl ?_;simp only [Go.Proofs.Tryz.f15];refine hgR ?_
 repeat' ((first | refine hfk ?_ ?_<;>intros | refine hik ?_ | with_reducible first | refine wml (hc) ?_ | refine ysj (hc) ?_)<;>refine hgS ?_)
 all_goals try (first
  | exact .one (.refl _)
  | (rw [bad1 (by omega)];exact .one (.refl _))
  | (rw [bad2 (by assumption)];exact .one (.refl _)))
 refine x20 [2,3] (fun i:Nat=>[(5,.one (.dat (cI i)))]) (fun _=>[.box (a.C.map .dat) (some 36),.box (b.C.map .dat) (some 36)]) (fun i=>i<=a.l.length/\∀ j,j<i->decide (a.l.getD j Fc.zero=b.l.getD j Fc.zero)=true) (fun i=>a.l.length-i) 0 ⟨Nat.zero_le _,fun j hj=>by omega⟩ ?_ ?_
 . refine hg ?_;exact StH.same svl rfl
 rintro i ⟨h1,h2⟩;refine hg ?_;refine vt2 (fun hlt _=>?_) (fun hlt _=>?_)
 . have h:=hx i (by omega) (by omega);have bad:=bad3 i (by omega)
   have next:=fun h=>xm4 (p:=fun j=>decide (a.l.getD j Fc.zero=b.l.getD j Fc.zero)=true) h2 h
   generalize decide (a.l.getD i Fc.zero=b.l.getD i Fc.zero)=r at h bad next;clear bad1 bad2 bad3 good hx h2;refine hg ?_
   repeat' ((first | refine hfk ?_ ?_<;>intros | refine hik ?_ | with_reducible first | refine wml (h) ?_ | refine ysj (h) ?_)<;>refine hgS ?_)
   all_goals first
    | exact .one (.refl _)
    | (rw [bad (by assumption)];exact .one (.refl _))
    | exact ⟨i+1,⟨by omega,next (by assumption)⟩,by omega,StH.same svl rfl⟩
 . have e:i=a.l.length:=by omega
   subst e;rw [good (by omega) (by assumption) h2];refine hg ?_;exact .one (.refl _)
end Go.Hp.T
namespace Go.Hp
open Go Go.RowKit Go.Slot
variable {P:Program} {Γ:List (Nat×List Cell)}
mutual
def uz (k:Nat):Cell->Cell
 | .zc=>.sl k []
 | .sl n rows=>.sl n (uzLL k rows)
 | c=>c
def uzL (k:Nat):List Cell->List Cell
 | []=>[]
 | c::l=>uz k c::uzL k l
def uzLL (k:Nat):List (List Cell)->List (List Cell)
 | []=>[]
 | r::l=>uzL k r::uzLL k l
end
theorem ysz (k:Nat):∀ l:List Cell,uzL k l=l.map (uz k)
 | []=>by rw [uzL];rfl
 | _::l=>by rw [uzL,ysz k l];rfl
theorem wqn (k:Nat):∀ l:List (List Cell),uzLL k l=l.map (uzL k)
 | []=>by rw [uzLL];rfl
 | _::l=>by rw [uzLL,wqn k l];rfl
theorem yxe (k:Nat) (l:List Cell):(uzL k l).length=l.length:=by rw [ysz,List.length_map]
theorem vh5 (k:Nat) (l:List (List Cell)):(uzLL k l).length=l.length:=by rw [wqn,List.length_map]
theorem xk6 (k:Nat) (l:List (List Cell)) (i:Nat) (h:i<(uzLL k l).length):(uzLL k l)[i]=uzL k (l[i]'(by rw [<-vh5 k];exact h)):=by
 simp only [wqn,List.getElem_map]
theorem zhb (k:Nat) (l:List Cell) (i:Nat) (h:i<(uzL k l).length):(uzL k l)[i]=uz k (l[i]'(by rw [<-yxe k];exact h)):=by
 simp only [ysz,List.getElem_map]
theorem RdC.uz {M:Nat->Nat->Prop} {w:World} {v:Value} {c:Cell} (k:Nat) (h:RdC M w v c):RdC M w v (uz k c):=by
 induction h with
 | raw h=>simp only [Go.Hp.uz];exact .raw h
 | zc=>rw [Go.Hp.uz];exact RdC.zcSl k
 | nn=>simp only [Go.Hp.uz];exact .nn
 | fnp h hp=>simp only [Go.Hp.uz];exact .fnp h hp
 | ints b off hl hc ha h=>simp only [Go.Hp.uz];exact .ints b off hl hc ha h
 | @sl a len cap n rows b off u hl hc ha hn hm hr ih =>
  rw [Go.Hp.uz];refine .sl b off u (by rw [vh5];exact hl) hc (fun hne=>ha (fun he=>hne (by rw [he];simp only [wqn,List.map_nil]))) (fun r hr'=>?_) (fun i hi j hj=>hm i (by rw [<-vh5 k];exact hi) j hj) (fun i hi j hj=>?_)
  . rw [wqn] at hr';obtain ⟨r0,h0,rfl⟩:=List.mem_map.1 hr';rw [yxe];exact hn _ h0
  . have hi2:i<rows.length:=by rw [<-vh5 k];exact hi
    have e1:((uzLL k rows)[i])=uzL k rows[i]:=xk6 k rows i hi
    have hj2:j<rows[i].length:=by rw [<-yxe k,<-e1];exact hj
    have e2:((uzLL k rows)[i])[j]=Go.Hp.uz k (rows[i][j]):=by
     have:=zhb k rows[i] j (by rw [yxe];exact hj2)
     rw [<-this];congr 1
    rw [e2];exact ih i hi2 j hj2
theorem RdD.uz {M:Nat->Nat->Prop} {w:World} (k:Nat):∀{vs:List Value} {cs:List Cell},RdD M w vs cs->RdD M w vs (uzL k cs)
 | [],[],h=>by rw [uzL];exact h
 | _::_,[],h=>h.elim
 | [],_::_,h=>h.elim
 | _::_,_::_,h=>by rw [uzL];exact ⟨RdC.uz k h.1,RdD.uz k h.2⟩
theorem CallsD.uz {f:FuncId} {args:List AV} {cs:List Cell} {l:List AV} (k:Nat) (h:CallsD Γ P f args (.tup (.agg cs::l))):CallsD Γ P f args (.tup (.agg (uzL k cs)::l)):=
 ⟨h.1,fun M w vs hM hg hr=>(h.2 M w vs hM hg hr).mono (fun _ _ ⟨v,h1,h2,h3,h4⟩=>by
  obtain ⟨us,hu,hl⟩:=h3
  match us,hl with
  | u::us,hl=>
   obtain ⟨ws,hw,hrd⟩:=hl.1
   exact ⟨v,h1,h2,⟨u::us,hu,⟨ws,hw,RdD.uz k hrd⟩,hl.2⟩,fun hh=>by cases hh⟩)⟩
end Go.Hp
namespace Go.Hp.T
open Go Go.RowKit Go.Slot Go.Hp
open Go.Proofs.Tryz (prog)
def Gs:List (Nat×List Cell):=[(0,[.raw (.int .u8 40),.raw (.int .u8 41),.raw (.int .u8 44),.raw (.int .u8 59),.raw (.int .u8 58),.raw (.int .u8 61),.raw (.int .u8 60),.raw (.int .u8 43),.raw (.int .u8 45),.raw (.int .u8 42),.raw (.int .u8 47),.raw (.int .u8 123),.raw (.int .u8 125)])]
def exOf (o n:Int) (u s:List UInt8) (l:List Ex):Ex:=.mk o n ⟨⟨u⟩⟩ ⟨⟨s⟩⟩ l
abbrev zS:Cell:=cS ⟨⟨[]⟩⟩
abbrev parR (x:Ex):AV:=.tup [.agg (exC x),.one (cI 0),.one (cI 0)]
theorem CallsD.uzE {f:FuncId} {args:List AV} {cs cs':List Cell} {l:List AV} (k:Nat) (h:CallsD Gs prog f args (.tup (.agg cs::l))) (e:uzL k cs=cs'):CallsD Gs prog f args (.tup (.agg cs'::l)):=e▸h.uz k
def sx0:List UInt8:=[40,50,32,42,32,97,41,32,43,32,40,98,32,47,32,99,41]
def ex0:Ex:=exOf 6 0 [] [] [(exOf 8 0 [] [] [(exOf 0 2 [] [] []),(exOf 1 0 [] [97] [])]),(exOf 9 0 [] [] [(exOf 1 0 [] [98] []),(exOf 1 0 [] [99] [])])]
def sx1:List UInt8:=[40,97,32,45,32,51,41,32,42,32,108,111,111,107,40,103,114,105,100,44,32,99,32,43,32,50,41]
def ex1:Ex:=exOf 8 0 [] [] [(exOf 7 0 [] [] [(exOf 1 0 [] [97] []),(exOf 0 3 [] [] [])]),(exOf 2 0 [] [103,114,105,100] [(exOf 6 0 [] [] [(exOf 1 0 [] [99] []),(exOf 0 2 [] [] [])])])]
def sx2:List UInt8:=[105,102,32,40,99,32,60,32,53,41,32,116,104,101,110,32,97,32,101,108,115,101,32,40,97,32,42,32,98,41]
def ex2:Ex:=exOf 5 0 [] [] [(exOf 12 0 [] [] [(exOf 1 0 [] [99] []),(exOf 0 5 [] [] [])]),(exOf 1 0 [] [97] []),(exOf 8 0 [] [] [(exOf 1 0 [] [97] []),(exOf 1 0 [] [98] [])])]
def sx3:List UInt8:=[97,32,47,32,40,99,32,45,32,52,41]
def ex3:Ex:=exOf 9 0 [] [] [(exOf 1 0 [] [97] []),(exOf 7 0 [] [] [(exOf 1 0 [] [99] []),(exOf 0 4 [] [] [])])]
def sx4:List UInt8:=[108,111,111,107,40,103,114,105,100,44,32,48,32,45,32,99,41]
def ex4:Ex:=exOf 2 0 [] [103,114,105,100] [(exOf 7 0 [] [] [(exOf 0 0 [] [] []),(exOf 1 0 [] [99] [])])]
def sx5:List UInt8:=[97,32,42,32,98]
def ex5:Ex:=exOf 8 0 [] [] [(exOf 1 0 [] [97] []),(exOf 1 0 [] [98] [])]
def sx6:List UInt8:=[49,32,47,32,97]
def ex6:Ex:=exOf 9 0 [] [] [(exOf 0 1 [] [] []),(exOf 1 0 [] [97] [])]
def sx7:List UInt8:=[109,105,110,40,97,44,32,49,41]
def ex7:Ex:=exOf 10 0 [] [] [(exOf 1 0 [] [97] []),(exOf 0 1 [] [] [])]
def sx8:List UInt8:=[97,32,60,32,49]
def ex8:Ex:=exOf 12 0 [] [] [(exOf 1 0 [] [97] []),(exOf 0 1 [] [] [])]
def sx9:List UInt8:=[108,111,111,107,40,103,114,105,100,44,32,97,41]
def ex9:Ex:=exOf 2 0 [] [103,114,105,100] [(exOf 1 0 [] [97] [])]
def sx10:List UInt8:=[99,32,60,32,53]
def ex10:Ex:=exOf 12 0 [] [] [(exOf 1 0 [] [99] []),(exOf 0 5 [] [] [])]
end Go.Hp.T
namespace Go.Hp.T
open Go Go.RowKit Go.Slot Go.Hp
open Go.Proofs.Tryz (prog)
set_option maxRecDepth 100000
theorem par0:CallsD Gs prog 71 [xv3 sx0] (parR ex0):=
 CallsD.uzE 5 (cs:=[cI 6,cI 0,zS,zS,(.sl 5 [[cI 8,cI 0,zS,zS,(.sl 5 [[cI 0,cI 2,zS,zS,.zc],[cI 1,cI 0,zS,cS ⟨⟨[97]⟩⟩,.zc]])],[cI 9,cI 0,zS,zS,(.sl 5 [[cI 1,cI 0,zS,cS ⟨⟨[98]⟩⟩,.zc],[cI 1,cI 0,zS,cS ⟨⟨[99]⟩⟩,.zc]])]])]) (CallsD.fv (N:=1000) (n:=60) OkD.none (by kernel_rfl)) (by kernel_rfl)
theorem par1:CallsD Gs prog 71 [xv3 sx1] (parR ex1):=
 CallsD.uzE 5 (cs:=[cI 8,cI 0,zS,zS,(.sl 5 [[cI 7,cI 0,zS,zS,(.sl 5 [[cI 1,cI 0,zS,cS ⟨⟨[97]⟩⟩,.zc],[cI 0,cI 3,zS,zS,.zc]])],[cI 2,cI 0,zS,cS ⟨⟨[103,114,105,100]⟩⟩,(.sl 5 [[cI 6,cI 0,zS,zS,(.sl 5 [[cI 1,cI 0,zS,cS ⟨⟨[99]⟩⟩,.zc],[cI 0,cI 2,zS,zS,.zc]])]])]])]) (CallsD.fv (N:=1000) (n:=60) OkD.none (by kernel_rfl)) (by kernel_rfl)
theorem par2:CallsD Gs prog 71 [xv3 sx2] (parR ex2):=
 CallsD.uzE 5 (cs:=[cI 5,cI 0,zS,zS,(.sl 5 [[cI 12,cI 0,zS,zS,(.sl 5 [[cI 1,cI 0,zS,cS ⟨⟨[99]⟩⟩,.zc],[cI 0,cI 5,zS,zS,.zc]])],[cI 1,cI 0,zS,cS ⟨⟨[97]⟩⟩,.zc],[cI 8,cI 0,zS,zS,(.sl 5 [[cI 1,cI 0,zS,cS ⟨⟨[97]⟩⟩,.zc],[cI 1,cI 0,zS,cS ⟨⟨[98]⟩⟩,.zc]])]])]) (CallsD.fv (N:=1000) (n:=60) OkD.none (by kernel_rfl)) (by kernel_rfl)
theorem par3:CallsD Gs prog 71 [xv3 sx3] (parR ex3):=
 CallsD.uzE 5 (cs:=[cI 9,cI 0,zS,zS,(.sl 5 [[cI 1,cI 0,zS,cS ⟨⟨[97]⟩⟩,.zc],[cI 7,cI 0,zS,zS,(.sl 5 [[cI 1,cI 0,zS,cS ⟨⟨[99]⟩⟩,.zc],[cI 0,cI 4,zS,zS,.zc]])]])]) (CallsD.fv (N:=1000) (n:=60) OkD.none (by kernel_rfl)) (by kernel_rfl)
theorem par4:CallsD Gs prog 71 [xv3 sx4] (parR ex4):=
 CallsD.uzE 5 (cs:=[cI 2,cI 0,zS,cS ⟨⟨[103,114,105,100]⟩⟩,(.sl 5 [[cI 7,cI 0,zS,zS,(.sl 5 [[cI 0,cI 0,zS,zS,.zc],[cI 1,cI 0,zS,cS ⟨⟨[99]⟩⟩,.zc]])]])]) (CallsD.fv (N:=1000) (n:=60) OkD.none (by kernel_rfl)) (by kernel_rfl)
theorem par5:CallsD Gs prog 71 [xv3 sx5] (parR ex5):=
 CallsD.uzE 5 (cs:=[cI 8,cI 0,zS,zS,(.sl 5 [[cI 1,cI 0,zS,cS ⟨⟨[97]⟩⟩,.zc],[cI 1,cI 0,zS,cS ⟨⟨[98]⟩⟩,.zc]])]) (CallsD.fv (N:=1000) (n:=60) OkD.none (by kernel_rfl)) (by kernel_rfl)
theorem par6:CallsD Gs prog 71 [xv3 sx6] (parR ex6):=
 CallsD.uzE 5 (cs:=[cI 9,cI 0,zS,zS,(.sl 5 [[cI 0,cI 1,zS,zS,.zc],[cI 1,cI 0,zS,cS ⟨⟨[97]⟩⟩,.zc]])]) (CallsD.fv (N:=1000) (n:=60) OkD.none (by kernel_rfl)) (by kernel_rfl)
theorem par7:CallsD Gs prog 71 [xv3 sx7] (parR ex7):=
 CallsD.uzE 5 (cs:=[cI 10,cI 0,zS,zS,(.sl 5 [[cI 1,cI 0,zS,cS ⟨⟨[97]⟩⟩,.zc],[cI 0,cI 1,zS,zS,.zc]])]) (CallsD.fv (N:=1000) (n:=60) OkD.none (by kernel_rfl)) (by kernel_rfl)
theorem par8:CallsD Gs prog 71 [xv3 sx8] (parR ex8):=
 CallsD.uzE 5 (cs:=[cI 12,cI 0,zS,zS,(.sl 5 [[cI 1,cI 0,zS,cS ⟨⟨[97]⟩⟩,.zc],[cI 0,cI 1,zS,zS,.zc]])]) (CallsD.fv (N:=1000) (n:=60) OkD.none (by kernel_rfl)) (by kernel_rfl)
theorem par9:CallsD Gs prog 71 [xv3 sx9] (parR ex9):=
 CallsD.uzE 5 (cs:=[cI 2,cI 0,zS,cS ⟨⟨[103,114,105,100]⟩⟩,(.sl 5 [[cI 1,cI 0,zS,cS ⟨⟨[97]⟩⟩,.zc]])]) (CallsD.fv (N:=1000) (n:=60) OkD.none (by kernel_rfl)) (by kernel_rfl)
theorem ycv:CallsD Gs prog 71 [xv3 sx10] (parR ex10):=
 CallsD.uzE 5 (cs:=[cI 12,cI 0,zS,zS,(.sl 5 [[cI 1,cI 0,zS,cS ⟨⟨[99]⟩⟩,.zc],[cI 0,cI 5,zS,zS,.zc]])]) (CallsD.fv (N:=1000) (n:=60) OkD.none (by kernel_rfl)) (by kernel_rfl)
end Go.Hp.T
