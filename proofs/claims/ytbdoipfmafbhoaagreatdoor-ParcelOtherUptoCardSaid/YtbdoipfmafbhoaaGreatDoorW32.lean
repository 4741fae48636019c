/- The proof, part W32: 6e, 6f, Iv. -/
import Derived.Test.YtbdoipfmafbhoaaGreatDoorW31
import Derived.Test.YtbdoipfmafbhoaaGreatDoorW14
import Derived.Test.YtbdoipfmafbhoaaGreatDoorW17
namespace Go.Hp.T
open Go Go.RowKit Go.Slot Go.Hp Go.Slot.T
open Go.Proofs.Tryz (prog)
attribute [local irreducible] hide RH
set_option maxRecDepth 10000
set_option maxHeartbeats 8000000
variable {Γ:List (Nat×List Cell)}
def x99 (H:Mb) (c:Int) (s:ByteArray):Bool:=(ynd tgE H (2+c,s)).isNone
abbrev g1B (H:Mb):List SB:=[mK H,.box [.mp 0] (some 108)]
theorem wjr (H:Mb) (c:Int) (s:ByteArray) (hc:c=0\/c=1\/c=5):wod Γ prog 84 (g1B H) [.one (.dat (cI c)),.one (.dat (cS s)),.one (.ptr 1 0)] (g1B H) (.one (.dat (cB (x99 H c s)))):=by
 unfold x99
 obtain rfl | rfl | rfl:=hc
 . show wod _ _ _ _ _ _ (.one (.dat (cB (ynd tgE H (2,s)).isNone)))
   cases hl:ynd tgE H (2,s)
   all_goals
    refine wod.run [] Go.Proofs.Tryz.func84 rfl rfl ?_;simp only [Go.Proofs.Tryz.f84];refine hgR ?_
    repeat' ((first | refine hfk ?_ ?_<;>intros | refine hik ?_)<;>refine hgS ?_)
    refine hg1 @hl ?_
    repeat' ((first | refine hfk ?_ ?_<;>intros | refine hik ?_)<;>refine hgS ?_)
    exact StH.same svl rfl
 . show wod _ _ _ _ _ _ (.one (.dat (cB (ynd tgE H (3,s)).isNone)))
   cases hl:ynd tgE H (3,s)
   all_goals
    refine wod.run [] Go.Proofs.Tryz.func84 rfl rfl ?_;simp only [Go.Proofs.Tryz.f84];refine hgR ?_
    repeat' ((first | refine hfk ?_ ?_<;>intros | refine hik ?_)<;>refine hgS ?_)
    refine hg1 @hl ?_
    repeat' ((first | refine hfk ?_ ?_<;>intros | refine hik ?_)<;>refine hgS ?_)
    exact StH.same svl rfl
 . show wod _ _ _ _ _ _ (.one (.dat (cB (ynd tgE H (7,s)).isNone)))
   cases hl:ynd tgE H (7,s)
   all_goals
    refine wod.run [] Go.Proofs.Tryz.func84 rfl rfl ?_;simp only [Go.Proofs.Tryz.f84];refine hgR ?_
    repeat' ((first | refine hfk ?_ ?_<;>intros | refine hik ?_)<;>refine hgS ?_)
    refine hg1 @hl ?_
    repeat' ((first | refine hfk ?_ ?_<;>intros | refine hik ?_)<;>refine hgS ?_)
    exact StH.same svl rfl
abbrev g2B (H:Mb) (x:Rcp):List SB:=[mK H,.box [.mp 0] (some 108),.box ((rcpC x).map .dat) (some 43),.clo 84 [.one (.ptr 1 0)],.box [.fnr 3] (some 145)]
theorem wt2 (H:Mb) (x:Rcp):∀ r:Nat->Nat,(∀ i,i<(g2B H x).length->r i=i)->(g2B H x).map (rnSB r)=g2B H x:=fun r hr=>by
 show [rnSB r (mK H),SB.box [.mp (r 0)] _,_,SB.clo _ [SV.one (.ptr (r 1) 0)],SB.box [.fnr (r 3)] _]=_;rw [hr 0 (by show 0<5;decide),hr 1 (by show 1<5;decide),hr 3 (by show 3<5;decide),y5m];rfl
theorem xvf (H:Mb):∀ r:Nat->Nat,(∀ i,i<(g1B H).length->r i=i)->(g1B H).map (rnSB r)=g1B H:=fun r hr=>by
 show [rnSB r (mK H),SB.box [.mp (r 0)] _]=_;rw [hr 0 (by show 0<2;decide),y5m]
def gapI (H:Mb) (k:ByteArray) (y:Inp):Bool:=seq y.kind k&&x99 H 0 y.name
def gapM (H:Mb) (y:Imp):Bool:=x99 H 1 y.name
def gapP (H:Mb) (y:Por):Bool:=x99 H 5 y.name
theorem v4i (H:Mb) (x:Rcp) (y:Inp):wod Γ prog 86 (g2B H x) [.agg ((inpC y).map .dat),.one (.ptr 2 0),.one (.ptr 4 0)] (g2B H x) (.one (.dat (cB (gapI H x.kind y)))):=by
 unfold gapI;have h1:=wjr (Γ:=Γ) H 0 y.name (.inl rfl);generalize x99 H 0 y.name=q at *;refine wod.run [] Go.Proofs.Tryz.func86 rfl rfl ?_;simp only [Go.Proofs.Tryz.f86];refine hgR ?_
 repeat' ((first | refine hfk ?_ ?_<;>intros | refine hik ?_)<;>refine hgS ?_)
 . refine xbg (wod.preN h1 (xvf H) rfl rfl) ?_;refine hg ?_
   repeat' ((first | refine hfk ?_ ?_<;>intros | refine hik ?_)<;>refine hgS ?_)
   exact StH.ylx rfl (by kernel_rfl) (by simp [*])
 . exact StH.ylx rfl (by kernel_rfl) (by simp [*])
theorem vgo (H:Mb) (x:Rcp) (y:Imp):wod Γ prog 88 (g2B H x) [.agg ((impC y).map .dat),.one (.ptr 4 0)] (g2B H x) (.one (.dat (cB (gapM H y)))):=by
 unfold gapM;have h1:=wjr (Γ:=Γ) H 1 y.name (.inr (.inl rfl));generalize x99 H 1 y.name=q at *;refine wod.run [] Go.Proofs.Tryz.func88 rfl rfl ?_;simp only [Go.Proofs.Tryz.f88];refine hgR ?_
 repeat' ((first | refine hfk ?_ ?_<;>intros | refine hik ?_)<;>refine hgS ?_)
 refine xbg (wod.preN h1 (xvf H) rfl rfl) ?_;refine hg ?_
 repeat' ((first | refine hfk ?_ ?_<;>intros | refine hik ?_)<;>refine hgS ?_)
 exact StH.ylx rfl (by kernel_rfl) rfl
theorem wd1 (H:Mb) (x:Rcp) (y:Por):wod Γ prog 90 (g2B H x) [.agg ((porC y).map .dat),.one (.ptr 4 0)] (g2B H x) (.one (.dat (cB (gapP H y)))):=by
 unfold gapP;have h1:=wjr (Γ:=Γ) H 5 y.name (.inr (.inr rfl));generalize x99 H 5 y.name=q at *;refine wod.run [] Go.Proofs.Tryz.func90 rfl rfl ?_;simp only [Go.Proofs.Tryz.f90];refine hgR ?_
 repeat' ((first | refine hfk ?_ ?_<;>intros | refine hik ?_)<;>refine hgS ?_)
 refine xbg (wod.preN h1 (xvf H) rfl rfl) ?_;refine hg ?_
 repeat' ((first | refine hfk ?_ ?_<;>intros | refine hik ?_)<;>refine hgS ?_)
 exact StH.ylx rfl (by kernel_rfl) rfl
theorem xzp (l:List Inp) (H:Mb) (x:Rcp) (hl:l.length<=1073741824) :
 wod Γ prog 116 (g2B H x++[.clo 86 [.one (.ptr 2 0),.one (.ptr 4 0)]]) [.one (.dat (.sl 3 (l.map Inp.C))),.one (.fnr 5)] (g2B H x++[.clo 86 [.one (.ptr 2 0),.one (.ptr 4 0)]]) (.one (.dat (cI (idxF (gapI H x.kind) l)))):=by
 refine wod.run [] Go.Proofs.Tryz.func116 rfl rfl ?_;simp only [Go.Proofs.Tryz.f116];refine hgR ?_;refine wwt [0,1,7] (fun i:Nat=>[(8,.one (.dat (cI i)))]) (fun _=>g2B H x++[.clo 86 [.one (.ptr 2 0),.one (.ptr 4 0)]]) (fun i=>i<=l.length/\∀ j,j<i->(gapI H x.kind) (l.getD j default)=false) (fun i=>l.length-i) 0 ⟨Nat.zero_le _,fun j hj=>by omega⟩ ?_ ?_
 . refine hg ?_;exact StH.same svl rfl
 intro i hi;obtain ⟨hi,hj⟩:=hi;refine hg ?_;refine zcl (fun hlt _=>?_) (fun hlt _=>?_)
 . have hlt':i<l.length:=by omega
   have hy:=wax hlt';have hb:=v4i (Γ:=Γ) H x (l.getD i default);refine hg ?_
   repeat' ((first | refine hfk ?_ ?_<;>intros | refine hik ?_)<;>refine hgS ?_)
   refine xbg (wod.preN (ξ:=[.clo 86 [.one (.ptr 2 0),.one (.ptr 4 0)]]) hb (wt2 H x) rfl rfl) ?_;generalize hp:(gapI H x.kind) (l.getD i default)=q at *;clear hb;refine hg ?_
   repeat' ((first | refine hfk ?_ ?_<;>intros | refine hik ?_)<;>refine hgS ?_)
   . rename_i hq;rw [(we2 hi hj).2 hlt' (by rw [hp];exact hq)];exact StH.same svl rfl
   . rename_i hq;exact ⟨i+1,⟨by omega,zbh hj (by rw [hp];simpa using hq)⟩,by omega,StH.same svl rfl⟩
 . rw [(we2 hi hj).1 (by omega)];refine hg ?_
   repeat' ((first | refine hfk ?_ ?_<;>intros | refine hik ?_)<;>refine hgS ?_)
   exact StH.same svl rfl
theorem wpq (l:List Inp) (H:Mb) (x:Rcp) (hl:l.length<=1073741824) :
 wod Γ prog 85 (g2B H x++[.clo 86 [.one (.ptr 2 0),.one (.ptr 4 0)]]) [.one (.dat (.sl 3 (l.map Inp.C))),.one (.fnr 5)] (g2B H x++[.clo 86 [.one (.ptr 2 0),.one (.ptr 4 0)]]) (.one (.dat (cB (l.any (gapI H x.kind))))):=by
 have h:=xzp (Γ:=Γ) l H x hl;refine wod.run [] Go.Proofs.Tryz.func85 rfl rfl ?_;simp only [Go.Proofs.Tryz.f85];refine hgR ?_
 repeat' ((first | refine hfk ?_ ?_<;>intros | refine hik ?_)<;>refine hgS ?_)
 refine xbg h ?_;clear h;refine hg ?_
 repeat' ((first | refine hfk ?_ ?_<;>intros | refine hik ?_)<;>refine hgS ?_)
 exact StH.same (by rw [<-vb3];exact .cons (.refl _) .nil) rfl
theorem xf7 (H:Mb) (x:Rcp) (η:List SB) (h0:η[0]? = some (mK H)) (h1:η[3]? = some (.box [.mp 0] (some 108))) (h2:η[2]? = some (.box ((rcpC x).map .dat) (some 43))) (h3:η[4]? = some (.clo 84 [.one (.ptr 3 0)])) (h4:η[5]? = some (.box [.fnr 4] (some 145))) (h5:η[6]? = some (.clo 86 [.one (.ptr 2 0),.one (.ptr 5 0)])) :
 [0,3,2,4,5,6].map (fun j=>η[j]?)=(g2B H x++[SB.clo 86 [.one (.ptr 2 0),.one (.ptr 4 0)]]).map (fun y=>some (rnSB (atR [0,3,2,4,5,6] η.length) y)):=by
 show [η[0]?,η[3]?,η[2]?,η[4]?,η[5]?,η[6]?]=[some (rnSB _ (mK H)),_,_,_,_,_];rw [y5m,h0,h1,h2,h3,h4,h5];rfl
theorem xy5 (l:List Imp) (H:Mb) (x:Rcp) (hl:l.length<=1073741824) :
 wod Γ prog 117 (g2B H x++[.clo 88 [.one (.ptr 4 0)]]) [.one (.dat (.sl 6 (l.map Imp.C))),.one (.fnr 5)] (g2B H x++[.clo 88 [.one (.ptr 4 0)]]) (.one (.dat (cI (idxF (gapM H) l)))):=by
 refine wod.run [] Go.Proofs.Tryz.func117 rfl rfl ?_;simp only [Go.Proofs.Tryz.f117];refine hgR ?_;refine wwt [0,1,7] (fun i:Nat=>[(8,.one (.dat (cI i)))]) (fun _=>g2B H x++[.clo 88 [.one (.ptr 4 0)]]) (fun i=>i<=l.length/\∀ j,j<i->(gapM H) (l.getD j default)=false) (fun i=>l.length-i) 0 ⟨Nat.zero_le _,fun j hj=>by omega⟩ ?_ ?_
 . refine hg ?_;exact StH.same svl rfl
 intro i hi;obtain ⟨hi,hj⟩:=hi;refine hg ?_;refine zcl (fun hlt _=>?_) (fun hlt _=>?_)
 . have hlt':i<l.length:=by omega
   have hy:=wax hlt';have hb:=vgo (Γ:=Γ) H x (l.getD i default);refine hg ?_
   repeat' ((first | refine hfk ?_ ?_<;>intros | refine hik ?_)<;>refine hgS ?_)
   refine xbg (wod.preN (ξ:=[.clo 88 [.one (.ptr 4 0)]]) hb (wt2 H x) rfl rfl) ?_;generalize hp:(gapM H) (l.getD i default)=q at *;clear hb;refine hg ?_
   repeat' ((first | refine hfk ?_ ?_<;>intros | refine hik ?_)<;>refine hgS ?_)
   . rename_i hq;rw [(we2 hi hj).2 hlt' (by rw [hp];exact hq)];exact StH.same svl rfl
   . rename_i hq;exact ⟨i+1,⟨by omega,zbh hj (by rw [hp];simpa using hq)⟩,by omega,StH.same svl rfl⟩
 . rw [(we2 hi hj).1 (by omega)];refine hg ?_
   repeat' ((first | refine hfk ?_ ?_<;>intros | refine hik ?_)<;>refine hgS ?_)
   exact StH.same svl rfl
theorem waj (l:List Imp) (H:Mb) (x:Rcp) (hl:l.length<=1073741824) :
 wod Γ prog 87 (g2B H x++[.clo 88 [.one (.ptr 4 0)]]) [.one (.dat (.sl 6 (l.map Imp.C))),.one (.fnr 5)] (g2B H x++[.clo 88 [.one (.ptr 4 0)]]) (.one (.dat (cB (l.any (gapM H))))):=by
 have h:=xy5 (Γ:=Γ) l H x hl;refine wod.run [] Go.Proofs.Tryz.func87 rfl rfl ?_;simp only [Go.Proofs.Tryz.f87];refine hgR ?_
 repeat' ((first | refine hfk ?_ ?_<;>intros | refine hik ?_)<;>refine hgS ?_)
 refine xbg h ?_;clear h;refine hg ?_
 repeat' ((first | refine hfk ?_ ?_<;>intros | refine hik ?_)<;>refine hgS ?_)
 exact StH.same (by rw [<-vb3];exact .cons (.refl _) .nil) rfl
theorem zud (H:Mb) (x:Rcp) (η:List SB) (h0:η[0]? = some (mK H)) (h1:η[3]? = some (.box [.mp 0] (some 108))) (h2:η[2]? = some (.box ((rcpC x).map .dat) (some 43))) (h3:η[4]? = some (.clo 84 [.one (.ptr 3 0)])) (h4:η[5]? = some (.box [.fnr 4] (some 145))) (h5:η[7]? = some (.clo 88 [.one (.ptr 5 0)])) :
 [0,3,2,4,5,7].map (fun j=>η[j]?)=(g2B H x++[SB.clo 88 [.one (.ptr 4 0)]]).map (fun y=>some (rnSB (atR [0,3,2,4,5,7] η.length) y)):=by
 show [η[0]?,η[3]?,η[2]?,η[4]?,η[5]?,η[7]?]=[some (rnSB _ (mK H)),_,_,_,_,_];rw [y5m,h0,h1,h2,h3,h4,h5];rfl
theorem zyj (l:List Por) (H:Mb) (x:Rcp) (hl:l.length<=1073741824) :
 wod Γ prog 118 (g2B H x++[.clo 90 [.one (.ptr 4 0)]]) [.one (.dat (.sl 3 (l.map Por.C))),.one (.fnr 5)] (g2B H x++[.clo 90 [.one (.ptr 4 0)]]) (.one (.dat (cI (idxF (gapP H) l)))):=by
 refine wod.run [] Go.Proofs.Tryz.func118 rfl rfl ?_;simp only [Go.Proofs.Tryz.f118];refine hgR ?_;refine wwt [0,1,7] (fun i:Nat=>[(8,.one (.dat (cI i)))]) (fun _=>g2B H x++[.clo 90 [.one (.ptr 4 0)]]) (fun i=>i<=l.length/\∀ j,j<i->(gapP H) (l.getD j default)=false) (fun i=>l.length-i) 0 ⟨Nat.zero_le _,fun j hj=>by omega⟩ ?_ ?_
 . refine hg ?_;exact StH.same svl rfl
 intro i hi;obtain ⟨hi,hj⟩:=hi;refine hg ?_;refine zcl (fun hlt _=>?_) (fun hlt _=>?_)
 . have hlt':i<l.length:=by omega
   have hy:=wax hlt';have hb:=wd1 (Γ:=Γ) H x (l.getD i default);refine hg ?_
   repeat' ((first | refine hfk ?_ ?_<;>intros | refine hik ?_)<;>refine hgS ?_)
   refine xbg (wod.preN (ξ:=[.clo 90 [.one (.ptr 4 0)]]) hb (wt2 H x) rfl rfl) ?_;generalize hp:(gapP H) (l.getD i default)=q at *;clear hb;refine hg ?_
   repeat' ((first | refine hfk ?_ ?_<;>intros | refine hik ?_)<;>refine hgS ?_)
   . rename_i hq;rw [(we2 hi hj).2 hlt' (by rw [hp];exact hq)];exact StH.same svl rfl
   . rename_i hq;exact ⟨i+1,⟨by omega,zbh hj (by rw [hp];simpa using hq)⟩,by omega,StH.same svl rfl⟩
 . rw [(we2 hi hj).1 (by omega)];refine hg ?_
   repeat' ((first | refine hfk ?_ ?_<;>intros | refine hik ?_)<;>refine hgS ?_)
   exact StH.same svl rfl
theorem v7i (l:List Por) (H:Mb) (x:Rcp) (hl:l.length<=1073741824) :
 wod Γ prog 89 (g2B H x++[.clo 90 [.one (.ptr 4 0)]]) [.one (.dat (.sl 3 (l.map Por.C))),.one (.fnr 5)] (g2B H x++[.clo 90 [.one (.ptr 4 0)]]) (.one (.dat (cB (l.any (gapP H))))):=by
 have h:=zyj (Γ:=Γ) l H x hl;refine wod.run [] Go.Proofs.Tryz.func89 rfl rfl ?_;simp only [Go.Proofs.Tryz.f89];refine hgR ?_
 repeat' ((first | refine hfk ?_ ?_<;>intros | refine hik ?_)<;>refine hgS ?_)
 refine xbg h ?_;clear h;refine hg ?_
 repeat' ((first | refine hfk ?_ ?_<;>intros | refine hik ?_)<;>refine hgS ?_)
 exact StH.same (by rw [<-vb3];exact .cons (.refl _) .nil) rfl
theorem zwi (H:Mb) (x:Rcp) (η:List SB) (h0:η[0]? = some (mK H)) (h1:η[3]? = some (.box [.mp 0] (some 108))) (h2:η[2]? = some (.box ((rcpC x).map .dat) (some 43))) (h3:η[4]? = some (.clo 84 [.one (.ptr 3 0)])) (h4:η[5]? = some (.box [.fnr 4] (some 145))) (h5:η[8]? = some (.clo 90 [.one (.ptr 5 0)])) :
 [0,3,2,4,5,8].map (fun j=>η[j]?)=(g2B H x++[SB.clo 90 [.one (.ptr 4 0)]]).map (fun y=>some (rnSB (atR [0,3,2,4,5,8] η.length) y)):=by
 show [η[0]?,η[3]?,η[2]?,η[4]?,η[5]?,η[8]?]=[some (rnSB _ (mK H)),_,_,_,_,_];rw [y5m,h0,h1,h2,h3,h4,h5];rfl
def w3k (H:Mb) (p:ByteArray):Bool:=(ynd tgE H (0,p)).isNone
def zia (H:Mb) (y:Stp):Bool:=y.out.any (w3k H)
def v6b (H:Mb) (l:List Stp):Option Nat:=(List.range l.length).find? fun i=>zia H (l.getD i default)
def gapR (s:Sht) (x:Rcp) (H:Mb):Int×Bool:=match v6b H x.steps with
 | some i=>(i,true)
 | none=>(-1,s.inputs.any (gapI H x.kind)||s.imports.any (gapM H)||s.ports.any (gapP H))
theorem y43 {H:Mb} {l:List Stp} {i:Nat} (hi:i<l.length) (hj:∀ j,j<i->zia H (l.getD j default)=false) (h:zia H (l.getD i default)=true):v6b H l=some i:=by
 unfold v6b;rw [List.find?_range_eq_some];exact ⟨h,by simpa using hi,fun j hji=>by rw [hj j hji];rfl⟩
theorem ynw {H:Mb} {l:List Stp} (hj:∀ j,j<l.length->zia H (l.getD j default)=false):v6b H l=none:=by
 unfold v6b;rw [List.find?_eq_none];intro j hj';rw [hj j (List.mem_range.1 hj')];simp
abbrev xj8 (H:Mb) (s:Sht) (x:Rcp):List SB:=[mK H,.box ((shtC s).map .dat) (some 31),.box ((rcpC x).map .dat) (some 43),.box [.mp 0] (some 108)]
theorem y38 (s:Sht) (x:Rcp) (H:Mb) (h1:s.inputs.length<=1073741824) (h2:s.imports.length<=1073741824) (h3:s.ports.length<=1073741824) (h4:x.steps.length<=1073741824) (h5:∀ y∈x.steps,y.out.length<=1073741824) :
 wod Γ prog 55 [mK H] [.agg ((shtC s).map .dat),.agg ((rcpC x).map .dat),.one (.mp 0)] [mK H] (.tup [.one (.dat (cI (gapR s x H).1)),.one (.dat (cB (gapR s x H).2))]):=by
 have c1:=wpq (Γ:=Γ) s.inputs H x h1;have c2:=waj (Γ:=Γ) s.imports H x h2;have c3:=v7i (Γ:=Γ) s.ports H x h3;refine wod.run [(12,[.clo]),(13,[.clo]),(14,[.clo]),(15,[.clo])] Go.Proofs.Tryz.func55 rfl rfl ?_;simp only [Go.Proofs.Tryz.f55];refine hgR ?_
 repeat' ((first | refine hfk ?_ ?_<;>intros | refine hik ?_)<;>refine hgS ?_)
 refine wwt [3,4,5,17,18] (fun i:Nat=>[(19,.one (.dat (cI i)))]) (fun _=>xj8 H s x)
  (fun i=>i<=x.steps.length/\∀ j,j<i->zia H (x.steps.getD j default)=false) (fun i=>x.steps.length-i) 0 ⟨Nat.zero_le _,fun j hj=>by omega⟩ ?_ ?_
 . refine hg ?_;exact StH.same svl rfl
 rintro i ⟨hi,hj⟩;refine hg ?_;refine zcl (fun hlt _=>?_) (fun hlt _=>?_)
 . have hlt':i<x.steps.length:=by omega
   have hy:=h5 _ (wax hlt');refine hg ?_
   repeat' ((first | refine hfk ?_ ?_<;>intros | refine hik ?_)<;>refine hgS ?_)
   refine wwt [3,4,5,8,17,18,19,25,26] (fun k:Nat=>[(27,.one (.dat (cI k)))]) (fun _=>xj8 H s x++[.box ((stpC (x.steps.getD i default)).map .dat) (some 50)])
    (fun k=>k<=(x.steps.getD i default).out.length/\∀ j,j<k->w3k H ((x.steps.getD i default).out.getD j default)=false) (fun k=>(x.steps.getD i default).out.length-k) 0 ⟨Nat.zero_le _,fun j hj=>by omega⟩ ?_ ?_
   . refine hg ?_;exact StH.same svl rfl
   rintro k ⟨hk,hkj⟩;refine hg ?_;refine zcl (fun hlt2 _=>?_) (fun hlt2 _=>?_)
   . have hlt3:k<(x.steps.getD i default).out.length:=by omega
     cases hl:ynd tgE H (0,(x.steps.getD i default).out.getD k default) with
     | none=>
      have hm:w3k H ((x.steps.getD i default).out.getD k default)=true:=by unfold w3k;rw [hl];rfl
      have hu:v6b H x.steps=some i:=y43 hlt' hj (vun hlt3 hm);unfold gapR;rw [hu];clear c1 c2 c3 hm hu hj hkj;refine hg1 @hl ?_
      repeat' ((first | refine hfk ?_ ?_<;>intros | refine hik ?_)<;>refine hgS ?_)
      exact StH.ylx rfl (by kernel_rfl) rfl
     | some q=>
      have hm:w3k H ((x.steps.getD i default).out.getD k default)=false:=by unfold w3k;rw [hl];rfl
      refine hg1 @hl ?_
      repeat' ((first | refine hfk ?_ ?_<;>intros | refine hik ?_)<;>refine hgS ?_)
      exact ⟨k+1,⟨by omega,zbh hkj hm⟩,by omega,StH.same svl rfl⟩
   . have hm:zia H (x.steps.getD i default)=false:=vyw (fun j hjl=>hkj j (by omega));refine hg ?_
     repeat' ((first | refine hfk ?_ ?_<;>intros | refine hik ?_)<;>refine hgS ?_)
     refine ⟨i+1,⟨by omega,zbh hj hm⟩,by omega,?_⟩;refine StH.cutN [3,4,5,17,18,19] 4 rfl ?_ ?_
     . refine hg ?_
       first | exact trivial | rfl
     exact StH.same svl rfl
 have hu:v6b H x.steps=none:=ynw (fun j hjl=>hj j (by omega));unfold gapR;rw [hu];clear hu hj;dsimp only;generalize s.inputs.any (gapI H x.kind)=b1 at *;generalize s.imports.any (gapM H)=b2 at *;generalize s.ports.any (gapP H)=b3 at *;refine hg ?_
 repeat' ((first | refine hfk ?_ ?_<;>intros | refine hik ?_)<;>refine hgS ?_)
 refine xbg (wod.roN [0,3,2,4,5,6] c1 (by decide) rfl (xf7 H x _ rfl rfl rfl rfl rfl rfl)) ?_;refine hg ?_
 repeat' ((first | refine hfk ?_ ?_<;>intros | refine hik ?_)<;>refine hgS ?_)
 all_goals try (refine xbg (wod.roN [0,3,2,4,5,7] c2 (by decide) rfl (zud H x _ rfl rfl rfl rfl rfl rfl)) ?_)
 all_goals
  refine hg ?_
  repeat' ((first | refine hfk ?_ ?_<;>intros | refine hik ?_)<;>refine hgS ?_)
 . refine xbg (wod.roN [0,3,2,4,5,8] c3 (by decide) rfl (zwi H x _ rfl rfl rfl rfl rfl rfl)) ?_;refine hg ?_
   repeat' ((first | refine hfk ?_ ?_<;>intros | refine hik ?_)<;>refine hgS ?_)
   exact StH.ylx rfl (by kernel_rfl) (by simp [*])
 . exact StH.ylx rfl (by kernel_rfl) (by simp [*])
 . exact StH.ylx rfl (by kernel_rfl) (by simp [*])
end Go.Hp.T
namespace Go.Hp
open Go Go.RowKit Go.Slot
variable {P:Program} {Γ:List (Nat×List Cell)}
def insM:List (Value×SV)->Value->SV->Option (SV×Nat×List (Value×SV))
 | [],k,z=>some (z,0,[(k,z)])
 | (k',x)::r,k,z=>match kEq k k' with
  | some true=>some (x,0,(k,x)::r)
  | some false=>(insM r k z).map fun p=>(p.1,p.2.1+1,(k',x)::p.2.2)
  | none=>none
section
variable {η:List SB} {ρ:Nat->Value} {M:Nat->Nat->Prop} {w:World}
theorem vnl {kt:TypeId} {k:List Value} (hk:keyT P kt k=true) (w':World) {z:SV} (clk:Nat):∀{es:List MapEntry} {l:List (Value×SV)} {x:SV} {j:Nat} {l':List (Value×SV)} (i:Nat),EnR η ρ M w es l->insM l (.agg k.toArray) z=some (x,j,l')->
 ((Instr.findAsking kt (.agg k.toArray) es i).run P w'=.ok none w'/\x=z/\j=es.length/\∀ zv,SVR0 η ρ M w zv z->EnR η ρ M w (es++[{ key:=.agg k.toArray,val:=zv,born:=clk }]) l')\/
 ∃ v e,(Instr.findAsking kt (.agg k.toArray) es i).run P w'=.ok (some (i+j,v)) w'/\es[j]? = some e/\SVR0 η ρ M w v x/\kEq (.agg k.toArray) e.key=some true/\EnR η ρ M w (es.modify j fun e=>{ e with key:=.agg k.toArray }) l'
 | [],[],x,j,l',i,_,h=>by cases h;exact .inl ⟨rfl,rfl,rfl,fun zv hz=>⟨⟨rfl,hz⟩,trivial⟩⟩
 | e::es,(k',y)::l,x,j,l',i,hr,h=>by
  simp only [insM] at h;have hk1:e.key=k':=hr.1.1;rw [<-hk1] at h;unfold Instr.findAsking;split at h
  . rename_i he
    cases h;obtain ⟨l',e1,e2⟩:=vvm he;refine .inr ⟨e.val,e,?_,rfl,hr.1.2,he,⟨⟨rfl,hr.1.2⟩,hr.2⟩⟩;rw [e1];simp only [Sem.run_bind,v8q hk e2,Result.andThen_ok,if_true,Sem.run_pure,Nat.add_zero]
  . rename_i he;obtain ⟨⟨x2,j2,l2⟩,h2,h3⟩:=Option.map_eq_some_iff.1 h;simp only [Prod.mk.injEq] at h3;obtain ⟨rfl,rfl,rfl⟩:=h3;obtain ⟨l',e1,e2⟩:=vvm he;rw [e1];simp only [Sem.run_bind,v8q hk e2,Result.andThen_ok,Bool.false_eq_true,if_false]
    rcases vnl hk w' clk (i+1) hr.2 h2 with ⟨h3,h4,h5,h6⟩ | ⟨v,e',h3,h4,h5,h6,h7⟩
    . exact .inl ⟨h3,h4,by rw [h5,List.length_cons],fun zv hz=>⟨⟨e1,hr.1.2⟩,h6 zv hz⟩⟩
    . exact .inr ⟨v,e',by rw [show i+(j2+1)=i+1+j2 by omega];exact h3,by simpa using h4,h5,h6,⟨⟨e1,hr.1.2⟩,h7⟩⟩
  . cases h
theorem EnR.set {x:SV} {v:Value} (hv:SVR0 η ρ M w v x):∀{es:List MapEntry} {l:List (Value×SV)} (j:Nat),EnR η ρ M w es l->EnR η ρ M w (es.modify j fun e=>{ e with val:=v }) (l.modify j fun p=>(p.1,x))
 | [],[],j,_=>by cases j<;>trivial
 | _::_,_::_,0,h=>⟨⟨h.1.1,hv⟩,h.2⟩
 | _::_,_::_,j+1,h=>⟨h.1,EnR.set hv j h.2⟩
theorem EnR.len:∀{es:List MapEntry} {l:List (Value×SV)},EnR η ρ M w es l->es.length=l.length
 | [],[],_=>rfl
 | _::_,_::_,h=>by rw [List.length_cons,List.length_cons,EnR.len h.2]
end
theorem yhz {o:Oper} {J:List SV} {η:List SB} {T kt et:TypeId} {x y:Operand} {d b:Nat} (ho:o.op=.mapEntry T x y) (hdst:o.dst=some d) {ti:TI} (hti:mkTI P T=some ti) (hsh:ti.sh=.map kt et)
 {es es':List (Value×SV)} (hm:zsa η (opdS Γ J x)=some (b,es)) {kl:List Value} (hkv:keyX (opdS Γ J y)=some (.agg kl.toArray)) (hkt:keyT P kt kl=true) {zero v:SV} (hz:vnx P et=some zero) (hnt:yp1 v=true) {j:Nat} (hu:insM es (.agg kl.toArray) zero=some (v,j,es')) :
 y9y Γ P o J η (d::(orr x++orr y)) [b] [(d,.tup [v,.one (.dat (.raw (.int .i64 j)))])] [(b,.map es')]:=by
 refine y9y.val hdst (fun E ρ J' η' a w hag hah hI=>?_);have hx:=hI.opd x;have hy:=hI.opd y;rw [hag.opd (fun t ht=>by simp [ht])] at hx hy;unfold zsa at hm;split at hm
 case h_2=>cases hm
 rename_i b' hxe;split at hm
 case h_2=>cases hm
 rename_i es0 hb
 cases hm;rw [hxe] at hx
 have hb':gB η' b=.map es:=by rw [hah.gB (by simp)];exact hb
 obtain ⟨bb,ents,clk,he,hh,hen,hB⟩:=hI.sbr hb' (by simp);have hkey:=z09 hkv hy;obtain ⟨dd,i,zz,hd,hi,hz',_,_,_,_,_,hsh'⟩:=(x03 hti).ex;have hmap:=vup (hsh'.symm.trans hsh);subst hmap
 have hmv:a.eval x=.map (some bb):=by rw [hx.2.1,he]
 obtain ⟨zv,hzrun,hzr⟩:=zup hz;have hck:=za5 hkt false 9998 w
 have hbk:bk (ρ b)=bb:=by rw [he];rfl
 have hlt:bb<w.heap.size:=(Array.getElem?_eq_some_iff.1 hh).1;have fin:∀(en':Array MapEntry) (clk':Nat) (u:Value),EnR η' ρ (MX E.Mo ρ η') w en'.toList es'->ytg en' clk'->SVR0 η' ρ (MX E.Mo ρ η') w u v->(Instr.mapEntry T (.map (some bb)) (.agg kl.toArray)).run P w=.ok (.tuple #[u,goInt j]) { w with heap:=w.heap.setIfInBounds bb (.map en' clk') }->
  ∃ x' w' ρ',(execOp a.eval o).run P w=.ok (.value x') w'/\Went Γ E.Mo ρ η' w ρ' (appL [(b,.map es')] η') w'/\SVR (appL [(b,.map es')] η') ρ' (MX E.Mo ρ' (appL [(b,.map es')] η')) w' x' (.tup [v,.one (.dat (.raw (.int .i64 j)))]):=fun en' clk' u hen' hB' hu' hrun=>by
  have hw:Went Γ E.Mo ρ η' w ρ (appL [(b,.map es')] η') { w with heap:=w.heap.setIfInBounds bb (.map en' clk') }:=by
   refine Went.write hI.inv (va7 hb' (by simp)) rfl (by rw [he];simp [real]) rfl (fun o=>Iff.rfl) (by simp) rfl rfl rfl (fun kk hkk=>?_) (fun i arr T fz hi'=>?_) (fun oo u _ hc=>?_) (fun m=>⟨bb,en',clk',he,by simp [hlt],hen'.mv m,hB'⟩)
   . rw [hbk] at hkk;simp only [Array.getElem?_setIfInBounds_ne (Ne.symm hkk)]
   . by_cases e:i=bb
     . subst e;rw [hh] at hi';cases hi'
     . exact ⟨arr,T,fz,by simp only [Array.getElem?_setIfInBounds_ne (Ne.symm e)];exact hi',Nat.le_refl _⟩
   . rw [hbk] at hc;simp [World.cell?,hh] at hc
  exact ⟨_,_,ρ,by simp [execOp,ho,hmv,hkey,hrun],hw,[u,goInt j],rfl,hu'.mv hw.mv,RdC.raw rfl,trivial⟩
 rcases vnl hkt w (z:=zero) clk 0 hen hu with ⟨hf,rfl,hj,hen'⟩ | ⟨u,e,hf,hj,hv,hq,hen'⟩
 . refine fin (ents.push { key:=.agg kl.toArray,val:=zv,born:=clk }) (clk+1) zv (by simpa using hen' zv (SVR.to0 hnt (SVR.of0 (hzr _ _ _ _)))) (hB.push _ _) (hzr _ _ _ _) ?_
   have hjc:clk=j:=by rw [hB.1,hj];simp
   simp [Instr.mapEntry,yot hd,getObj,setObj,Sem.run,hh,hck,xqj hkt,hf,hzrun,hjc]
 . refine fin (ents.modify j fun e=>{ e with key:=.agg kl.toArray }) clk u (by simpa using hen') (hB.modify _ _ (fun _=>rfl)) hv ?_;rw [Nat.zero_add] at hf
   have hj':ents[j]? = some e:=by simpa using hj
   have hsb:=x7a hq 9999;have hbj:=hB.2 j e hj';simp [Instr.mapEntry,yot hd,getObj,setObj,Sem.run,hh,hck,xqj hkt,hf,Instr.keyThatStays,hj',hsb,hbj]
theorem ybn {o:Oper} {J:List SV} {η:List SB} {T:TypeId} {x s z:Operand} {b j:Nat} (ho:o.op=.entryStore T x s z) (hdst:o.dst=none)
 {es:List (Value×SV)} (hm:zsa η (opdS Γ J x)=some (b,es)) (hs:opdS Γ J s=.one (.dat (.raw (.int .i64 j)))) (hj:j<es.length) (hn:yp1 (opdS Γ J z)=true) :
 y9y Γ P o J η (orr x++orr s++orr z) [b] [] [(b,.map (es.modify j fun p=>(p.1,opdS Γ J z)))]:=by
 refine y9y.skip hdst (fun E ρ J' η' a w hag hah hI=>?_);have hx:=hI.opd x;have hy:=hI.opd s;have hz:=hI.opd z;rw [hag.opd (fun t ht=>by simp [ht])] at hx hy hz;unfold zsa at hm;split at hm
 case h_2=>cases hm
 rename_i b' hxe;split at hm
 case h_2=>cases hm
 rename_i es0 hb
 cases hm;rw [hxe] at hx;rw [hs] at hy
 have hb':gB η' b=.map es:=by rw [hah.gB (by simp)];exact hb
 obtain ⟨bb,ents,clk,he,hh,hen,hB⟩:=hI.sbr hb' (by simp)
 have hmv:a.eval x=.map (some bb):=by rw [hx.2.1,he]
 have hsv:a.eval s=.int .i64 j:=RdC.y6j hy
 have hbk:bk (ρ b)=bb:=by rw [he];rfl
 have hlt:bb<w.heap.size:=(Array.getElem?_eq_some_iff.1 hh).1
 have hsz:j<ents.size:=by have:=hen.len;simp at this;omega
 have hfi:ents.findIdx? (fun e=>(e.born:Int)==(j:Int))=some j:=by
  rw [Array.findIdx?_eq_some_iff_getElem];refine ⟨hsz,by have:=hB.2 j ents[j] (by simp [hsz]);simp [this],fun i hi=>?_⟩
  have:=hB.2 i ents[i] (by simp [show i<ents.size by omega])
  simp [this];omega
 refine ⟨{ w with heap:=w.heap.setIfInBounds bb (.map (ents.modify j fun e=>{ e with val:=a.eval z }) clk) },ρ,?_,Went.write hI.inv (va7 hb' (by simp)) rfl (by rw [he];simp [real]) rfl (fun o=>Iff.rfl) (by simp) rfl rfl rfl (fun kk hkk=>?_) (fun i arr T fz hi'=>?_) (fun oo u _ hc=>?_) (fun m=>⟨bb,ents.modify j fun e=>{ e with val:=a.eval z },clk,he,by simp [hlt],(by simpa using (EnR.set (hz.to0 hn) j hen).mv m),hB.modify _ _ (fun _=>rfl)⟩)⟩
 . have hrun:(Instr.entryStore T (.map (some bb)) (.int .i64 j) (a.eval z)).run P w=.ok () { w with heap:=w.heap.setIfInBounds bb (.map (ents.modify j fun e=>{ e with val:=a.eval z }) clk) }:=by
    simp [Instr.entryStore,getObj,setObj,Sem.run,hh,asInt,asIntOf,hfi]
   simp [execOp,ho,hmv,hsv,hrun]
 . rw [hbk] at hkk;simp only [Array.getElem?_setIfInBounds_ne (Ne.symm hkk)]
 . by_cases e:i=bb
   . subst e;rw [hh] at hi';cases hi'
   . exact ⟨arr,T,fz,by simp only [Array.getElem?_setIfInBounds_ne (Ne.symm e)];exact hi',Nat.le_refl _⟩
 . rw [hbk] at hc;simp [World.cell?,hh] at hc
theorem xqm {ops:Array Oper} {Q:Exit->Act->World->Prop} (Φ:(Nat->Bool)->Act->World->Prop) (hng:∀(j:Nat) (o:Oper),ops[j]? = some o->o.guard=none) (hedge:vwk 0 ops.toList=true)
 (hQ:∀(L:Nat->Bool) (a:Act) (w:World),(∀ i,i<ops.size->L i=true)->Φ L a w->Q .normal a w)
 (hstep:∀(L:Nat->Bool) (j:Nat) (o:Oper) (a:Act) (w:World),ops[j]? = some o->L j=false->(∀ d∈direct o,L d=true)->(∀(k:Nat) (o:Oper),ops[k]? = some o->L k=true->∀ d∈direct o,L d=true)->Φ L a w->∀ K:Act->World->Prop,(∀ a' w',Φ (fun i=>L i||i==j) a' w'->K a' w')->o.wp P a w K Q) :
 ∀(fuel:Nat) (listed:Array Bool) (a:Act) (w:World),listed.size=ops.size->(listed.toList.filter (! ·)).length<=fuel->(∀(k:Nat) (o:Oper),ops[k]? = some o->listed.getD k false=true->∀ d∈direct o,listed.getD d false=true)->
  Φ (fun i=>listed.getD i false) a w->wpAny P .any ops Q fuel listed a w:=by
 have done:∀(listed:Array Bool),listed.size=ops.size->Region.ready .any ops listed=[]->∀ i,i<ops.size->listed.getD i false=true:=by
  intro listed hsz hr i
  induction i using Nat.strongRecOn with
  | _ i ih =>
   intro hi
   cases hx:listed.getD i false with
   | true=>rfl
   | false=>
    exfalso
    have hmem:i∈Region.ready .any ops listed:=by
     rw [mem_ready];refine ⟨?_,ops[i],by simp [hi],fun e he hb=>?_⟩
     . simp only [Array.getD_eq_getD_getElem?,Array.getElem?_eq_getElem (show i<listed.size by omega),Option.getD_some] at hx ⊢;exact hx
     . have hd:e.on∈direct ops[i]:=List.mem_map.2 ⟨e,by simp [List.mem_filter,hb];exact he,rfl⟩
       have:=xgk ops.toList 0 hedge i ops[i] (by simp [hi]) e.on hd
       exact ih e.on (by omega) (by omega)
    rw [hr] at hmem
    cases hmem
 intro fuel
 induction fuel with
 | zero=>
  intro listed a w hsz hf hcl hR
  have hall:∀ i,i<ops.size->listed.getD i false=true:=fun i hi=>by
   have hnil:listed.toList.filter (! ·)=[]:=List.eq_nil_of_length_eq_zero (by omega);rw [List.filter_eq_nil_iff] at hnil
   have:=hnil listed[i] (by simp)
   simp only [Bool.not_eq_true',Bool.not_eq_false] at this;simp [show i<listed.size by omega,this]
  have hready:Region.ready .any ops listed=[]:=by
   cases hr:Region.ready .any ops listed with
   | nil=>rfl
   | cons j _=>
    exfalso
    have hj:j∈Region.ready .any ops listed:=by rw [hr];simp
    obtain ⟨h1,o,ho,_⟩:=mem_ready.1 hj;have hjl:j<ops.size:=(Array.getElem?_eq_some_iff.1 ho).1
    have:=hall j hjl
    simp only [Array.getD_eq_getD_getElem?,Array.getElem?_eq_getElem (show j<listed.size by omega),Option.getD_some] at this h1;rw [this] at h1;cases h1
  exact ⟨hready,hQ _ a w hall hR⟩
 | succ fuel ih=>
  intro listed a w hsz hf hcl hR;refine ⟨fun hready=>hQ _ a w (done listed hsz hready) hR,fun j hj=>?_⟩;obtain ⟨h1,o,ho,hall⟩:=mem_ready.1 hj;have hjl:j<ops.size:=(Array.getElem?_eq_some_iff.1 ho).1
  have hout:listed.getD j false=false:=by
   simp only [Array.getD_eq_getD_getElem?,Array.getElem?_eq_getElem (show j<listed.size by omega),Option.getD_some] at h1 ⊢;exact h1
  have hdir:∀ d∈direct o,listed.getD d false=true:=fun d hd=>by
   obtain ⟨e,he,rfl⟩:=List.mem_map.1 hd;rw [List.mem_filter] at he;exact hall e (by simpa using he.1) he.2
  have hX:∀ i,(listed.setIfInBounds j true).getD i false=(listed.getD i false||i==j):=fun i=>by
   by_cases e:i=j
   . subst e;simp [show i<listed.size by omega]
   . simp only [Array.getD_eq_getD_getElem?,Array.getElem?_setIfInBounds_ne (Ne.symm e)];simp [e]
  have hstep':=hstep _ j o a w ho hout hdir hcl hR (wpAny P .any ops Q fuel (listed.setIfInBounds j true)) (fun a' w' hR'=>by
   refine ih _ a' w' (by simpa using hsz) ?_ ?_ ?_
   . have hcount:∀(l:List Bool) (j:Nat),l[j]? = some false->((l.set j true).filter (! ·)).length+1=(l.filter (! ·)).length:=by
      intro l
      induction l with
      | nil=>intro j h;simp at h
      | cons b l ihl=>
       intro j h
       cases j with
       | zero=>simp at h;subst h;simp
       | succ j=>
        have:=ihl j (by simpa using h)
        cases b<;>simp<;>omega
     have hjb:listed.toList[j]? = some false:=by
      simp only [Array.getD_eq_getD_getElem?,Array.getElem?_eq_getElem (show j<listed.size by omega),Option.getD_some] at hout;simp [Array.getElem?_eq_getElem (show j<listed.size by omega),hout]
     have:=hcount listed.toList j hjb
     simp only [Array.toList_setIfInBounds];omega
   . intro k ok hko hk i hi;rw [hX] at hk ⊢;by_cases e:k=j
     . subst e;rw [ho] at hko
       cases hko;rw [hdir i hi,Bool.true_or]
     . have:listed.getD k false=true:=by simpa [e] using hk
       rw [hcl k ok hko this i hi,Bool.true_or]
   . rw [show (fun i=>(listed.setIfInBounds j true).getD i false)=fun i=>(listed.getD i false||i==j) from funext hX]
     exact hR')
  unfold wpOp;rw [ho];dsimp only;rw [if_pos (by simp [Region.wanted,hng j o ho])];exact .inl hstep'
theorem v2w {id:Nat} {ops:Array Oper} {Q:Exit->Act->World->Prop} (hm:P.follows .mixedOrders=true) (Φ:(Nat->Bool)->Act->World->Prop) (hng:∀(j:Nat) (o:Oper),ops[j]? = some o->o.guard=none) (hedge:vwk 0 ops.toList=true)
 (hQ:∀(L:Nat->Bool) (a:Act) (w:World),(∀ i,i<ops.size->L i=true)->Φ L a w->Q .normal a w)
 (hstep:∀(L:Nat->Bool) (j:Nat) (o:Oper) (a:Act) (w:World),ops[j]? = some o->L j=false->(∀ d∈direct o,L d=true)->(∀(k:Nat) (o:Oper),ops[k]? = some o->L k=true->∀ d∈direct o,L d=true)->Φ L a w->∀ K:Act->World->Prop,(∀ a' w',Φ (fun i=>L i||i==j) a' w'->K a' w')->o.wp P a w K Q)
 {a:Act} {w:World} (h0:Φ (fun _=>false) a { w with drawn:=w.drawn+1 }):(Code.region id ops true).wp P Q a w:=by
 have hz:∀ i,(Array.replicate ops.size false).getD i false=false:=fun i=>by
  rw [Array.getD_eq_getD_getElem?];by_cases hi:i<ops.size
  . simp [hi]
  . rw [Array.getElem?_eq_none (by simp;omega)];rfl
 refine wp_region_any hm (xqm Φ hng hedge hQ hstep ops.size _ a _ (by simp) (by simp) (fun k o _ hk=>by rw [hz] at hk;cases hk) ?_);rw [show (fun i=>(Array.replicate ops.size false).getD i false)=fun _=>false from funext hz];exact h0
end Go.Hp
