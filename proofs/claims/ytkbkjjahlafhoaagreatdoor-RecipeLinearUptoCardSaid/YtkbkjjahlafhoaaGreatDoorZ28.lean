/- The proof, part Z28: 6d, 6e, 6f. -/
import Derived.Test.YtkbkjjahlafhoaaGreatDoorZ15
import Derived.Test.YtkbkjjahlafhoaaGreatDoorZ27
namespace Go.Hp.T
open Go Go.RowKit Go.Slot Go.Hp Go.Slot.T
open Go.Proofs.Tryz
attribute [local irreducible] hide RH
set_option maxRecDepth 10000
set_option maxHeartbeats 8000000
variable {Γ:List (Nat×List Cell)}
theorem vkk {α:Type} [Inhabited α] {p:α->Bool} {l:List α} {i:Nat} (h:i<l.length) (hp:p (l.getD i default)=true):l.any p=true:=List.any_eq_true.2 ⟨_,vdv h,hp⟩
theorem xd1 {α:Type} [Inhabited α] {p:α->Bool} {l:List α} (h:∀ j,j<l.length->p (l.getD j default)=false):l.any p=false:=by
 rw [List.any_eq_false];intro x hx;obtain ⟨j,hj,rfl⟩:=List.getElem_of_mem hx
 have:=h j hj
 rw [List.getD_eq_getElem?_getD,List.getElem?_eq_getElem hj] at this;simpa using this
def dupT (H:Mb):List Tg->Mn->Bool
 | [],_=>false
 | y::l,m=>bif (vlc tgE H y).isSome||(vlc tgE m y).isSome then true else dupT H l (updG tgE m y ())
def noMk (H:Mb) (s:ByteArray):Bool:=(vlc tgE H (1,s)).isNone
def noCl (C:Ms) (w:ByteArray):Bool:=(yvz C w).isNone
def wv1 (C I:Ms) (N:Mn) (H:Mb) (kind:ByteArray) (x:Stp):Int:=
 bif x.inn.any (noMk H) then 4 else
 bif x.cells.any (noCl C) then 4 else
 bif !(seq x.name ⟨#[]⟩)&&(!decide (x.kind=7)&&(vlc tgE N (x.kind,x.name)).isNone) then 4 else
 bif decide (x.kind=0)&&!(seq (ydl I x.name) kind)||x.cells.any (badW C) then 13 else
 bif dupT H (xvm x) [] then 5 else 0
abbrev wrBs (C I:Ms) (N:Mn) (H:Mb):List SB:=[mS C,mS I,mN N,mK H]
theorem yfr (C I:Ms) (N:Mn) (η:List SB) (h0:η[0]? = some (mS C)) (h1:η[1]? = some (mS I)) (h2:η[2]? = some (mN N)) (h4:η[4]? = some (itB 0 1 2)) (h6:η[6]? = some (.clo 129 [.one (.ptr 4 0)])) :
 [0,1,2,4,6].map (fun j=>η[j]?)=(wB C I N++[SB.clo 129 [.one (.ptr 3 0)]]).map (fun x=>some (rnSB (atR [0,1,2,4,6] η.length) x)):=by
 show [η[0]?,η[1]?,η[2]?,η[4]?,η[6]?]=[some (rnSB _ (mS C)),some (rnSB _ (mS I)),some (rnSB _ (mN N)),some (rnSB _ (itB 0 1 2)),some (rnSB _ (.clo 129 [.one (.ptr 3 0)]))];rw [yk0,yk0,ypi,h0,h1,h2,h4,h6];rfl
theorem vs9 (C I:Ms) (N:Mn) (H:Mb) (kind:ByteArray) (x:Stp) (hx:x.Sm) (hC:∀ s u,yvz C s=some u->u.size<=1073741824) :
 z00 Γ prog 78 (wrBs C I N H) [.agg [.mp 0,.mp 1,.mp 2],.one (.dat (cS kind)),.one (.mp 3),.agg ((stpC x).map .dat)] (wrBs C I N H) (.one (.dat (cI (wv1 C I N H kind x)))):=by
 have hil:=hx.il;have hcl:=hx.cl;have ht:=y00 (Γ:=Γ) x hx.il hx.ol;have hcon:=xto (Γ:=Γ) x.cells C I N hcl hC
 have htl:(xvm x).length<=4294967296:=by
  have:=hx.ol
  unfold xvm;rw [List.length_append,List.length_append,List.length_map,List.length_map]
  cases (decide (x.kind=0)||(decide (x.kind=1)||decide (x.kind=5)))
  . simp;omega
  . simp;omega
 clear hx;obtain ⟨k,inn,out,nm,cells,amt⟩:=x;dsimp only at *;refine hEh [(17,[.clo])] func78 f78.eq_1 ?_
 repeat' ((first | refine hfk ?_ ?_<;>intros | refine hik ?_)<;>refine hgS ?_)
 refine vi3 [1,2,4,7,23,24] (fun i:Nat=>[(25,.one (.dat (cI i)))]) (fun _=>wrBs C I N H++[itB 0 1 2,.box ((stpC ⟨k,inn,out,nm,cells,amt⟩).map .dat) (some 70)])
  (fun i=>i<=inn.length/\∀ j,j<i->noMk H (inn.getD j default)=false) (fun i=>inn.length-i) 0 ⟨Nat.zero_le _,fun j hj=>by omega⟩ ?_ ?_
 . refine hg ?_;exact sS
 rintro i ⟨hi,hj⟩;refine hg ?_;refine vdi (fun hlt _=>?_) (fun hlt _=>?_)
 . have hlt':i<inn.length:=by omega
   cases hl:vlc tgE H (1,inn.getD i default) with
   | none=>
    have hm:noMk H (inn.getD i default)=true:=by unfold noMk;rw [hl];rfl
    have hw:wv1 C I N H kind ⟨k,inn,out,nm,cells,amt⟩=4:=by unfold wv1;rw [vkk hlt' hm];rfl
    rw [hw];clear hcon ht hm hw;refine hg1 @hl ?_
    repeat' ((first | refine hfk ?_ ?_<;>intros | refine hik ?_)<;>refine hgS ?_)
    exact StH.vf8 rfl (by kernel_rfl) rfl
   | some q=>
    have hm:noMk H (inn.getD i default)=false:=by unfold noMk;rw [hl];rfl
    refine hg1 @hl ?_
    repeat' ((first | refine hfk ?_ ?_<;>intros | refine hik ?_)<;>refine hgS ?_)
    exact ⟨i+1,⟨by omega,za5 hj hm⟩,by omega,sS⟩
 have ha:inn.any (noMk H)=false:=xd1 (fun j hjl=>hj j (by omega));clear hj hi hlt;refine hg ?_;refine vi3 [1,2,4,7,40,41] (fun i:Nat=>[(42,.one (.dat (cI i)))]) (fun _=>wrBs C I N H++[itB 0 1 2,.box ((stpC ⟨k,inn,out,nm,cells,amt⟩).map .dat) (some 70)])
  (fun i=>i<=cells.length/\∀ j,j<i->noCl C (cells.getD j default)=false) (fun i=>cells.length-i) 0 ⟨Nat.zero_le _,fun j hj=>by omega⟩ ?_ ?_
 . refine hg ?_;exact sS
 rintro i ⟨hi,hj⟩;refine hg ?_;refine vdi (fun hlt _=>?_) (fun hlt _=>?_)
 . have hlt':i<cells.length:=by omega
   cases hl:yvz C (cells.getD i default) with
   | none=>
    have hm:noCl C (cells.getD i default)=true:=by unfold noCl;rw [hl];rfl
    have hw:wv1 C I N H kind ⟨k,inn,out,nm,cells,amt⟩=4:=by unfold wv1;rw [ha,vkk hlt' hm];rfl
    rw [hw];clear hcon ht hm hw;refine hg1 @hl ?_
    repeat' ((first | refine hfk ?_ ?_<;>intros | refine hik ?_)<;>refine hgS ?_)
    exact StH.vf8 rfl (by kernel_rfl) rfl
   | some q=>
    have hm:noCl C (cells.getD i default)=false:=by unfold noCl;rw [hl];rfl
    refine hg1 @hl ?_
    repeat' ((first | refine hfk ?_ ?_<;>intros | refine hik ?_)<;>refine hgS ?_)
    exact ⟨i+1,⟨by omega,za5 hj hm⟩,by omega,sS⟩
 have hb:cells.any (noCl C)=false:=xd1 (fun j hjl=>hj j (by omega));clear hj hi hlt
 have hW:wv1 C I N H kind ⟨k,inn,out,nm,cells,amt⟩=bif !(seq nm ⟨#[]⟩)&&(!decide (k=7)&&(vlc tgE N (k,nm)).isNone) then 4 else
  bif decide (k=0)&&!(seq (ydl I nm) kind)||cells.any (badW C) then 13 else bif dupT H (xvm ⟨k,inn,out,nm,cells,amt⟩) [] then 5 else 0:=by unfold wv1;rw [ha,hb];rfl
 rw [hW];clear hW ha hb;unfold ydl;generalize cells.any (badW C)=bw at *;by_cases hk:k=0
 . subst hk;generalize xvm ⟨0,inn,out,nm,cells,amt⟩=T at *
   cases hN:vlc tgE N (0,nm)<;>cases hI:yvz I nm
   all_goals
    refine hg ?_
    repeat' ((first | refine hfk ?_ ?_<;>intros | refine hik ?_)<;>refine hgS ?_)
   all_goals try (exfalso;omega)
   all_goals try exact StH.vf8 rfl (by kernel_rfl) (by first | (simp [*];done) | (simp only [v2l,w4r, *,cond_true,cond_false,Bool.and_false,Bool.false_and,Bool.and_true,Bool.true_and,Bool.or_false,Bool.false_or,Bool.or_true,Bool.true_or,Option.isNone_none,Option.isNone_some,Option.getD_none,Option.getD_some,Bool.not_true,Bool.not_false];done) | (simp only [v2l,w4r, *,cond_true,cond_false,Bool.and_false,Bool.false_and,Bool.and_true,Bool.true_and,Bool.or_false,Bool.false_or,Bool.or_true,Bool.true_or,Option.isNone_none,Option.isNone_some,Option.getD_none,Option.getD_some,Bool.not_true,Bool.not_false];rfl))
   all_goals
    refine xmm (z00.roN [0,1,2,4,6] hcon (by decide) rfl (yfr C I N _ rfl rfl rfl rfl rfl)) ?_;refine hg ?_
    repeat' ((first | refine hfk ?_ ?_<;>intros | refine hik ?_ | with_reducible first | refine w5a (ht) ?_ | refine xqd (ht) ?_)<;>refine hgS ?_)
   all_goals try exact StH.vf8 rfl (by kernel_rfl) (by first | (simp [*];done) | (simp only [v2l,w4r, *,cond_true,cond_false,Bool.and_false,Bool.false_and,Bool.and_true,Bool.true_and,Bool.or_false,Bool.false_or,Bool.or_true,Bool.true_or,Option.isNone_none,Option.isNone_some,Option.getD_none,Option.getD_some,Bool.not_true,Bool.not_false];done) | (simp only [v2l,w4r, *,cond_true,cond_false,Bool.and_false,Bool.false_and,Bool.and_true,Bool.true_and,Bool.or_false,Bool.false_or,Bool.or_true,Bool.true_or,Option.isNone_none,Option.isNone_some,Option.getD_none,Option.getD_some,Bool.not_true,Bool.not_false];rfl))
   all_goals
    refine vi3 [2,17,95,96] (fun p:Nat×Mn=>[(97,.one (.dat (cI p.1)))]) (fun p=>wrBs C I N H++[itB 0 1 2,.box ((stpC ⟨0,inn,out,nm,cells,amt⟩).map .dat) (some 70),.clo 129 [.one (.ptr 4 0)],mN p.2])
     (fun p=>p.1<=T.length/\dupT H T []=dupT H (T.drop p.1) p.2) (fun p=>T.length-p.1) (0,[]) ⟨Nat.zero_le _,rfl⟩ ?_ ?_
    . refine hg ?_;exact sS
    rintro ⟨i,m⟩ ⟨h1,h2⟩;dsimp only at h1 h2;refine hg ?_;refine vdi (fun hlt _=>?_) (fun hlt _=>?_)
    . have hlt':i<T.length:=by omega
      rw [zn8 hlt',dupT] at h2
      replace h2:dupT H T []=bif (vlc tgE H ((T.getD i default).1,(T.getD i default).2)).isSome||(vlc tgE m ((T.getD i default).1,(T.getD i default).2)).isSome then true else dupT H (T.drop (i+1)) (updG tgE m ((T.getD i default).1,(T.getD i default).2) ()):=h2
      cases hA:vlc tgE H ((T.getD i default).1,(T.getD i default).2)<;>cases hB:vlc tgE m ((T.getD i default).1,(T.getD i default).2)
      . rw [hA,hB] at h2;have h3:dupT H T []=dupT H (T.drop (i+1)) (updG tgE m ((T.getD i default).1,(T.getD i default).2) ()):=h2;clear h2;refine hg2 @hA @hB ?_
        repeat' ((first | refine hfk ?_ ?_<;>intros | refine hik ?_)<;>refine hgS ?_)
        refine ⟨(i+1,updG tgE m ((T.getD i default).1,(T.getD i default).2) ()),⟨by dsimp only;omega,h3⟩,by dsimp only;omega,?_⟩;refine StH.cutN [2,17,95,96,97] 8 rfl ?_ ?_
        . refine hg ?_
          first | exact trivial | rfl
        exact sS
      all_goals
       have h3:dupT H T []=true:=by rw [h2,hA,hB];rfl
       clear h2;refine hg2 @hA @hB ?_
       repeat' ((first | refine hfk ?_ ?_<;>intros | refine hik ?_)<;>refine hgS ?_)
       exact StH.vf8 rfl (by kernel_rfl) (by first | (simp [*];done) | (simp only [v2l,w4r, *,cond_true,cond_false,Bool.and_false,Bool.false_and,Bool.and_true,Bool.true_and,Bool.or_false,Bool.false_or,Bool.or_true,Bool.true_or,Option.isNone_none,Option.isNone_some,Option.getD_none,Option.getD_some,Bool.not_true,Bool.not_false];done) | (simp only [v2l,w4r, *,cond_true,cond_false,Bool.and_false,Bool.false_and,Bool.and_true,Bool.true_and,Bool.or_false,Bool.false_or,Bool.or_true,Bool.true_or,Option.isNone_none,Option.isNone_some,Option.getD_none,Option.getD_some,Bool.not_true,Bool.not_false];rfl))
    . have h3:dupT H T []=false:=by rw [h2,List.drop_eq_nil_of_le (by omega)];rfl
      clear h2;refine hg ?_
      repeat' ((first | refine hfk ?_ ?_<;>intros | refine hik ?_)<;>refine hgS ?_)
      exact StH.vf8 rfl (by kernel_rfl) (by first | (simp [*];done) | (simp only [*,cond_false,Bool.and_true,Bool.or_false,Option.isNone_none,Bool.not_true];rfl))
 . have hk0:=decide_eq_false hk;generalize xvm ⟨k,inn,out,nm,cells,amt⟩=T at *
   cases hN:vlc tgE N (k,nm)<;>cases hI:yvz I nm
   all_goals
    refine hg ?_
    repeat' ((first | refine hfk ?_ ?_<;>intros | refine hik ?_)<;>refine hgS ?_)
   all_goals try (exfalso;omega)
   all_goals try exact StH.vf8 rfl (by kernel_rfl) (by first | (simp [*];done) | (simp only [v2l,w4r, *,cond_true,cond_false,Bool.and_false,Bool.false_and,Bool.and_true,Bool.true_and,Bool.or_false,Bool.false_or,Bool.or_true,Bool.true_or,Option.isNone_none,Option.isNone_some,Option.getD_none,Option.getD_some,Bool.not_true,Bool.not_false];done) | (simp only [v2l,w4r, *,cond_true,cond_false,Bool.and_false,Bool.false_and,Bool.and_true,Bool.true_and,Bool.or_false,Bool.false_or,Bool.or_true,Bool.true_or,Option.isNone_none,Option.isNone_some,Option.getD_none,Option.getD_some,Bool.not_true,Bool.not_false];rfl))
   all_goals
    refine xmm (z00.roN [0,1,2,4,6] hcon (by decide) rfl (yfr C I N _ rfl rfl rfl rfl rfl)) ?_;refine hg ?_
    repeat' ((first | refine hfk ?_ ?_<;>intros | refine hik ?_ | with_reducible first | refine w5a (ht) ?_ | refine xqd (ht) ?_)<;>refine hgS ?_)
   all_goals try exact StH.vf8 rfl (by kernel_rfl) (by first | (simp [*];done) | (simp only [v2l,w4r, *,cond_true,cond_false,Bool.and_false,Bool.false_and,Bool.and_true,Bool.true_and,Bool.or_false,Bool.false_or,Bool.or_true,Bool.true_or,Option.isNone_none,Option.isNone_some,Option.getD_none,Option.getD_some,Bool.not_true,Bool.not_false];done) | (simp only [v2l,w4r, *,cond_true,cond_false,Bool.and_false,Bool.false_and,Bool.and_true,Bool.true_and,Bool.or_false,Bool.false_or,Bool.or_true,Bool.true_or,Option.isNone_none,Option.isNone_some,Option.getD_none,Option.getD_some,Bool.not_true,Bool.not_false];rfl))
   all_goals
    refine vi3 [2,17,95,96] (fun p:Nat×Mn=>[(97,.one (.dat (cI p.1)))]) (fun p=>wrBs C I N H++[itB 0 1 2,.box ((stpC ⟨k,inn,out,nm,cells,amt⟩).map .dat) (some 70),.clo 129 [.one (.ptr 4 0)],mN p.2])
     (fun p=>p.1<=T.length/\dupT H T []=dupT H (T.drop p.1) p.2) (fun p=>T.length-p.1) (0,[]) ⟨Nat.zero_le _,rfl⟩ ?_ ?_
    . refine hg ?_;exact sS
    rintro ⟨i,m⟩ ⟨h1,h2⟩;dsimp only at h1 h2;refine hg ?_;refine vdi (fun hlt _=>?_) (fun hlt _=>?_)
    . have hlt':i<T.length:=by omega
      rw [zn8 hlt',dupT] at h2
      replace h2:dupT H T []=bif (vlc tgE H ((T.getD i default).1,(T.getD i default).2)).isSome||(vlc tgE m ((T.getD i default).1,(T.getD i default).2)).isSome then true else dupT H (T.drop (i+1)) (updG tgE m ((T.getD i default).1,(T.getD i default).2) ()):=h2
      cases hA:vlc tgE H ((T.getD i default).1,(T.getD i default).2)<;>cases hB:vlc tgE m ((T.getD i default).1,(T.getD i default).2)
      . rw [hA,hB] at h2;have h3:dupT H T []=dupT H (T.drop (i+1)) (updG tgE m ((T.getD i default).1,(T.getD i default).2) ()):=h2;clear h2;refine hg2 @hA @hB ?_
        repeat' ((first | refine hfk ?_ ?_<;>intros | refine hik ?_)<;>refine hgS ?_)
        refine ⟨(i+1,updG tgE m ((T.getD i default).1,(T.getD i default).2) ()),⟨by dsimp only;omega,h3⟩,by dsimp only;omega,?_⟩;refine StH.cutN [2,17,95,96,97] 8 rfl ?_ ?_
        . refine hg ?_
          first | exact trivial | rfl
        exact sS
      all_goals
       have h3:dupT H T []=true:=by rw [h2,hA,hB];rfl
       clear h2;refine hg2 @hA @hB ?_
       repeat' ((first | refine hfk ?_ ?_<;>intros | refine hik ?_)<;>refine hgS ?_)
       exact StH.vf8 rfl (by kernel_rfl) (by first | (simp [*];done) | (simp only [v2l,w4r, *,cond_true,cond_false,Bool.and_false,Bool.false_and,Bool.and_true,Bool.true_and,Bool.or_false,Bool.false_or,Bool.or_true,Bool.true_or,Option.isNone_none,Option.isNone_some,Option.getD_none,Option.getD_some,Bool.not_true,Bool.not_false];done) | (simp only [v2l,w4r, *,cond_true,cond_false,Bool.and_false,Bool.false_and,Bool.and_true,Bool.true_and,Bool.or_false,Bool.false_or,Bool.or_true,Bool.true_or,Option.isNone_none,Option.isNone_some,Option.getD_none,Option.getD_some,Bool.not_true,Bool.not_false];rfl))
    . have h3:dupT H T []=false:=by rw [h2,List.drop_eq_nil_of_le (by omega)];rfl
      clear h2;refine hg ?_
      repeat' ((first | refine hfk ?_ ?_<;>intros | refine hik ?_)<;>refine hgS ?_)
      exact StH.vf8 rfl (by kernel_rfl) (by first | (simp [*];done) | (simp only [*,cond_false,Bool.and_true,Bool.or_false,Option.isNone_none];rfl))
def yzt (H:Mb) (c:Int) (s:ByteArray):Bool:=(vlc tgE H (2+c,s)).isNone
abbrev g1B (H:Mb):List SB:=[mK H,.box [.mp 0] (some 148)]
theorem weo (H:Mb) (c:Int) (s:ByteArray) (hc:c=0\/c=1\/c=5):z00 Γ prog 131 (g1B H) [.one (.dat (cI c)),.one (.dat (cS s)),.one (.ptr 1 0)] (g1B H) (.one (.dat (cB (yzt H c s)))):=by
 unfold yzt
 obtain rfl | rfl | rfl:=hc
 . show z00 _ _ _ _ _ _ (.one (.dat (cB (vlc tgE H (2,s)).isNone)))
   cases hl:vlc tgE H (2,s)
   all_goals
    refine hEh [] func131 f131.eq_1 ?_
    repeat' first | refine hF ?_ ?_<;>intros | refine hI ?_
    refine hg1 @hl ?_
    repeat' first | refine hF ?_ ?_<;>intros | refine hI ?_
    exact sS
 . show z00 _ _ _ _ _ _ (.one (.dat (cB (vlc tgE H (3,s)).isNone)))
   cases hl:vlc tgE H (3,s)
   all_goals
    refine hEh [] func131 f131.eq_1 ?_
    repeat' first | refine hF ?_ ?_<;>intros | refine hI ?_
    refine hg1 @hl ?_
    repeat' first | refine hF ?_ ?_<;>intros | refine hI ?_
    exact sS
 . show z00 _ _ _ _ _ _ (.one (.dat (cB (vlc tgE H (7,s)).isNone)))
   cases hl:vlc tgE H (7,s)
   all_goals
    refine hEh [] func131 f131.eq_1 ?_
    repeat' first | refine hF ?_ ?_<;>intros | refine hI ?_
    refine hg1 @hl ?_
    repeat' first | refine hF ?_ ?_<;>intros | refine hI ?_
    exact sS
abbrev g2B (H:Mb) (x:Rcp):List SB:=[mK H,.box [.mp 0] (some 148),.box ((rcpC x).map .dat) (some 67),.clo 131 [.one (.ptr 1 0)],.box [.fnr 3] (some 220)]
theorem xui (H:Mb) (x:Rcp):∀ r:Nat->Nat,(∀ i,i<(g2B H x).length->r i=i)->(g2B H x).map (rnSB r)=g2B H x:=fun r hr=>by
 show [rnSB r (mK H),SB.box [.mp (r 0)] _,_,SB.clo _ [SV.one (.ptr (r 1) 0)],SB.box [.fnr (r 3)] _]=_;rw [hr 0 (by show 0<5;decide),hr 1 (by show 1<5;decide),hr 3 (by show 3<5;decide),yh3];rfl
theorem z0d (H:Mb):∀ r:Nat->Nat,(∀ i,i<(g1B H).length->r i=i)->(g1B H).map (rnSB r)=g1B H:=fun r hr=>by
 show [rnSB r (mK H),SB.box [.mp (r 0)] _]=_;rw [hr 0 (by show 0<2;decide),yh3]
def gapI (H:Mb) (k:ByteArray) (y:Inp):Bool:=seq y.kind k&&yzt H 0 y.name
def gapM (H:Mb) (y:Imp):Bool:=yzt H 1 y.name
def gapP (H:Mb) (y:Por):Bool:=yzt H 5 y.name
theorem zxx (H:Mb) (x:Rcp) (y:Inp):z00 Γ prog 133 (g2B H x) [.agg ((inpC y).map .dat),.one (.ptr 2 0),.one (.ptr 4 0)] (g2B H x) (.one (.dat (cB (gapI H x.kind y)))):=by
 unfold gapI;have h1:=weo (Γ:=Γ) H 0 y.name (.inl rfl);generalize yzt H 0 y.name=q at *;refine hEh [] func133 f133.eq_1 ?_
 repeat' first | refine hF ?_ ?_<;>intros | refine hI ?_
 . refine xmm (z00.preN h1 (z0d H) rfl rfl) ?_;refine hg ?_
   repeat' first | refine hF ?_ ?_<;>intros | refine hI ?_
   exact StH.vf8 rfl (by kernel_rfl) (by simp [*])
 . exact StH.vf8 rfl (by kernel_rfl) (by simp [*])
theorem xf3 (H:Mb) (x:Rcp) (y:Imp):z00 Γ prog 135 (g2B H x) [.agg ((impC y).map .dat),.one (.ptr 4 0)] (g2B H x) (.one (.dat (cB (gapM H y)))):=by
 unfold gapM;have h1:=weo (Γ:=Γ) H 1 y.name (.inr (.inl rfl));generalize yzt H 1 y.name=q at *;refine hEh [] func135 f135.eq_1 ?_
 repeat' first | refine hF ?_ ?_<;>intros | refine hI ?_
 refine xmm (z00.preN h1 (z0d H) rfl rfl) ?_;refine hg ?_
 repeat' first | refine hF ?_ ?_<;>intros | refine hI ?_
 exact StH.vf8 rfl (by kernel_rfl) rfl
theorem wt1 (H:Mb) (x:Rcp) (y:Por):z00 Γ prog 137 (g2B H x) [.agg ((porC y).map .dat),.one (.ptr 4 0)] (g2B H x) (.one (.dat (cB (gapP H y)))):=by
 unfold gapP;have h1:=weo (Γ:=Γ) H 5 y.name (.inr (.inr rfl));generalize yzt H 5 y.name=q at *;refine hEh [] func137 f137.eq_1 ?_
 repeat' first | refine hF ?_ ?_<;>intros | refine hI ?_
 refine xmm (z00.preN h1 (z0d H) rfl rfl) ?_;refine hg ?_
 repeat' first | refine hF ?_ ?_<;>intros | refine hI ?_
 exact StH.vf8 rfl (by kernel_rfl) rfl
theorem vuh (l:List Inp) (H:Mb) (x:Rcp) (hl:l.length<=1073741824) :
 z00 Γ prog 119 (g2B H x++[.clo 133 [.one (.ptr 2 0),.one (.ptr 4 0)]]) [.one (.dat (.sl 3 (l.map Inp.C))),.one (.fnr 5)] (g2B H x++[.clo 133 [.one (.ptr 2 0),.one (.ptr 4 0)]]) (.one (.dat (cI (idxF (gapI H x.kind) l)))):=by
 refine hEh [] func119 f119.eq_1 ?_;refine vi3 [0,1,7] (fun i:Nat=>[(8,.one (.dat (cI i)))]) (fun _=>g2B H x++[.clo 133 [.one (.ptr 2 0),.one (.ptr 4 0)]]) (fun i=>i<=l.length/\∀ j,j<i->(gapI H x.kind) (l.getD j default)=false) (fun i=>l.length-i) 0 ⟨Nat.zero_le _,fun j hj=>by omega⟩ ?_ ?_
 . refine hg ?_;exact sS
 intro i hi;obtain ⟨hi,hj⟩:=hi;refine hg ?_;refine vdi (fun hlt _=>?_) (fun hlt _=>?_)
 . have hlt':i<l.length:=by omega
   have hy:=vdv hlt';have hb:=zxx (Γ:=Γ) H x (l.getD i default);refine hg ?_
   repeat' first | refine hF ?_ ?_<;>intros | refine hI ?_
   refine xmm (z00.preN (ξ:=[.clo 133 [.one (.ptr 2 0),.one (.ptr 4 0)]]) hb (xui H x) rfl rfl) ?_;generalize hp:(gapI H x.kind) (l.getD i default)=q at *;clear hb;refine hg ?_
   repeat' first | refine hF ?_ ?_<;>intros | refine hI ?_
   . rename_i hq;rw [(v04 hi hj).2 hlt' (by rw [hp];exact hq)];exact sS
   . rename_i hq;exact ⟨i+1,⟨by omega,za5 hj (by rw [hp];simpa using hq)⟩,by omega,sS⟩
 . rw [(v04 hi hj).1 (by omega)];refine hg ?_
   repeat' first | refine hF ?_ ?_<;>intros | refine hI ?_
   exact sS
theorem yga (l:List Inp) (H:Mb) (x:Rcp) (hl:l.length<=1073741824) :
 z00 Γ prog 132 (g2B H x++[.clo 133 [.one (.ptr 2 0),.one (.ptr 4 0)]]) [.one (.dat (.sl 3 (l.map Inp.C))),.one (.fnr 5)] (g2B H x++[.clo 133 [.one (.ptr 2 0),.one (.ptr 4 0)]]) (.one (.dat (cB (l.any (gapI H x.kind))))):=by
 have h:=vuh (Γ:=Γ) l H x hl;refine hEh [] func132 f132.eq_1 ?_
 repeat' first | refine hF ?_ ?_<;>intros | refine hI ?_
 refine xmm h ?_;clear h;refine hg ?_
 repeat' first | refine hF ?_ ?_<;>intros | refine hI ?_
 exact StH.same (by rw [<-vx3];exact .cons (.refl _) .nil) rfl
theorem yjp (H:Mb) (x:Rcp) (η:List SB) (h0:η[0]? = some (mK H)) (h1:η[3]? = some (.box [.mp 0] (some 148))) (h2:η[2]? = some (.box ((rcpC x).map .dat) (some 67))) (h3:η[4]? = some (.clo 131 [.one (.ptr 3 0)])) (h4:η[5]? = some (.box [.fnr 4] (some 220))) (h5:η[6]? = some (.clo 133 [.one (.ptr 2 0),.one (.ptr 5 0)])) :
 [0,3,2,4,5,6].map (fun j=>η[j]?)=(g2B H x++[SB.clo 133 [.one (.ptr 2 0),.one (.ptr 4 0)]]).map (fun y=>some (rnSB (atR [0,3,2,4,5,6] η.length) y)):=by
 show [η[0]?,η[3]?,η[2]?,η[4]?,η[5]?,η[6]?]=[some (rnSB _ (mK H)),_,_,_,_,_];rw [yh3,h0,h1,h2,h3,h4,h5];rfl
theorem xpz (l:List Imp) (H:Mb) (x:Rcp) (hl:l.length<=1073741824) :
 z00 Γ prog 121 (g2B H x++[.clo 135 [.one (.ptr 4 0)]]) [.one (.dat (.sl 6 (l.map Imp.C))),.one (.fnr 5)] (g2B H x++[.clo 135 [.one (.ptr 4 0)]]) (.one (.dat (cI (idxF (gapM H) l)))):=by
 refine hEh [] func121 f121.eq_1 ?_;refine vi3 [0,1,7] (fun i:Nat=>[(8,.one (.dat (cI i)))]) (fun _=>g2B H x++[.clo 135 [.one (.ptr 4 0)]]) (fun i=>i<=l.length/\∀ j,j<i->(gapM H) (l.getD j default)=false) (fun i=>l.length-i) 0 ⟨Nat.zero_le _,fun j hj=>by omega⟩ ?_ ?_
 . refine hg ?_;exact sS
 intro i hi;obtain ⟨hi,hj⟩:=hi;refine hg ?_;refine vdi (fun hlt _=>?_) (fun hlt _=>?_)
 . have hlt':i<l.length:=by omega
   have hy:=vdv hlt';have hb:=xf3 (Γ:=Γ) H x (l.getD i default);refine hg ?_
   repeat' first | refine hF ?_ ?_<;>intros | refine hI ?_
   refine xmm (z00.preN (ξ:=[.clo 135 [.one (.ptr 4 0)]]) hb (xui H x) rfl rfl) ?_;generalize hp:(gapM H) (l.getD i default)=q at *;clear hb;refine hg ?_
   repeat' first | refine hF ?_ ?_<;>intros | refine hI ?_
   . rename_i hq;rw [(v04 hi hj).2 hlt' (by rw [hp];exact hq)];exact sS
   . rename_i hq;exact ⟨i+1,⟨by omega,za5 hj (by rw [hp];simpa using hq)⟩,by omega,sS⟩
 . rw [(v04 hi hj).1 (by omega)];refine hg ?_
   repeat' first | refine hF ?_ ?_<;>intros | refine hI ?_
   exact sS
theorem ywx (l:List Imp) (H:Mb) (x:Rcp) (hl:l.length<=1073741824) :
 z00 Γ prog 134 (g2B H x++[.clo 135 [.one (.ptr 4 0)]]) [.one (.dat (.sl 6 (l.map Imp.C))),.one (.fnr 5)] (g2B H x++[.clo 135 [.one (.ptr 4 0)]]) (.one (.dat (cB (l.any (gapM H))))):=by
 have h:=xpz (Γ:=Γ) l H x hl;refine hEh [] func134 f134.eq_1 ?_
 repeat' first | refine hF ?_ ?_<;>intros | refine hI ?_
 refine xmm h ?_;clear h;refine hg ?_
 repeat' first | refine hF ?_ ?_<;>intros | refine hI ?_
 exact StH.same (by rw [<-vx3];exact .cons (.refl _) .nil) rfl
theorem wxy (H:Mb) (x:Rcp) (η:List SB) (h0:η[0]? = some (mK H)) (h1:η[3]? = some (.box [.mp 0] (some 148))) (h2:η[2]? = some (.box ((rcpC x).map .dat) (some 67))) (h3:η[4]? = some (.clo 131 [.one (.ptr 3 0)])) (h4:η[5]? = some (.box [.fnr 4] (some 220))) (h5:η[7]? = some (.clo 135 [.one (.ptr 5 0)])) :
 [0,3,2,4,5,7].map (fun j=>η[j]?)=(g2B H x++[SB.clo 135 [.one (.ptr 4 0)]]).map (fun y=>some (rnSB (atR [0,3,2,4,5,7] η.length) y)):=by
 show [η[0]?,η[3]?,η[2]?,η[4]?,η[5]?,η[7]?]=[some (rnSB _ (mK H)),_,_,_,_,_];rw [yh3,h0,h1,h2,h3,h4,h5];rfl
theorem xy8 (l:List Por) (H:Mb) (x:Rcp) (hl:l.length<=1073741824) :
 z00 Γ prog 126 (g2B H x++[.clo 137 [.one (.ptr 4 0)]]) [.one (.dat (.sl 3 (l.map Por.C))),.one (.fnr 5)] (g2B H x++[.clo 137 [.one (.ptr 4 0)]]) (.one (.dat (cI (idxF (gapP H) l)))):=by
 refine hEh [] func126 f126.eq_1 ?_;refine vi3 [0,1,7] (fun i:Nat=>[(8,.one (.dat (cI i)))]) (fun _=>g2B H x++[.clo 137 [.one (.ptr 4 0)]]) (fun i=>i<=l.length/\∀ j,j<i->(gapP H) (l.getD j default)=false) (fun i=>l.length-i) 0 ⟨Nat.zero_le _,fun j hj=>by omega⟩ ?_ ?_
 . refine hg ?_;exact sS
 intro i hi;obtain ⟨hi,hj⟩:=hi;refine hg ?_;refine vdi (fun hlt _=>?_) (fun hlt _=>?_)
 . have hlt':i<l.length:=by omega
   have hy:=vdv hlt';have hb:=wt1 (Γ:=Γ) H x (l.getD i default);refine hg ?_
   repeat' first | refine hF ?_ ?_<;>intros | refine hI ?_
   refine xmm (z00.preN (ξ:=[.clo 137 [.one (.ptr 4 0)]]) hb (xui H x) rfl rfl) ?_;generalize hp:(gapP H) (l.getD i default)=q at *;clear hb;refine hg ?_
   repeat' first | refine hF ?_ ?_<;>intros | refine hI ?_
   . rename_i hq;rw [(v04 hi hj).2 hlt' (by rw [hp];exact hq)];exact sS
   . rename_i hq;exact ⟨i+1,⟨by omega,za5 hj (by rw [hp];simpa using hq)⟩,by omega,sS⟩
 . rw [(v04 hi hj).1 (by omega)];refine hg ?_
   repeat' first | refine hF ?_ ?_<;>intros | refine hI ?_
   exact sS
theorem z1j (l:List Por) (H:Mb) (x:Rcp) (hl:l.length<=1073741824) :
 z00 Γ prog 136 (g2B H x++[.clo 137 [.one (.ptr 4 0)]]) [.one (.dat (.sl 3 (l.map Por.C))),.one (.fnr 5)] (g2B H x++[.clo 137 [.one (.ptr 4 0)]]) (.one (.dat (cB (l.any (gapP H))))):=by
 have h:=xy8 (Γ:=Γ) l H x hl;refine hEh [] func136 f136.eq_1 ?_
 repeat' first | refine hF ?_ ?_<;>intros | refine hI ?_
 refine xmm h ?_;clear h;refine hg ?_
 repeat' first | refine hF ?_ ?_<;>intros | refine hI ?_
 exact StH.same (by rw [<-vx3];exact .cons (.refl _) .nil) rfl
theorem xxp (H:Mb) (x:Rcp) (η:List SB) (h0:η[0]? = some (mK H)) (h1:η[3]? = some (.box [.mp 0] (some 148))) (h2:η[2]? = some (.box ((rcpC x).map .dat) (some 67))) (h3:η[4]? = some (.clo 131 [.one (.ptr 3 0)])) (h4:η[5]? = some (.box [.fnr 4] (some 220))) (h5:η[8]? = some (.clo 137 [.one (.ptr 5 0)])) :
 [0,3,2,4,5,8].map (fun j=>η[j]?)=(g2B H x++[SB.clo 137 [.one (.ptr 4 0)]]).map (fun y=>some (rnSB (atR [0,3,2,4,5,8] η.length) y)):=by
 show [η[0]?,η[3]?,η[2]?,η[4]?,η[5]?,η[8]?]=[some (rnSB _ (mK H)),_,_,_,_,_];rw [yh3,h0,h1,h2,h3,h4,h5];rfl
def zfw (H:Mb) (p:ByteArray):Bool:=(vlc tgE H (0,p)).isNone
def x5p (H:Mb) (y:Stp):Bool:=y.out.any (zfw H)
def y8g (H:Mb) (l:List Stp):Option Nat:=(List.range l.length).find? fun i=>x5p H (l.getD i default)
def gapR (s:Sht) (x:Rcp) (H:Mb):Int×Bool:=match y8g H x.steps with
 | some i=>(i,true)
 | none=>(-1,s.inputs.any (gapI H x.kind)||s.imports.any (gapM H)||s.ports.any (gapP H))
theorem xkt {H:Mb} {l:List Stp} {i:Nat} (hi:i<l.length) (hj:∀ j,j<i->x5p H (l.getD j default)=false) (h:x5p H (l.getD i default)=true):y8g H l=some i:=by
 unfold y8g;rw [List.find?_range_eq_some];exact ⟨h,by simpa using hi,fun j hji=>by rw [hj j hji];rfl⟩
theorem v7q {H:Mb} {l:List Stp} (hj:∀ j,j<l.length->x5p H (l.getD j default)=false):y8g H l=none:=by
 unfold y8g;rw [List.find?_eq_none];intro j hj';rw [hj j (List.mem_range.1 hj')];simp
abbrev vt7 (H:Mb) (s:Sht) (x:Rcp):List SB:=[mK H,.box ((shtC s).map .dat) (some 31),.box ((rcpC x).map .dat) (some 67),.box [.mp 0] (some 148)]
theorem xxi (s:Sht) (x:Rcp) (H:Mb) (h1:s.inputs.length<=1073741824) (h2:s.imports.length<=1073741824) (h3:s.ports.length<=1073741824) (h4:x.steps.length<=1073741824) (h5:∀ y∈x.steps,y.out.length<=1073741824) :
 z00 Γ prog 81 [mK H] [.agg ((shtC s).map .dat),.agg ((rcpC x).map .dat),.one (.mp 0)] [mK H] (.tup [.one (.dat (cI (gapR s x H).1)),.one (.dat (cB (gapR s x H).2))]):=by
 have c1:=yga (Γ:=Γ) s.inputs H x h1;have c2:=ywx (Γ:=Γ) s.imports H x h2;have c3:=z1j (Γ:=Γ) s.ports H x h3;refine hEh [(12,[.clo]),(13,[.clo]),(14,[.clo]),(15,[.clo])] func81 f81.eq_1 ?_
 repeat' first | refine hF ?_ ?_<;>intros | refine hI ?_
 refine vi3 [3,4,5,17,18] (fun i:Nat=>[(19,.one (.dat (cI i)))]) (fun _=>vt7 H s x)
  (fun i=>i<=x.steps.length/\∀ j,j<i->x5p H (x.steps.getD j default)=false) (fun i=>x.steps.length-i) 0 ⟨Nat.zero_le _,fun j hj=>by omega⟩ ?_ ?_
 . refine hg ?_;exact sS
 rintro i ⟨hi,hj⟩;refine hg ?_;refine vdi (fun hlt _=>?_) (fun hlt _=>?_)
 . have hlt':i<x.steps.length:=by omega
   have hy:=h5 _ (vdv hlt');refine hg ?_
   repeat' first | refine hF ?_ ?_<;>intros | refine hI ?_
   refine vi3 [3,4,5,8,17,18,19,25,26] (fun k:Nat=>[(27,.one (.dat (cI k)))]) (fun _=>vt7 H s x++[.box ((stpC (x.steps.getD i default)).map .dat) (some 70)])
    (fun k=>k<=(x.steps.getD i default).out.length/\∀ j,j<k->zfw H ((x.steps.getD i default).out.getD j default)=false) (fun k=>(x.steps.getD i default).out.length-k) 0 ⟨Nat.zero_le _,fun j hj=>by omega⟩ ?_ ?_
   . refine hg ?_;exact sS
   rintro k ⟨hk,hkj⟩;refine hg ?_;refine vdi (fun hlt2 _=>?_) (fun hlt2 _=>?_)
   . have hlt3:k<(x.steps.getD i default).out.length:=by omega
     cases hl:vlc tgE H (0,(x.steps.getD i default).out.getD k default) with
     | none=>
      have hm:zfw H ((x.steps.getD i default).out.getD k default)=true:=by unfold zfw;rw [hl];rfl
      have hu:y8g H x.steps=some i:=xkt hlt' hj (vkk hlt3 hm);unfold gapR;rw [hu];clear c1 c2 c3 hm hu hj hkj;refine hg1 @hl ?_
      repeat' first | refine hF ?_ ?_<;>intros | refine hI ?_
      exact StH.vf8 rfl (by kernel_rfl) rfl
     | some q=>
      have hm:zfw H ((x.steps.getD i default).out.getD k default)=false:=by unfold zfw;rw [hl];rfl
      refine hg1 @hl ?_
      repeat' first | refine hF ?_ ?_<;>intros | refine hI ?_
      exact ⟨k+1,⟨by omega,za5 hkj hm⟩,by omega,sS⟩
   . have hm:x5p H (x.steps.getD i default)=false:=xd1 (fun j hjl=>hkj j (by omega));refine hg ?_
     repeat' first | refine hF ?_ ?_<;>intros | refine hI ?_
     refine ⟨i+1,⟨by omega,za5 hj hm⟩,by omega,?_⟩;refine StH.cutN [3,4,5,17,18,19] 4 rfl ?_ ?_
     . refine hg ?_
       first | exact trivial | rfl
     exact sS
 have hu:y8g H x.steps=none:=v7q (fun j hjl=>hj j (by omega));unfold gapR;rw [hu];clear hu hj;dsimp only;generalize s.inputs.any (gapI H x.kind)=b1 at *;generalize s.imports.any (gapM H)=b2 at *;generalize s.ports.any (gapP H)=b3 at *;refine hg ?_
 repeat' first | refine hF ?_ ?_<;>intros | refine hI ?_
 refine xmm (z00.roN [0,3,2,4,5,6] c1 (by decide) rfl (yjp H x _ rfl rfl rfl rfl rfl rfl)) ?_;refine hg ?_
 repeat' first | refine hF ?_ ?_<;>intros | refine hI ?_
 all_goals try (refine xmm (z00.roN [0,3,2,4,5,7] c2 (by decide) rfl (wxy H x _ rfl rfl rfl rfl rfl rfl)) ?_)
 all_goals
  refine hg ?_
  repeat' first | refine hF ?_ ?_<;>intros | refine hI ?_
 . refine xmm (z00.roN [0,3,2,4,5,8] c3 (by decide) rfl (xxp H x _ rfl rfl rfl rfl rfl rfl)) ?_;refine hg ?_
   repeat' first | refine hF ?_ ?_<;>intros | refine hI ?_
   exact StH.vf8 rfl (by kernel_rfl) (by simp [*])
 . exact StH.vf8 rfl (by kernel_rfl) (by simp [*])
 . exact StH.vf8 rfl (by kernel_rfl) (by simp [*])
end Go.Hp.T
