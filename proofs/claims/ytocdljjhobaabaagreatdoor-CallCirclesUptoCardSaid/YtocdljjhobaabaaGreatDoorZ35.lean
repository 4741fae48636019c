/- The proof, part Z35: P4, Pn, 1z, 2a, Ja, Jb. -/
import Derived.Test.YtocdljjhobaabaaGreatDoorZ34
import Derived.Test.YtocdljjhobaabaaGreatDoorZ33
import Derived.Test.YtocdljjhobaabaaGreatDoorZ11
import Derived.WalkKit
import Derived.ProofKit
import Derived.OpenShut
import Derived.JoinedCond
import Derived.ChangeBook
import Derived.ChangeStays
namespace Go.Hp.T
open Go Go.RowKit Go.Slot Go.Hp Go.Slot.T
open Go.Proofs.Tryz (prog)
attribute [local irreducible] hide RH
set_option maxRecDepth 10000
set_option maxHeartbeats 8000000
variable {Γ:List (Nat×List Cell)}
theorem v2p:∀(k:Nat) (l:List Int),l.length<=k->∀ r,quoL l=some r->r.2<=l.length
 | 0,l,h,r,hr=>by
  have e:l=[]:=List.eq_nil_of_length_eq_zero (by omega);rw [e,xxh] at hr;cases hr
 | k+1,[],_,r,hr=>by rw [xxh] at hr;cases hr
 | k+1,c::l,h,r,hr=>by
  have h:l.length<=k:=by simpa using h
  cases hp:yuk c with
  | false=>rw [vgo hp] at hr;cases hr
  | true=>
   by_cases h34:c=34
   . subst h34;rw [xz0] at hr;cases hr;simp
   . by_cases h92:c=92
     . subst h92
       cases l with
       | nil=>rw [vnt] at hr;cases hr
       | cons d m=>
        by_cases hd:d=34\/d=92
        . rw [vhk hd] at hr;obtain ⟨q,h1,rfl⟩:=Option.map_eq_some_iff.1 hr
          have:=v2p k m (by simp at h;omega) q h1
          simp;omega
        . rw [xn8 (fun h=>hd (.inl h)) (fun h=>hd (.inr h))] at hr;cases hr
     . rw [zji hp h34 h92] at hr;obtain ⟨q,h1,rfl⟩:=Option.map_eq_some_iff.1 hr
       have:=v2p k l h q h1
       simp;omega
theorem xyp {p:Int->Bool} {l:List Int} (hl:l≠[]) (h:p (l.headD 0)=true):1<=(l.takeWhile p).length:=by
 cases l with
 | nil=>exact absurd rfl hl
 | cons c l=>
  have h:p c=true:=h;rw [List.takeWhile_cons_of_pos h];simp
theorem xmj {l:List Int} (hl:l≠[]) (h:(w4x l).2.2=0):1<=(w4x l).2.1/\(w4x l).2.1<=l.length:=by
 unfold w4x at h ⊢
 cases h1:zlq (l.headD 0) with
 | true=>
  rw [h1] at h;rw [cond_true] at h ⊢
  cases h2:decide (((l.takeWhile waz).length:Int)<=20) with
  | true=>exact ⟨xyp hl (wcf h1),v8m _ _⟩
  | false=>rw [h2] at h;cases h
 | false=>
  rw [h1] at h;rw [cond_false] at h ⊢
  cases h3:isDigit (l.headD 0) with
  | true=>
   rw [h3] at h;rw [cond_true] at h ⊢
   cases h2:numO (l.takeWhile isDigit) with
   | true=>exact ⟨xyp hl h3,v8m _ _⟩
   | false=>rw [h2] at h;cases h
  | false=>
   rw [h3] at h;rw [cond_false] at h ⊢
   cases h4:decide (l.headD 0=34) with
   | true=>
    rw [h4] at h;rw [cond_true] at h ⊢
    cases hq:quoL l.tail with
    | none=>rw [hq] at h;cases h
    | some r=>
     obtain ⟨v,n⟩:=r
     have:=v2p _ _ (Nat.le_refl _) _ hq
     rw [hq] at h;simp only at h this ⊢
     cases h5:decide (400<(v.length:Int)) with
     | true=>rw [h5] at h;cases h
     | false=>
      rw [List.length_tail] at this
      have:0<l.length:=List.length_pos_iff.2 hl
      rw [cond_false];simp only;omega
   | false=>
    rw [h4] at h;rw [cond_false] at h ⊢
    cases h6:yjn (l.headD 0) with
    | true=>exact ⟨Nat.le_refl _,List.length_pos_iff.2 hl⟩
    | false=>rw [h6] at h;cases h
def apS (acc:List Tk):Sn->Sn
 | .inl ts=>.inl (acc++ts)
 | .inr x=>.inr x
theorem vfl (a b:List Tk) (r:Sn):apS a (apS b r)=apS (a++b) r:=by
 cases r with
 | inl ts=>simp [apS]
 | inr x=>rfl
theorem xya {f:Nat} {l:List Int} {a:Nat} (h:l.length<=gapL (l.length+1) l):wgu (f+1) l a=.inl []:=by
 rw [wgu];simp only;rw [List.drop_eq_nil_of_le h];rfl
theorem xrm {f:Nat} {l:List Int} {a:Nat} (h:gapL (l.length+1) l<l.length) (he:¬(w4x (l.drop (gapL (l.length+1) l))).2.2=0):wgu (f+1) l a=.inr (a+gapL (l.length+1) l,(w4x (l.drop (gapL (l.length+1) l))).2.2):=by
 rw [wgu];simp only;rw [show (l.drop (gapL (l.length+1) l)).isEmpty=false by rw [List.isEmpty_eq_false_iff_exists_mem];exact ⟨_,List.getElem_mem (show 0<(l.drop (gapL (l.length+1) l)).length by rw [List.length_drop];omega)⟩,cond_false,decide_eq_true he];rfl
theorem v3v {f:Nat} {l:List Int} {a:Nat} (h:gapL (l.length+1) l<l.length) (he:(w4x (l.drop (gapL (l.length+1) l))).2.2=0) :
 wgu (f+1) l a=apS [{ (w4x (l.drop (gapL (l.length+1) l))).1 with p:=((a+gapL (l.length+1) l:Nat):Int) }] (wgu f (l.drop (gapL (l.length+1) l+(w4x (l.drop (gapL (l.length+1) l))).2.1)) (a+gapL (l.length+1) l+(w4x (l.drop (gapL (l.length+1) l))).2.1)):=by
 rw [wgu];simp only;rw [show (l.drop (gapL (l.length+1) l)).isEmpty=false by rw [List.isEmpty_eq_false_iff_exists_mem];exact ⟨_,List.getElem_mem (show 0<(l.drop (gapL (l.length+1) l)).length by rw [List.length_drop];omega)⟩,cond_false,decide_eq_false (fun h=>h he),cond_false]
 cases wgu f (l.drop (gapL (l.length+1) l+(w4x (l.drop (gapL (l.length+1) l))).2.1)) (a+gapL (l.length+1) l+(w4x (l.drop (gapL (l.length+1) l))).2.1)<;>rfl
theorem vz1 (s:ByteArray) (hG:ws6 Γ 0=.elt sgC) (hs:s.size<=1073741824):CallsD Γ prog 66 [.one (cS s)] (snR (zna s)):=by
 have cg:∀ a,a<=s.size->CallsD Γ prog 99 [.one (cS (ykb s a))] (.one (cI (gapL (((z1x s).drop a).length+1) ((z1x s).drop a)))):=fun a ha=>by
  have:=cGap (Γ:=Γ) (ykb s a) (by rw [wco];omega)
  rw [vgx,wco,<-v54,<-List.length_drop] at this;exact this
 have cn:∀ a,a<s.size->CallsD Γ prog 100 [.one (cS (ykb s a))] (nxR (w4x ((z1x s).drop a))):=fun a ha=>by
  have:=vci (Γ:=Γ) (ykb s a) hG (by rw [wco];omega) (by rw [wco];omega)
  rw [vgx] at this;exact this
 have hlen:∀ a,((z1x s).drop a).length=s.size-a:=fun a=>by rw [List.length_drop,v54]
 unfold zna;by_cases h4:4000<(s.size:Int)
 . rw [decide_eq_true h4];clear cg cn hlen;refine CallsD.run [] Go.Proofs.Tryz.func66 rfl rfl rfl ?_;simp only [Go.Proofs.Tryz.f66];refine hgR ?_
   repeat' ((first | refine hfk ?_ ?_<;>intros | refine hik ?_)<;>refine hgS ?_)
   all_goals first
    | (exfalso;omega)
    | exact .tup (.cons (.one (.nilSl _)) (.cons (.refl _) (.cons (.refl _) .nil)))
 . rw [decide_eq_false h4,cond_false];generalize hR:wgu (s.size+1) (z1x s) 0=R;refine CallsD.run [] Go.Proofs.Tryz.func66 rfl rfl rfl ?_;simp only [Go.Proofs.Tryz.f66];refine hgR ?_
   repeat' ((first | refine hfk ?_ ?_<;>intros | refine hik ?_)<;>refine hgS ?_)
   all_goals try (exfalso;omega)
   refine yxw [0] (fun x:Nat×List Tk=>[(5,.one (.sl 0 4 0 x.2.length)),(6,.one (.dat (cI x.1)))]) (fun x=>[.arr (.sl 4 (x.2.map Tk.C)) 0 (some 134)])
    (fun x=>x.1<=s.size/\x.2.length<=x.1/\∃ f,s.size-x.1<f/\apS x.2 (wgu f ((z1x s).drop x.1) x.1)=R) (fun x=>s.size-x.1) (0,[]) ⟨Nat.zero_le _,Nat.le_refl _,s.size+1,by omega,by rw [List.drop_zero,hR];cases R<;>rfl⟩ ?_ ?_
   . refine hg ?_;refine StH.trans (StH.empty (d:=5) (es:=4) (c:=.sl 4 []) (T:=some 134) rfl rfl (fun r hr=>by cases hr) rfl) ?_;refine hg ?_;exact StH.same svl rfl
   rintro ⟨a,ts⟩ ⟨a1,a2,f,a3,a4⟩;simp only at a1 a2 a3 a4;clear hR h4;obtain ⟨f,rfl⟩:∃ g,f=g+1:=⟨f-1,by omega⟩;have c1:=cg a a1;have hgl:=zyo (((z1x s).drop a).length+1) ((z1x s).drop a);have hl:=hlen a
   have e1:=fun h=>xya (f:=f) (a:=a) (l:=(z1x s).drop a) h
   have e2:=fun h h'=>xrm (f:=f) (a:=a) (l:=(z1x s).drop a) h h'
   have e3:=fun h h'=>v3v (f:=f) (a:=a) (l:=(z1x s).drop a) h h'
   have nb:=fun hne h=>xmj (l:=((z1x s).drop a).drop (gapL (((z1x s).drop a).length+1) ((z1x s).drop a))) hne h
   have c2:=fun h=>cn (a+gapL (((z1x s).drop a).length+1) ((z1x s).drop a)) h
   clear cn cg;rw [<-List.drop_drop] at c2;generalize gapL (((z1x s).drop a).length+1) ((z1x s).drop a)=g at *;rw [hl] at hgl
   have et:((a:Int)+(g:Int)).toNat=a+g:=by omega
   by_cases hgp:g<((z1x s).drop a).length
   . rw [hl] at hgp;have c3:=c2 (by omega);clear c2
     replace nb:=nb (fun h=>by have:=congrArg List.length h;rw [List.length_drop,hl] at this;simp at this;omega)
     by_cases he:(w4x (((z1x s).drop a).drop g)).2.2=0
     . have t3:=e3 (by rw [hl];exact hgp) he;have nn:=nb he;rw [List.length_drop,hl] at nn;clear e1 e2 e3 nb;generalize w4x (((z1x s).drop a).drop g)=r at *;obtain ⟨⟨k,t,n,q⟩,m,e⟩:=r;simp only at he nn t3 c3;subst he;rw [t3,vfl,List.drop_drop] at a4;clear t3;refine hg ?_
       repeat' ((first | refine hfk ?_ ?_<;>intros | refine hik ?_ | with_reducible first | refine v47 (c1) ?_ | refine vrf (c1) ?_ | refine v47 (c3) ?_ | refine vrf (c3) ?_)<;>refine hgS ?_)
       all_goals try (exfalso;omega)
       refine ⟨(a+g+m,ts++[⟨k,t,n,(a:Int)+g⟩]),⟨by dsimp only;omega,by simp only [List.length_append,List.length_singleton];omega,f,by dsimp only;omega,by rw [<-a4];simp only [Nat.add_assoc,Int.natCast_add]⟩,by dsimp only;omega,?_⟩;refine StH.back [0,5,6] 0 2 1 rfl rfl rfl rfl rfl (by kernel_rfl) ?_;simp only [List.map_append,List.map_cons,List.map_nil,Tk.C_eq]
       conv=>simp (maxSteps:=2000000) (disch:=omega) only [go_sem,Nat.reduceAdd,Nat.reduceSub,Nat.reduceMul,Int.reduceToNat,Nat.reduceEqDiff,Nat.reduceBEq,Nat.reduceBneDiff,Nat.reduceLT,Int.reduceEq,Int.reduceLT,Int.reduceLE,Int.reduceNeg,Int.reduceAdd,Int.reduceSub,Int.reduceMul,List.length_append,List.length_singleton]
       exact StH.same svl rfl
     . have t2:=e2 (by rw [hl];exact hgp) he;clear e1 e2 e3 nb;generalize w4x (((z1x s).drop a).drop g)=r at *;obtain ⟨⟨k,t,n,q⟩,m,e⟩:=r;simp only at he t2 c3;rw [t2] at a4;clear t2;subst a4;refine hg ?_
       repeat' ((first | refine hfk ?_ ?_<;>intros | refine hik ?_ | with_reducible first | refine v47 (c1) ?_ | refine vrf (c1) ?_ | refine v47 (c3) ?_ | refine vrf (c3) ?_)<;>refine hgS ?_)
       all_goals try (exfalso;omega)
       exact .tup (.cons (.one (.nilSl _)) (.cons (.refl _) (.cons (.refl _) .nil)))
   . have t1:=e1 (by omega);rw [t1] at a4;clear t1 e1 e2 e3 nb c2;subst a4;refine hg ?_
     repeat' ((first | refine hfk ?_ ?_<;>intros | refine hik ?_ | with_reducible first | refine v47 (c1) ?_ | refine vrf (c1) ?_)<;>refine hgS ?_)
     all_goals try (exfalso;omega)
     exact RLe.ofEq (by simp [apS,snR])
theorem strOfNums_size (l:List Int):(strOfNums l).size=l.length:=by
 show ((l.map fun n=>UInt8.ofNat n.toNat).toArray).size=_;simp
theorem wb7 (l:List Int):(w4x l).1.t.size<=l.length+401:=by
 have e0:(default:Tk).t.size=0:=rfl;unfold w4x
 cases zlq (l.headD 0) with
 | true=>
  rw [cond_true]
  have:=v8m waz l
  cases decide (((l.takeWhile waz).length:Int)<=20) with
  | true=>rw [cond_true];show (strOfNums _).size<=_;rw [strOfNums_size];omega
  | false=>rw [cond_false];show (default:Tk).t.size<=_;omega
 | false=>
  rw [cond_false]
  cases isDigit (l.headD 0) with
  | true=>
   rw [cond_true]
   have:=v8m isDigit l
   cases numO (l.takeWhile isDigit) with
   | true=>rw [cond_true];show (strOfNums _).size<=_;rw [strOfNums_size];omega
   | false=>rw [cond_false];show (default:Tk).t.size<=_;omega
  | false=>
   rw [cond_false]
   cases decide (l.headD 0=34) with
   | true=>
    rw [cond_true]
    cases quoL l.tail with
    | none=>show (default:Tk).t.size<=_;omega
    | some r=>
     obtain ⟨v,n⟩:=r;dsimp only;by_cases h:400<(v.length:Int)
     . rw [decide_eq_true h];show (default:Tk).t.size<=_;omega
     . rw [decide_eq_false h,cond_false];show (strOfNums _).size<=_;rw [strOfNums_size];omega
   | false=>
    rw [cond_false]
    cases yjn (l.headD 0) with
    | true=>rw [cond_true];show (strOfNums _).size<=_;rw [strOfNums_size,List.length_take];omega
    | false=>rw [cond_false];show (default:Tk).t.size<=_;omega
theorem xme:∀(f:Nat) (l:List Int) (a:Nat),(match wgu f l a with
 | .inl ts=>ts.length<=f/\∀ x∈ts,x.t.size<=l.length+401
 | .inr x=>x.2≠0)
 | 0,l,a=>⟨Nat.le_refl _,fun x h=>by cases h⟩
 | f+1,l,a=>by
  rw [wgu];dsimp only;generalize gapL (l.length+1) l=g
  cases (l.drop g).isEmpty with
  | true=>exact ⟨Nat.zero_le _,fun x h=>by cases h⟩
  | false=>
   rw [cond_false];have h1:=wb7 (l.drop g);generalize w4x (l.drop g)=r at *;obtain ⟨t,n,e⟩:=r;dsimp only at h1 ⊢;rw [List.length_drop] at h1;by_cases he:e=0
   . have h2:=xme f (l.drop (g+n)) (a+g+n);rw [decide_eq_false (fun h=>h he),cond_false];generalize wgu f (l.drop (g+n)) (a+g+n)=s at *
     cases s with
     | inr x=>exact h2
     | inl ts=>
      dsimp only at h2 ⊢;refine ⟨by rw [List.length_cons];omega,fun x hx=>?_⟩
      rcases List.mem_cons.1 hx with rfl | hx
      . show t.t.size<=_;omega
      . have:=h2.2 x hx
        rw [List.length_drop] at this;omega
   . rw [decide_eq_true he,cond_true];exact he
def vs7 (s:ByteArray):Ex×Int×Int:=match zna s with
 | .inr (p,e)=>(zE,p,e)
 | .inl ts=>
  bif decide ((y88 ts 0).2.2=0)&&decide (((y88 ts 0).2.1:Int)=ts.length) then ((y88 ts 0).1,0,0) else
  bif decide (((y88 ts 0).2.1:Int)<ts.length) then (zE,(ts.getD (y88 ts 0).2.1 default).p,bif decide ((y88 ts 0).2.2=0) then 12 else (y88 ts 0).2.2) else (zE,s.size,bif decide ((y88 ts 0).2.2=0) then 12 else (y88 ts 0).2.2)
theorem ytk (s:ByteArray) (hG:ws6 Γ 0=.elt sgC) (hs:s.size<=1073741824):CallsD Γ prog 38 [.one (cS s)] (.tup [.agg (exC (vs7 s).1),.one (cI (vs7 s).2.1),.one (cI (vs7 s).2.2)]):=by
 have c:=vz1 s hG hs
 have hk:match zna s with
  | .inl ts=>ts.length<=4001/\∀ x∈ts,x.t.size<=4401
  | .inr x=>x.2≠0:=by
  unfold zna;by_cases h4:4000<(s.size:Int)
  . rw [decide_eq_true h4];show (6:Int)≠0;decide
  . rw [decide_eq_false h4,cond_false];have h:=xme (s.size+1) (z1x s) 0;rw [v54] at h;generalize wgu (s.size+1) (z1x s) 0=r at *
    cases r with
    | inr x=>exact h
    | inl ts=>exact ⟨by have:=h.1;omega,fun x hx=>by have:=h.2 x hx;omega⟩
 unfold vs7;generalize zna s=r at *
 cases r with
 | inr x=>
  obtain ⟨p,e⟩:=x;dsimp only at hk ⊢;unfold snR at c;refine CallsD.run [] Go.Proofs.Tryz.func38 rfl rfl rfl ?_;simp only [Go.Proofs.Tryz.f38];refine hgR ?_
  repeat' ((first | refine hfk ?_ ?_<;>intros | refine hik ?_ | with_reducible first | refine v47 (c) ?_ | refine vrf (c) ?_)<;>refine hgS ?_)
  all_goals try (exfalso;simp_all;done)
  all_goals exact xr0 _ _
 | inl ts=>
  dsimp only at hk ⊢
  have r:=wnx (Γ:=Γ) ts 0 (by omega) (fun a=>by
   by_cases h:a<ts.length
   . have:=hk.2 _ (xdq h);omega
   . rw [List.getD_eq_getElem?_getD,List.getElem?_eq_none (by omega)];decide) (Nat.zero_le _)
  unfold snR at c;have hl:=hk.1;clear hk;generalize y88 ts 0=q at *;obtain ⟨x,i,e⟩:=q;dsimp only at r ⊢;by_cases h1:e=0
  . subst h1;rw [decide_eq_true rfl,Bool.true_and,cond_true];by_cases h2:(i:Int)=ts.length
    . have d2:=decide_eq_true h2;rw [d2,cond_true];clear h2;refine CallsD.run [] Go.Proofs.Tryz.func38 rfl rfl rfl ?_;simp only [Go.Proofs.Tryz.f38];refine hgR ?_
      repeat' ((first | refine hfk ?_ ?_<;>intros | refine hik ?_ | with_reducible first | refine v47 (c) ?_ | refine vrf (c) ?_ | refine v47 (r) ?_ | refine vrf (r) ?_)<;>refine hgS ?_)
      exact RLe.ofEq rfl
    . have d2:=decide_eq_false h2;rw [d2,cond_false];clear h2;by_cases h3:(i:Int)<ts.length
      . have d3:=decide_eq_true h3;rw [d3,cond_true];refine CallsD.run [] Go.Proofs.Tryz.func38 rfl rfl rfl ?_;simp only [Go.Proofs.Tryz.f38];refine hgR ?_
        repeat' ((first | refine hfk ?_ ?_<;>intros | refine hik ?_ | with_reducible first | refine v47 (c) ?_ | refine vrf (c) ?_ | refine v47 (r) ?_ | refine vrf (r) ?_)<;>refine hgS ?_)
        all_goals try (exfalso;omega)
        exact xr0 _ _
      . have d3:=decide_eq_false h3;rw [d3,cond_false];refine CallsD.run [] Go.Proofs.Tryz.func38 rfl rfl rfl ?_;simp only [Go.Proofs.Tryz.f38];refine hgR ?_
        repeat' ((first | refine hfk ?_ ?_<;>intros | refine hik ?_ | with_reducible first | refine v47 (c) ?_ | refine vrf (c) ?_ | refine v47 (r) ?_ | refine vrf (r) ?_)<;>refine hgS ?_)
        all_goals try (exfalso;omega)
        exact xr0 _ _
  . have d1:=decide_eq_false h1;rw [d1,Bool.false_and,cond_false,cond_false];clear h1;by_cases h3:(i:Int)<ts.length
    . have d3:=decide_eq_true h3;rw [d3,cond_true];refine CallsD.run [] Go.Proofs.Tryz.func38 rfl rfl rfl ?_;simp only [Go.Proofs.Tryz.f38];refine hgR ?_
      repeat' ((first | refine hfk ?_ ?_<;>intros | refine hik ?_ | with_reducible first | refine v47 (c) ?_ | refine vrf (c) ?_ | refine v47 (r) ?_ | refine vrf (r) ?_)<;>refine hgS ?_)
      all_goals try (exfalso;omega)
      exact xr0 _ _
    . have d3:=decide_eq_false h3;rw [d3,cond_false];refine CallsD.run [] Go.Proofs.Tryz.func38 rfl rfl rfl ?_;simp only [Go.Proofs.Tryz.f38];refine hgR ?_
      repeat' ((first | refine hfk ?_ ?_<;>intros | refine hik ?_ | with_reducible first | refine v47 (c) ?_ | refine vrf (c) ?_ | refine v47 (r) ?_ | refine vrf (r) ?_)<;>refine hgS ?_)
      all_goals try (exfalso;omega)
      exact xr0 _ _
end Go.Hp.T
namespace Go.Hp.T
open Go Go.RowKit Go.Slot Go.Hp Go.Slot.T
open Go.Proofs.Tryz (prog)
set_option maxRecDepth 10000
set_option maxHeartbeats 8000000
variable {Γ:List (Nat×List Cell)}
def xof:ByteArray:=⟨#[100,111,117,98,108,101,40,97,41,32,43,32,100,111,117,98,108,101,40,98,41]⟩
def x4l:Ex:=.mk 6 0 ⟨#[]⟩ ⟨#[]⟩ [.mk 3 0 ⟨#[]⟩ ⟨#[100,111,117,98,108,101]⟩ [.mk 1 0 ⟨#[]⟩ ⟨#[97]⟩ []],.mk 3 0 ⟨#[]⟩ ⟨#[100,111,117,98,108,101]⟩ [.mk 1 0 ⟨#[]⟩ ⟨#[98]⟩ []]]
theorem xgn:vs7 xof=(x4l,0,0):=by kernel_rfl
def xxi:ByteArray:=⟨#[97,32,42,32,50]⟩
def x45:Ex:=.mk 8 0 ⟨#[]⟩ ⟨#[]⟩ [.mk 1 0 ⟨#[]⟩ ⟨#[97]⟩ [],.mk 0 2 ⟨#[]⟩ ⟨#[]⟩ []]
theorem xch:vs7 xxi=(x45,0,0):=by kernel_rfl
def vhz:ByteArray:=⟨#[98,111,116,104,40,97,44,32,97,41]⟩
def z6w:Ex:=.mk 3 0 ⟨#[]⟩ ⟨#[98,111,116,104]⟩ [.mk 1 0 ⟨#[]⟩ ⟨#[97]⟩ [],.mk 1 0 ⟨#[]⟩ ⟨#[97]⟩ []]
theorem wwf:vs7 vhz=(z6w,0,0):=by kernel_rfl
def w4q:ByteArray:=⟨#[98,111,116,104,40,120,44,32,51,32,34,107,103,34,41]⟩
def zyx:Ex:=.mk 3 0 ⟨#[]⟩ ⟨#[98,111,116,104]⟩ [.mk 1 0 ⟨#[]⟩ ⟨#[120]⟩ [],.mk 0 3 ⟨#[107,103]⟩ ⟨#[]⟩ []]
theorem xg1:vs7 w4q=(zyx,0,0):=by kernel_rfl
def zw2:ByteArray:=⟨#[100,111,117,98,108,101,40,100,111,117,98,108,101,40,120,41,41]⟩
def xrh:Ex:=.mk 3 0 ⟨#[]⟩ ⟨#[100,111,117,98,108,101]⟩ [.mk 3 0 ⟨#[]⟩ ⟨#[100,111,117,98,108,101]⟩ [.mk 1 0 ⟨#[]⟩ ⟨#[120]⟩ []]]
theorem xze:vs7 zw2=(xrh,0,0):=by kernel_rfl
def za8:ByteArray:=⟨#[100,111,117,98,108,101,40,120,44,32,121,41]⟩
def vk1:Ex:=.mk 3 0 ⟨#[]⟩ ⟨#[100,111,117,98,108,101]⟩ [.mk 1 0 ⟨#[]⟩ ⟨#[120]⟩ [],.mk 1 0 ⟨#[]⟩ ⟨#[121]⟩ []]
theorem yr0:vs7 za8=(vk1,0,0):=by kernel_rfl
def vgg:ByteArray:=⟨#[116,114,105,112,108,101,40,120,41]⟩
def vts:Ex:=.mk 3 0 ⟨#[]⟩ ⟨#[116,114,105,112,108,101]⟩ [.mk 1 0 ⟨#[]⟩ ⟨#[120]⟩ []]
theorem viq:vs7 vgg=(vts,0,0):=by kernel_rfl
def wny:Fnc:=⟨⟨#[98,111,116,104]⟩,[⟨⟨#[97]⟩,⟨#[103]⟩⟩,⟨⟨#[98]⟩,⟨#[103]⟩⟩],x4l⟩
def ve6:Fnc:=⟨⟨#[100,111,117,98,108,101]⟩,[⟨⟨#[97]⟩,⟨#[103]⟩⟩],x45⟩
def wth:Fnc:=⟨⟨#[100,111,117,98,108,101]⟩,[⟨⟨#[97]⟩,⟨#[103]⟩⟩],z6w⟩
theorem xur:wa2 [ve6,wny]=0:=by kernel_rfl
theorem yod:wa2 [wth,wny]=23:=by kernel_rfl
def x68:Ex:=.mk 6 0 ⟨#[]⟩ ⟨#[]⟩ [.mk 8 0 ⟨#[]⟩ ⟨#[]⟩ [.mk 1 0 ⟨#[]⟩ ⟨#[120]⟩ [],.mk 0 2 ⟨#[]⟩ ⟨#[]⟩ []],.mk 8 0 ⟨#[]⟩ ⟨#[]⟩ [.mk 0 3 ⟨#[107,103]⟩ ⟨#[]⟩ [],.mk 0 2 ⟨#[]⟩ ⟨#[]⟩ []]]
def vl1:ByteArray:=⟨#[40,32,120,32,42,32,50,32,41,32,43,32,40,32,51,32,34,107,103,34,32,42,32,50,32,41]⟩
theorem ztr:yc3 [ve6,wny] zyx=(x68,0):=by kernel_rfl
theorem vpv:z7n x68=true:=by kernel_rfl
def xyr:Ex:=.mk 8 0 ⟨#[]⟩ ⟨#[]⟩ [.mk 8 0 ⟨#[]⟩ ⟨#[]⟩ [.mk 1 0 ⟨#[]⟩ ⟨#[120]⟩ [],.mk 0 2 ⟨#[]⟩ ⟨#[]⟩ []],.mk 0 2 ⟨#[]⟩ ⟨#[]⟩ []]
def x8d:ByteArray:=⟨#[40,32,120,32,42,32,50,32,41,32,42,32,50]⟩
theorem xjx:yc3 [ve6,wny] xrh=(xyr,0):=by kernel_rfl
theorem x42:z7n xyr=true:=by kernel_rfl
theorem z9s:(yc3 [ve6,wny] vk1).2=1:=by kernel_rfl
theorem y5z:(yc3 [ve6,wny] vts).2=11:=by kernel_rfl
theorem n2 (N:Nat) (hN:N<=100000):WrE Γ N (.mk 0 2 ⟨#[]⟩ ⟨#[]⟩ []) [⟨1,⟨#[50]⟩,2,0⟩]:=wce N hN 2 _ vdp
theorem wo0:WrE Γ 0 x68 ([⟨3,⟨#[40]⟩,0,0⟩,⟨0,⟨#[120]⟩,0,0⟩,⟨3,⟨#[42]⟩,0,0⟩,⟨1,⟨#[50]⟩,2,0⟩,⟨3,⟨#[41]⟩,0,0⟩,⟨3,⟨#[43]⟩,0,0⟩,⟨3,⟨#[40]⟩,0,0⟩,⟨1,⟨#[51]⟩,3,0⟩,⟨2,⟨#[107,103]⟩,0,0⟩,⟨3,⟨#[42]⟩,0,0⟩,⟨1,⟨#[50]⟩,2,0⟩,⟨3,⟨#[41]⟩,0,0⟩]):=cWOp 0 (by decide) 6 (.inl rfl) _ _ _ _ (by decide) (by decide) (by decide) (by decide) (by decide) (by decide)
 (cWOp 3000 (by decide) 8 (.inr rfl) _ _ _ _ (by decide) (by decide) (by decide) (by decide) (by decide) (by decide) (vfd 6000 (by decide) _) (n2 6000 (by decide)))
 (cWOp 3000 (by decide) 8 (.inr rfl) _ _ _ _ (by decide) (by decide) (by decide) (by decide) (by decide) (by decide) (wf7 6000 (by decide) 3 _ _ (by kernel_rfl) w8a) (n2 6000 (by decide)))
theorem zl6:WrE Γ 0 xyr ([⟨3,⟨#[40]⟩,0,0⟩,⟨0,⟨#[120]⟩,0,0⟩,⟨3,⟨#[42]⟩,0,0⟩,⟨1,⟨#[50]⟩,2,0⟩,⟨3,⟨#[41]⟩,0,0⟩,⟨3,⟨#[42]⟩,0,0⟩,⟨1,⟨#[50]⟩,2,0⟩]):=cWOp 0 (by decide) 8 (.inr rfl) _ _ _ _ (by decide) (by decide) (by decide) (by decide) (by decide) (by decide)
 (cWOp 3000 (by decide) 8 (.inr rfl) _ _ _ _ (by decide) (by decide) (by decide) (by decide) (by decide) (by decide) (vfd 6000 (by decide) _) (n2 6000 (by decide)))
 (n2 3000 (by decide))
end Go.Hp.T
namespace Go.Hp.T
open Go Go.RowKit Go.Slot Go.Hp Go.Slot.T
open Go.Proofs.Tryz (prog)
attribute [local irreducible] hide RH
set_option maxRecDepth 10000
set_option maxHeartbeats 8000000
variable {Γ:List (Nat×List Cell)}
def gP (s:ByteArray):Prm:=⟨s,⟨#[103]⟩⟩
theorem zll (nm:ByteArray) (ps:List ByteArray) (t:ByteArray) (x:Ex) (hG:ws6 Γ 0=.elt sgC) (ht:t.size<=1073741824) (hps:ps.length<=1000) (hp:vs7 t=(x,0,0)) :
 CallsD Γ prog 20 [.one (cS nm),.one (.sl 1 (ps.map fun s=>[cS s])),.one (cS t)] (.agg (fncC ⟨nm,ps.map gP,x⟩)):=by
 have a1:=ytk (Γ:=Γ) t hG ht;rw [hp] at a1;clear hp hG;refine CallsD.run [] Go.Proofs.Tryz.func20 rfl rfl rfl ?_;simp only [Go.Proofs.Tryz.f20];refine hgR ?_
 repeat' ((first | refine hfk ?_ ?_<;>intros | refine hik ?_ | with_reducible first | refine v47 (a1) ?_ | refine vrf (a1) ?_)<;>refine hgS ?_)
 refine yxw [0,1,6,10] (fun p:Nat×List ByteArray=>[(11,.one (.dat (cI p.1)))])
  (fun p=>[.box [.dat (cS ⟨#[]⟩),.dat .zc,.dat (cI 0),.dat (cI 0),.dat (cS ⟨#[]⟩),.dat (cS ⟨#[]⟩),.dat .zc] (some 38),.box ((exC x).map .dat) (some 25),.box [.dat (cS nm),.sl 3 2 0 p.2.length,.dat (cI x.op),.dat (cI x.n),.dat (cS x.unit),.dat (cS x.name),.dat (.sl 5 (x.args.map Ex.cells))] (some 38),.arr (.sl 2 ((p.2.map gP).map Prm.C)) 0 (some 93)])
  (fun p=>p.1<=ps.length/\p.2=ps.take p.1) (fun p=>ps.length-p.1) (0,[]) ⟨Nat.zero_le _,by simp⟩ ?_ ?_
 . refine hg ?_;refine StH.trans (StH.zoa 2 1 (es:=2) (c:=.sl 2 []) (T:=some 93) rfl rfl rfl (fun r hr=>by cases hr) rfl) ?_;refine hg ?_;exact StH.same svl rfl
 rintro ⟨i,l⟩ ⟨hi,hls⟩;dsimp only at hi hls
 have hll:l.length=i:=by rw [hls];simp;omega
 refine hg ?_;refine xw4 (fun hlt _=>?_) (fun hlt _=>?_)
 . have hlt':i<ps.length:=by omega
   have hnx:True->l++[ps.getD i default]=ps.take (i+1):=fun _=>by rw [hls,zea hlt']
   clear hls;refine hg ?_
   repeat' ((first | refine hfk ?_ ?_<;>intros | refine hik ?_)<;>refine hgS ?_)
   refine ⟨(i+1,l++[ps.getD i default]),⟨by dsimp only;omega,hnx trivial⟩,by dsimp only;omega,?_⟩;refine StH.back [0,1,6,10,11] 3 4 4 rfl rfl rfl rfl rfl (by kernel_rfl) ?_;simp only [List.map_append,List.map_cons,List.map_nil]
   conv=>simp (maxSteps:=2000000) (disch:=omega) only [go_sem,Nat.reduceAdd,Nat.reduceSub,Nat.reduceMul,Int.reduceToNat,Nat.reduceEqDiff,Nat.reduceBEq,Nat.reduceBneDiff,Nat.reduceLT,Int.reduceEq,Int.reduceLT,Int.reduceLE,Int.reduceNeg,Int.reduceAdd,Int.reduceSub,Int.reduceMul,List.length_append,List.length_singleton]
   exact StH.same svl rfl
 . have ei:i=ps.length:=by omega
   subst ei;rw [List.take_length] at hls;subst hls;refine hg ?_
   repeat' ((first | refine hfk ?_ ?_<;>intros | refine hik ?_)<;>refine hgS ?_)
   exact RLe.ofEq rfl
theorem yzm (s want:ByteArray) (F:List Fnc) (x y:Ex) (hG:ws6 Γ 0=.elt sgC) (hs:s.size<=1073741824) (hF:F.length<=1073741824) (hS:∀ f∈F,f.Sm) (hx:x.Sm) (hp:vs7 s=(x,0,0)) (he:yc3 F x=(y,0))
 (hpr:CallsD Γ prog 39 [.agg (exC y)] (.tup [.one (cS want),.one (cB true)])):CallsD Γ prog 21 [.one (cS s),.one (.sl 7 (F.map Fnc.C)),.one (cS want)] (.one (cB true)):=by
 have a1:=ytk (Γ:=Γ) s hG hs;rw [hp] at a1;have a2:=z09 (Γ:=Γ) x F hx hF hS;rw [he] at a2
 have hw:seq want want=true:=by rw [veo];exact decide_eq_true rfl
 clear hp he hG hS;refine CallsD.run [] Go.Proofs.Tryz.func21 rfl rfl rfl ?_;simp only [Go.Proofs.Tryz.f21];refine hgR ?_
 repeat' ((first | refine hfk ?_ ?_<;>intros | refine hik ?_ | with_reducible first | refine v47 (a1) ?_ | refine vrf (a1) ?_ | refine v47 (a2) ?_ | refine vrf (a2) ?_ | refine v47 (hpr) ?_ | refine vrf (hpr) ?_)<;>refine hgS ?_)
 all_goals
  refine hg1 @hw ?_;exact RLe.ofEq rfl
theorem y5r (s:ByteArray) (want:Int) (F:List Fnc) (x:Ex) (hG:ws6 Γ 0=.elt sgC) (hs:s.size<=1073741824) (hF:F.length<=1073741824) (hS:∀ f∈F,f.Sm) (hx:x.Sm) (hp:vs7 s=(x,0,0)) (he:(yc3 F x).2=want):CallsD Γ prog 22 [.one (cS s),.one (.sl 7 (F.map Fnc.C)),.one (cI want)] (.one (cB true)):=by
 have a1:=ytk (Γ:=Γ) s hG hs;rw [hp] at a1;have a2:=z09 (Γ:=Γ) x F hx hF hS;rw [he] at a2;generalize (yc3 F x).1=y at *;clear hp he hG hS;refine CallsD.run [] Go.Proofs.Tryz.func22 rfl rfl rfl ?_;simp only [Go.Proofs.Tryz.f22];refine hgR ?_
 repeat' ((first | refine hfk ?_ ?_<;>intros | refine hik ?_ | with_reducible first | refine v47 (a1) ?_ | refine vrf (a1) ?_ | refine v47 (a2) ?_ | refine vrf (a2) ?_)<;>refine hgS ?_)
 all_goals exact RLe.ofEq (by simp)
mutual
def Ex.smB:Ex->Bool
 | .mk _ _ u s l=>decide (l.length<=1073741824)&&decide (u.size<=1073741824)&&decide (s.size<=1073741824)&&Ex.smBL l
def Ex.smBL:List Ex->Bool
 | []=>true
 | y::l=>Ex.smB y&&Ex.smBL l
end
theorem Ex.v2v:∀ l:List Ex,Ex.smBL l=l.all Ex.smB
 | []=>by rw [Ex.smBL];rfl
 | y::l=>by rw [Ex.smBL,Ex.v2v l];rfl
theorem x8l:∀ x:Ex,x.smB=true->x.Sm:=by
 refine Ex.ind (fun x ih h=>?_)
 cases x with
 | mk o n u s l=>
  rw [Ex.smB,Ex.v2v] at h;simp only [Bool.and_eq_true,decide_eq_true_eq,List.all_eq_true] at h;exact .mk _ h.1.1.1 h.1.1.2 h.1.2 (fun y hy=>ih y hy (h.2 y hy))
theorem smF {s:ByteArray} {l:List ByteArray} {x:Ex} (hs:s.size<=1073741824) (hl:l.length<=1073741824) (hp:∀ p∈l,p.size<=1073741824) (hx:x.smB=true):(⟨s,l.map gP,x⟩:Fnc).Sm:=⟨hs,by simpa using hl,fun p h=>by
 obtain ⟨t,ht,rfl⟩:=List.mem_map.1 h
 exact ⟨hp t ht,show (⟨#[103]⟩:ByteArray).size<=1073741824 by decide⟩,x8l _ hx⟩
theorem xz2:wny.Sm:=smF (l:=[⟨#[97]⟩,⟨#[98]⟩]) (by decide) (by decide) (by decide) (by kernel_rfl)
theorem wk5:ve6.Sm:=smF (l:=[⟨#[97]⟩]) (by decide) (by decide) (by decide) (by kernel_rfl)
theorem zae:wth.Sm:=smF (l:=[⟨#[97]⟩]) (by decide) (by decide) (by decide) (by kernel_rfl)
theorem vz4 {f g:Fnc} (hf:f.Sm) (hg1:g.Sm):∀ h∈[f,g],h.Sm:=fun h hm=>by
 rcases List.mem_cons.1 hm with e | hm
 . rw [e];exact hf
 . rcases List.mem_cons.1 hm with e | hm
   . rw [e];exact hg1
   . cases hm
theorem vp3 (hG:ws6 Γ 0=.elt sgC):CallsD Γ prog 7 [] (.one (cB true)):=by
 have g1:=vz4 wk5 xz2;have g2:=vz4 zae xz2;have hfn_both:CallsD Γ prog 20 [.one (cS ⟨#[98,111,116,104]⟩),.one (.sl 1 [[cS ⟨#[97]⟩],[cS ⟨#[98]⟩]]),.one (cS ⟨#[100,111,117,98,108,101,40,97,41,32,43,32,100,111,117,98,108,101,40,98,41]⟩)] (.agg (fncC wny)):=zll (Γ:=Γ) ⟨#[98,111,116,104]⟩ [⟨#[97]⟩,⟨#[98]⟩] xof x4l hG (by decide) (by decide) xgn;have hfn_dbl:CallsD Γ prog 20 [.one (cS ⟨#[100,111,117,98,108,101]⟩),.one (.sl 1 [[cS ⟨#[97]⟩]]),.one (cS ⟨#[97,32,42,32,50]⟩)] (.agg (fncC ve6)):=zll (Γ:=Γ) ⟨#[100,111,117,98,108,101]⟩ [⟨#[97]⟩] xxi x45 hG (by decide) (by decide) xch;have hfn_cir:CallsD Γ prog 20 [.one (cS ⟨#[100,111,117,98,108,101]⟩),.one (.sl 1 [[cS ⟨#[97]⟩]]),.one (cS ⟨#[98,111,116,104,40,97,44,32,97,41]⟩)] (.agg (fncC wth)):=zll (Γ:=Γ) ⟨#[100,111,117,98,108,101]⟩ [⟨#[97]⟩] vhz z6w hG (by decide) (by decide) wwf
 have c1:CallsD Γ prog 14 [.one (.sl 7 [fncC ve6,fncC wny])] (.one (cI 0)):=by
  have:=vee (Γ:=Γ) [ve6,wny] (by decide) g1
  rw [xur] at this;exact this
 have c2:CallsD Γ prog 14 [.one (.sl 7 [fncC wth,fncC wny])] (.one (cI 23)):=by
  have:=vee (Γ:=Γ) [wth,wny] (by decide) g2
  rw [yod] at this;exact this
 have p1:=yag (Γ:=Γ) x68 _ vl1 (x8l _ (by kernel_rfl)) vpv wo0 (by decide) (by decide) (by decide) (by kernel_rfl) (by decide);have p2:=yag (Γ:=Γ) xyr _ x8d (x8l _ (by kernel_rfl)) x42 zl6 (by decide) (by decide) (by decide) (by kernel_rfl) (by decide);have x1:CallsD Γ prog 21 [.one (cS ⟨#[98,111,116,104,40,120,44,32,51,32,34,107,103,34,41]⟩),.one (.sl 7 [fncC ve6,fncC wny]),.one (cS ⟨#[40,32,120,32,42,32,50,32,41,32,43,32,40,32,51,32,34,107,103,34,32,42,32,50,32,41]⟩)] (.one (cB true)):=yzm (Γ:=Γ) w4q vl1 [ve6,wny] zyx x68 hG (by decide) (by decide) g1 (x8l _ (by kernel_rfl)) xg1 ztr p1;have x2:CallsD Γ prog 21 [.one (cS ⟨#[100,111,117,98,108,101,40,100,111,117,98,108,101,40,120,41,41]⟩),.one (.sl 7 [fncC ve6,fncC wny]),.one (cS ⟨#[40,32,120,32,42,32,50,32,41,32,42,32,50]⟩)] (.one (cB true)):=yzm (Γ:=Γ) zw2 x8d [ve6,wny] xrh xyr hG (by decide) (by decide) g1 (x8l _ (by kernel_rfl)) xze xjx p2;have x3:CallsD Γ prog 22 [.one (cS ⟨#[100,111,117,98,108,101,40,120,44,32,121,41]⟩),.one (.sl 7 [fncC ve6,fncC wny]),.one (cI 1)] (.one (cB true)):=y5r (Γ:=Γ) za8 1 [ve6,wny] vk1 hG (by decide) (by decide) g1 (x8l _ (by kernel_rfl)) yr0 z9s;have x4:CallsD Γ prog 22 [.one (cS ⟨#[116,114,105,112,108,101,40,120,41]⟩),.one (.sl 7 [fncC ve6,fncC wny]),.one (cI 11)] (.one (cB true)):=y5r (Γ:=Γ) vgg 11 [ve6,wny] vts hG (by decide) (by decide) g1 (x8l _ (by kernel_rfl)) viq y5z;clear p1 p2 g1 g2;generalize wny=fb at *;generalize ve6=fd at *;generalize wth=fc at *;refine CallsD.run [] Go.Proofs.Tryz.func7 rfl rfl rfl ?_;simp only [Go.Proofs.Tryz.f7];refine hgR ?_
 repeat' ((first | refine hfk ?_ ?_<;>intros | refine hik ?_ | with_reducible first | refine v47 (hfn_both) ?_ | refine vrf (hfn_both) ?_ | refine v47 (hfn_dbl) ?_ | refine vrf (hfn_dbl) ?_ | refine v47 (hfn_cir) ?_ | refine vrf (hfn_cir) ?_ | refine v47 (c1) ?_ | refine vrf (c1) ?_ | refine v47 (c2) ?_ | refine vrf (c2) ?_ | refine v47 (x1) ?_ | refine vrf (x1) ?_ | refine v47 (x2) ?_ | refine vrf (x2) ?_ | refine v47 (x3) ?_ | refine vrf (x3) ?_ | refine v47 (x4) ?_ | refine vrf (x4) ?_)<;>refine hgS ?_)
 all_goals exact RLe.ofEq rfl
end Go.Hp.T
namespace Go.Slot
open Go Go.RowKit Go.ChangeShapes
variable {P:Program} {H:Type} {enc:TypeId×Value->H} {w:World} {spare:Nat->Bool} {held:Bool}
inductive Sp where
 | int (k:IntKind)
 | bool
 | str
 | ints (k:IntKind)
 | sl (l:List Sp)
inductive Fit (N:Nat):Sp->Cell->Prop
 | int {k:IntKind} {n:Int} (h:k.min<=n/\n<=k.max):Fit N (.int k) (.raw (.int k n))
 | bool {b:Bool}:Fit N .bool (.raw (.bool b))
 | str {s:ByteArray} (h:s.size<=N):Fit N .str (.raw (.string s))
 | ints {k:IntKind} {L:List Int} (hl:L.length<=N) (h:∀ x∈L,k.min<=x/\x<=k.max):Fit N (.ints k) (.ints k L)
 | sl {l:List Sp} {rows:List (List Cell)} (hl:rows.length<=N) (hlen:∀ r∈rows,r.length=l.length) (h:∀(r:List Cell),r∈rows->∀(i:Nat) (s:Sp) (c:Cell),l[i]? = some s->r[i]? = some c->Fit N s c):Fit N (.sl l) (.sl l.length rows)
def FitL (N:Nat) (l:List Sp) (cs:List Cell):Prop:=cs.length=l.length/\∀(i:Nat) (s:Sp) (c:Cell),l[i]? = some s->cs[i]? = some c->Fit N s c
theorem FitL.cons {N:Nat} {s:Sp} {l:List Sp} {cs:List Cell} (h:FitL N (s::l) cs):∃ c r,cs=c::r/\Fit N s c/\FitL N l r:=by
 obtain ⟨h1,h2⟩:=h
 cases cs with
 | nil=>simp at h1
 | cons c r=>exact ⟨c,r,rfl,h2 0 s c rfl rfl,by simpa using h1,fun i s' c' hs hc=>h2 (i+1) s' c' (by simpa using hs) (by simpa using hc)⟩
theorem FitL.nil {N:Nat} {cs:List Cell} (h:FitL N [] cs):cs=[]:=List.eq_nil_of_length_eq_zero h.1
theorem FitL.one {N:Nat} {s:Sp} {c:Cell} (h:Fit N s c):FitL N [s] [c]:=⟨rfl,fun i s' c' hs hc=>by
 cases i with
 | zero=>simp at hs hc;subst hs hc;exact h
 | succ i=>simp at hs⟩
theorem FitL.append {N:Nat} {l l':List Sp} {cs cs':List Cell} (h:FitL N l cs) (h':FitL N l' cs'):FitL N (l++l') (cs++cs'):=by
 refine ⟨by simp [h.1,h'.1],fun i s c hs hc=>?_⟩
 rcases Nat.lt_or_ge i l.length with hi | hi
 . rw [List.getElem?_append_left hi] at hs;rw [List.getElem?_append_left (by rw [h.1];exact hi)] at hc;exact h.2 i s c hs hc
 . rw [List.getElem?_append_right hi] at hs;rw [List.getElem?_append_right (by rw [h.1];exact hi),h.1] at hc;exact h'.2 _ s c hs hc
structure Bulk (bk:DataW H->Nat):Prop where
 str:∀ b,b.length<=bk (.lit (.string b))
 elems:∀ l r,l.length<=bk (.slice l r)
 elem:∀ l r d,d∈l->bk d<=bk (.slice l r)
 part:∀ l d,d∈l->bk d<=bk (.agg l)
theorem RdD.app0 {M:Nat->Nat->Prop} {w:World}:∀{vs us:List Value} {cs ds:List Cell},RdD M w vs cs->RdD M w us ds->RdD M w (vs++us) (cs++ds)
 | [],_,[],_,_,h=>h
 | _::_,_,_::_,_,h,h'=>⟨h.1,RdD.app0 h.2 h'⟩
theorem cellAt {a:Addr} {v:Value} (h:w.cell? a=some v):a.spot=none:=by
 unfold World.cell? at h;split at h
 . split at h
   . cases h
   . rename_i hs;simpa using hs
 . cases h
theorem addrAt {a:Addr} (h:a.spot=none) (n:Nat):a.add n=⟨a.block,a.off+n,none⟩:=by
 unfold Addr.add
 split
 . rename_i e;subst e;cases a;simp at h;subst h;rfl
 . rfl
section
variable {bk:DataW H->Nat} {N:Nat}
end
end Go.Slot
namespace Go.Slot
open Go Go.RowKit Go.ChangeShapes Go.WideShapes
variable {P:Program} {H:Type} {enc:TypeId×Value->H}
def M0:Nat->Nat->Prop:=fun _ _=>False
section
variable {w:World} {spare:Nat->Bool} {held:Bool} {bk:DataW H->Nat} {N:Nat} {r:Reach} {b0:Nat}
end
theorem zc3 (hl:laidOutB P=true) {W W':World} (hb:Below W.heap.size W W') {sp:Nat->Bool}:∀{ts:List TypeId} {vs:List Value} {ds:List (DataW H)} {ps:List MemPlace},(∀ t∈ts,P.readableRec t=true/\t<P.types.size)->
 DataW.TrodAll enc P W 0 (fun _=>true) true ts vs ds ps->(∀ p∈ps,p.block<W.heap.size)->(∀ p∈ps,sp p.block=true)->DataW.TrodAll enc P W' 0 sp true ts vs ds ps
 | [],vs,ds,ps,_,h,_,_=>by
  obtain ⟨rfl,rfl,rfl⟩:=trodAll_nil h;exact trodAll_mk0
 | t::ts,vs,ds,ps,hts,h,hlt,hsp=>by
  obtain ⟨v,vs',d,ds',p,q,rfl,rfl,rfl,⟨fuel,h1⟩,h2⟩:=trodAll_cons h;have ht:=hts t (by simp)
  exact ⟨p,q,⟨fuel,DataW.trod_stays (kids_book hl ht.1) (book_sized ht.1) (fun h=>by cases h) ⟨ht.2,book_self t⟩ h1 (fun x hx=>hb.same (hlt x (by simp [hx]))) (fun x hx=>hsp x (by simp [hx]))⟩,
   zc3 hl hb (fun u hu=>hts u (by simp [hu])) h2 (fun x hx=>hlt x (by simp [hx])) (fun x hx=>hsp x (by simp [hx])),rfl⟩
theorem xfm {W W':World} {may:MemPlace->Prop} (hb:Below W.heap.size W W'):W.keptBut W' may:=by
 refine ⟨hb.os,hb.output,fun i hi=>?_⟩;rw [hb.block i hi]
 split
 . rename_i h1 h2;rw [h1] at h2;cases h2;exact ⟨rfl,rfl,rfl,fun _ _=>rfl⟩
 . rename_i h1 h2;rw [h1] at h2;cases h2;exact .inr ⟨rfl,rfl⟩
 . rfl
theorem xtd {W W':World} (hb:Below W.heap.size W W') {a:Addr} (h:a.block<W.heap.size):W'.frozen? a=W.frozen? a:=by
 unfold World.frozen?;rw [hb.block _ h]
theorem xhr (hl:laidOutB P=true) {f:Func} {s:ChangeSpec} {apart fresh handsOn again:Bool} {W W':World} {args:Array Value} {ds gs:List (DataW H)} {before:List MemPlace} {tb:TypeId}
 (hts:∀ t∈f.params.toList,P.readableRec t=true/\t<P.types.size) (hv:s.vars=[]) (hrt:f.resultTypes=#[tb]) (htb:P.underlying tb=some .bool)
 (hfn:∀ ds gs:List (DataW H),DataW.TrodAll enc P W 0 (fun _=>true) true f.params.toList args.toList ds before->gs=[]->(s.fn H (ds++gs)).results=[.lit (.bool true)]/\(s.fn H (ds++gs)).args=ds/\(s.fn H (ds++gs)).vars=[])
 (hW:DataW.Whole enc P f.params.toList s.vars apart W args.toList ds gs before) (hb:Below W.heap.size W W'):s.post enc P f apart fresh handsOn again W args (.bool true) W':=by
 have hlt:∀ p∈before,p.block<W.heap.size:=fun p hp=>hW.lt p hp
 have hW':=hW;obtain ⟨p,q,hA,hV,rfl,hfz,hnd⟩:=hW;rw [hv] at hV;obtain ⟨rfl,rfl⟩:=trodVars_none hV;rw [List.append_nil] at hW' hlt hfz hnd hfn;obtain ⟨e1,e2,e3⟩:=hfn ds [] hA rfl
 have hres:∀(b:Nat) (sp:Nat->Bool) (hd:Bool),DataW.TrodAll enc P W' b sp hd f.resultTypes.toList ((Value.bool true).resultList f.resultTypes.size) (s.fn H (ds++[])).results []:=fun b sp hd=>by
  rw [e1,hrt];exact trodAll_cons_mk (shut_bool htb true) trodAll_mk0
 have hargs:∀ sp:Nat->Bool,(∀ x∈p,sp x.block=true)->DataW.TrodAll enc P W' 0 sp true f.params.toList args.toList (s.fn H (ds++[])).args p:=fun sp hsp=>by
  rw [e2];exact zc3 hl hb hts hA hlt hsp
 have hvars:∀ sp:Nat->Bool,DataW.TrodVars enc P W' sp s.vars (s.fn H (ds++[])).vars []:=fun sp=>by
  rw [e3,hv];exact rfl
 refine ⟨ds,[],p,[],p,[],hW',hres _ _ _,hargs _ (fun x hx=>by simpa using hlt x hx),hvars _,xfm hb,fun _=>⟨?_,_,_,([]++p)++[],⟨[]++p,[],trodAll_append (hargs _ (fun _ _=>rfl)) (hres _ _ _),hvars _,rfl,?_,?_⟩,?_⟩⟩
 . exact ok_one hrt rfl (okWide_bool_mk htb true)
 . intro b off hp
   have hp':MemPlace.cell b off∈p:=by simpa using hp
   rw [xtd hb (hlt _ hp')];exact hfz b off hp'
 . intro ha;simpa using hnd ha
 . intro x hx _;simpa using hx
end Go.Slot
