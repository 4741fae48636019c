/- The proof, part Q36: Sg, Sh, Gf. -/
import Derived.Test.YtmegdbbbllffkaaGreatQ35
namespace Go.Hp.T
open Go Go.RowKit Go.Slot Go.Hp Go.Slot.T
open Go.Proofs.Tryz (prog)
set_option maxRecDepth 10000
set_option maxHeartbeats 4000000
variable {Γ:List (Nat×List Cell)}
theorem wmq {r:Nat->Nat} {l:Vi}:rnSB r (.map (envI l))=.map (envI l):=z9v (fun _ _=>rfl) r l
theorem x5z (i j:Nat) (l:Vi):swSB i j (.map (envI l))=.map (envI l):=y07 (fun _ _ _=>rfl) i j l
theorem wh2 (l:Vi):z0y (.map (envI l))=[]:=y51 (fun _=>rfl) l
attribute [go_sem] wh2
attribute [go_sem 20000] wmq x5z
abbrev mI (l:Vi):SB:=.map (envI l)
theorem xa8 (V:Vi) (T:Vt):∀ r,[mI V,mB T].map (rnSB r)=[mI V,mB T]:=fun r=>by
 simp only [List.map_cons,List.map_nil,mI,mB,wmq,xqg]
theorem StH.krE {e:List SB} {σ:List SV} {η:List SB} {n:Int} {r:Kr} (he:η.take e.length=e) (h:(σ.all fun x=>(vp6 x).all fun b=>Nat.blt b e.length)=true) (hσ:σ=[SV.tup [.agg ((krZ false false false).map .dat),.one (.dat (cI n))]]) (hr:r=.inl n):StH Γ e σ η [krV r] e:=by
 subst hr;exact StH.trans (StH.zx4 he h hσ) (StH.trans (StH.tup1 (l':=[.agg ((krC (.inl n)).map .dat),.one (.dat (cI n))]) (.cons (.agg (.cons (.refl _) (.cons (.refl _) (.cons (.refl _) (.cons (.refl _) (.cons (.dat (.ysc _)) (.cons (.refl _) (.cons (.dat (.ysc _)) (.cons (.refl _) (.cons (.dat (.ysc _)) (.cons (.refl _) (.cons (.dat (.ysc _)) .nil)))))))))))) (.cons (.refl _) .nil))) StH.refl)
theorem y6m (V:Vi) (T:Vt) (s:ByteArray) (hs:s.size<=1073741824):vfe Γ prog 98 [mI V,mB T] [.agg [.mp 0,.mp 1],.one (.dat (cS s))] [mI V,mB T] (.one (.dat (cB (!((ycr V s).isSome||(ycr T s).isSome||!isName s||isWord s))))):=by
 have c1:=vv6 (Γ:=Γ) s (by omega);have c2:=v7c (Γ:=Γ) s;generalize isName s=p at c1 ⊢;generalize isWord s=q at c2 ⊢
 cases h1:ycr V s with
 | none=>cases h2:ycr T s with
  | none=>
   refine vfe.run [] Go.Proofs.Tryz.func98 rfl rfl ?_;simp only [Go.Proofs.Tryz.f98];refine hgR ?_;refine hg2 @h1 @h2 ?_
   repeat' ((first | refine hfk ?_ ?_<;>intros | refine hik ?_ | with_reducible first | refine v6l (c1) ?_ | refine vgi (c1) ?_ | refine v6l (c2) ?_ | refine vgi (c2) ?_)<;>refine hgS ?_)
   all_goals exact StH.zx4 rfl (by kernel_rfl) (by (((conv=>simp only [Bool.and_true,Bool.true_and,Bool.and_false,Bool.false_and,Bool.or_true,Bool.true_or,Bool.or_false,Bool.false_or,Bool.not_true,Bool.not_false,decide_true,decide_false,not_true_eq_false,not_false_eq_true,wgp,if_true,if_false,Bool.and_self,Bool.or_self,cond_true,cond_false,List.length_map,ne_eq,Int.reduceEq,Int.reduceLT,Int.reduceLE, *,h1,h2,Option.isSome])<;>try exact trivial))<;>first | rfl | trivial)
  | some t=>
   refine vfe.run [] Go.Proofs.Tryz.func98 rfl rfl ?_;simp only [Go.Proofs.Tryz.f98];refine hgR ?_;refine hg2 @h1 @h2 ?_
   repeat' ((first | refine hfk ?_ ?_<;>intros | refine hik ?_ | with_reducible first | refine v6l (c1) ?_ | refine vgi (c1) ?_ | refine v6l (c2) ?_ | refine vgi (c2) ?_)<;>refine hgS ?_)
   all_goals exact StH.zx4 rfl (by kernel_rfl) (by (((conv=>simp only [Bool.and_true,Bool.true_and,Bool.and_false,Bool.false_and,Bool.or_true,Bool.true_or,Bool.or_false,Bool.false_or,Bool.not_true,Bool.not_false,decide_true,decide_false,not_true_eq_false,not_false_eq_true,wgp,if_true,if_false,Bool.and_self,Bool.or_self,cond_true,cond_false,List.length_map,ne_eq,Int.reduceEq,Int.reduceLT,Int.reduceLE, *,h1,h2,Option.isSome])<;>try exact trivial))<;>first | rfl | trivial)
 | some q=>cases h2:ycr T s with
  | none=>
   refine vfe.run [] Go.Proofs.Tryz.func98 rfl rfl ?_;simp only [Go.Proofs.Tryz.f98];refine hgR ?_;refine hg2 @h1 @h2 ?_
   repeat' ((first | refine hfk ?_ ?_<;>intros | refine hik ?_ | with_reducible first | refine v6l (c1) ?_ | refine vgi (c1) ?_ | refine v6l (c2) ?_ | refine vgi (c2) ?_)<;>refine hgS ?_)
   all_goals exact StH.zx4 rfl (by kernel_rfl) (by (((conv=>simp only [Bool.and_true,Bool.true_and,Bool.and_false,Bool.false_and,Bool.or_true,Bool.true_or,Bool.or_false,Bool.false_or,Bool.not_true,Bool.not_false,decide_true,decide_false,not_true_eq_false,not_false_eq_true,wgp,if_true,if_false,Bool.and_self,Bool.or_self,cond_true,cond_false,List.length_map,ne_eq,Int.reduceEq,Int.reduceLT,Int.reduceLE, *,h1,h2,Option.isSome])<;>try exact trivial))<;>first | rfl | trivial)
  | some t=>
   refine vfe.run [] Go.Proofs.Tryz.func98 rfl rfl ?_;simp only [Go.Proofs.Tryz.f98];refine hgR ?_;refine hg2 @h1 @h2 ?_
   repeat' ((first | refine hfk ?_ ?_<;>intros | refine hik ?_ | with_reducible first | refine v6l (c1) ?_ | refine vgi (c1) ?_ | refine v6l (c2) ?_ | refine vgi (c2) ?_)<;>refine hgS ?_)
   all_goals exact StH.zx4 rfl (by kernel_rfl) (by (((conv=>simp only [Bool.and_true,Bool.true_and,Bool.and_false,Bool.false_and,Bool.or_true,Bool.true_or,Bool.or_false,Bool.false_or,Bool.not_true,Bool.not_false,decide_true,decide_false,not_true_eq_false,not_false_eq_true,wgp,if_true,if_false,Bool.and_self,Bool.or_self,cond_true,cond_false,List.length_map,ne_eq,Int.reduceEq,Int.reduceLT,Int.reduceLE, *,h1,h2,Option.isSome])<;>try exact trivial))<;>first | rfl | trivial)
theorem vo5 (n:Rat) (u:Un) (hd:zmf u.d=true) (hf:0<u.f) (h1:qs n<=67108864) (h2:qs u.f<=67108864):CallsD Γ prog 147 [.agg (qC (some n)),.agg (unQ u)] (qR (some (n*u.f)) 0):=by
 have c1:=ygx (Γ:=Γ) u.d;rw [hd] at c1;have c2:CallsD Γ prog 44 [.agg (qC (some u.f))] (.one (cB true)):=wi7 (some u.f) (by show qs u.f<=_;omega);have c3:=toD (Γ:=Γ) (zdn (qF (some u.f)) h2)
 have e:Fc.sign (qF (some u.f))=1:=by
  have h:=Fc.woz u.f
  have h':sg u.f.num=1:=by
   have h:=(Rat.lt_iff _ _).1 hf;simp only [Rat.zero_num,Rat.zero_den] at h
   have:=wzq u.f.num
   omega
  exact h.trans h'
 rw [e] at c3;have c3:CallsD Γ prog 231 [.agg (qC (some u.f))] (.one (cI 1)):=c3
 have cR:CallsD Γ prog 193 [.agg (unQ u)] (.one (cB true)):=by
  refine CallsD.run [] Go.Proofs.Tryz.func193 rfl rfl rfl ?_;simp only [Go.Proofs.Tryz.f193];refine hgR ?_
  repeat' ((first | refine hfk ?_ ?_<;>intros | refine hik ?_ | with_reducible first | refine v6l (c1) ?_ | refine vgi (c1) ?_ | refine v6l (c2) ?_ | refine vgi (c2) ?_ | refine v6l (c3) ?_ | refine vgi (c3) ?_)<;>refine hgS ?_)
  all_goals first
   | exact RLe.ofEq rfl
   | (exfalso;omega)
 have c4:CallsD Γ prog 44 [.agg (qC (some n))] (.one (cB true)):=wi7 (some n) (by show qs n<=_;omega);have c5:=oMul (Γ:=Γ) (some n) (some u.f) h1 h2;have c5:CallsD Γ prog 85 [.agg (qC (some n)),.agg (qC (some u.f))] (qR (some (n*u.f)) 0):=c5;clear c1 c2 c3;refine CallsD.run [] Go.Proofs.Tryz.func147 rfl rfl rfl ?_;simp only [Go.Proofs.Tryz.f147];refine hgR ?_
 repeat' ((first | refine hfk ?_ ?_<;>intros | refine hik ?_ | with_reducible first | refine v6l (cR) ?_ | refine vgi (cR) ?_ | refine v6l (c4) ?_ | refine vgi (c4) ?_ | refine v6l (c5) ?_ | refine vgi (c5) ?_)<;>refine hgS ?_)
 all_goals first
  | exact RLe.ofEq rfl
  | (exfalso;omega)
theorem zpn (V:Vi) (T:Vt) (x:Ex) (hx:x.Sm) (hn:inI x.n) (h0:x.op=0):vfe Γ prog 99 [mI V,mB T] [.agg [.mp 0,.mp 1],.agg ((exC x).map .dat)] [mI V,mB T] (krV (vlw x.n x.unit)):=by
 have hu:=hx.u;have hz:=wtn hn;have ho:=oInt (Γ:=Γ) x.n hn
 rcases v4u x.unit with ⟨u,h,hq⟩ | ⟨e,he,h⟩
 . have hr:=v1q (Γ:=Γ) hu h;obtain ⟨r1,r2⟩:=wrr h;have hf:=vo5 (Γ:=Γ) (x.n:Rat) u r1 r2 (Nat.le_trans hz (by decide)) (by omega);have hp:=wsc (Γ:=Γ) ((x.n:Rat)*u.f) (by have:=yfd (x.n:Rat) u.f;have hz:qs (x.n:Rat)<=4:=hz;omega)
   have e1:vlw x.n x.unit=.inr (.num (Iv.pt ((x.n:Rat)*u.f))):=by unfold vlw facO;rw [h];rfl
   rw [e1];refine vfe.run [] Go.Proofs.Tryz.func99 rfl rfl ?_;simp only [Go.Proofs.Tryz.f99];refine hgR ?_
   repeat' ((first | refine hfk ?_ ?_<;>intros | refine hik ?_ | with_reducible first | refine v6l (hr) ?_ | refine vgi (hr) ?_ | refine v6l (ho) ?_ | refine vgi (ho) ?_ | refine v6l (hf) ?_ | refine vgi (hf) ?_ | refine v6l (hp) ?_ | refine vgi (hp) ?_)<;>refine hgS ?_)
   all_goals first
    | (exfalso;omega)
    | exact StH.zx4 rfl (by kernel_rfl) rfl
 . have hr:=vqa (Γ:=Γ) x.unit hu;rw [h] at hr
   have e1:vlw x.n x.unit=.inl 14:=by unfold vlw;rw [h];simp only [decide_eq_true he,cond_true]
   rw [e1];refine vfe.run [] Go.Proofs.Tryz.func99 rfl rfl ?_;simp only [Go.Proofs.Tryz.f99];refine hgR ?_
   repeat' ((first | refine hfk ?_ ?_<;>intros | refine hik ?_ | with_reducible first | refine v6l (hr) ?_ | refine vgi (hr) ?_)<;>refine hgS ?_)
   all_goals first
    | (exfalso;omega)
    | exact StH.krE rfl (by kernel_rfl) rfl rfl
theorem wpi (V:Vi) (T:Vt) (x:Ex) (h1:x.op=1):vfe Γ prog 99 [mI V,mB T] [.agg [.mp 0,.mp 1],.agg ((exC x).map .dat)] [mI V,mB T] (krV (yy3 V x.name)):=by
 unfold yy3
 cases hlk:ycr V x.name with
 | none=>
  refine vfe.run [] Go.Proofs.Tryz.func99 rfl rfl ?_;simp only [Go.Proofs.Tryz.f99];refine hgR ?_
  repeat' ((first | refine hfk ?_ ?_<;>intros | refine hik ?_)<;>refine hgS ?_)
  all_goals try (exfalso;omega)
  refine hg1 @hlk ?_
  repeat' ((first | refine hfk ?_ ?_<;>intros | refine hik ?_)<;>refine hgS ?_)
  all_goals first
   | (exfalso;omega)
   | exact StH.krE rfl (by kernel_rfl) rfl rfl
 | some q=>
  refine vfe.run [] Go.Proofs.Tryz.func99 rfl rfl ?_;simp only [Go.Proofs.Tryz.f99];refine hgR ?_
  repeat' ((first | refine hfk ?_ ?_<;>intros | refine hik ?_)<;>refine hgS ?_)
  all_goals try (exfalso;omega)
  refine hg1 @hlk ?_
  repeat' ((first | refine hfk ?_ ?_<;>intros | refine hik ?_)<;>refine hgS ?_)
  all_goals first
   | (exfalso;omega)
   | exact StH.zx4 rfl (by kernel_rfl) rfl
theorem zvv (V:Vi) (T:Vt) (x:Ex) (hl:3<=x.args.length) (hl2:x.args.length<=1073741824) (r0 r1 r2:Kr) (hk0:Kok 67108864 r0) (hk1:Kok 67108864 r1) (hk2:Kok 67108864 r2)
 (h0:vfe Γ prog 61 [mI V,mB T] [.agg [.mp 0,.mp 1],.agg ((exC (x.args.getD 0 default)).map .dat)] [mI V,mB T] (krV r0))
 (h1:vfe Γ prog 61 [mI V,mB T] [.agg [.mp 0,.mp 1],.agg ((exC (x.args.getD 1 default)).map .dat)] [mI V,mB T] (krV r1))
 (h2:vfe Γ prog 61 [mI V,mB T] [.agg [.mp 0,.mp 1],.agg ((exC (x.args.getD 2 default)).map .dat)] [mI V,mB T] (krV r2)) :
 vfe Γ prog 100 [mI V,mB T] [.agg [.mp 0,.mp 1],.agg ((exC x).map .dat)] [mI V,mB T] (krV (chH r0 r1 r2)):=by
 rcases r0 with e | ⟨c,d⟩ | v
 . have he:¬e=0:=hk0;refine vfe.run [] Go.Proofs.Tryz.func100 rfl rfl ?_;simp only [Go.Proofs.Tryz.f100];refine hgR ?_;refine hg ?_;refine zjb 2 (fun ξ=>vfe.pre h0 (xa8 V T) rfl rfl) rfl rfl ?_;clear h0;refine hg ?_
   repeat' ((first | refine hfk ?_ ?_<;>intros | refine hik ?_)<;>refine hgS ?_)
   all_goals first
    | (exfalso;omega)
    | exact StH.krE rfl (by kernel_rfl) rfl rfl
 . cases c with
   | false=>
    refine vfe.run [] Go.Proofs.Tryz.func100 rfl rfl ?_;simp only [Go.Proofs.Tryz.f100];refine hgR ?_;refine hg ?_;refine zjb 2 (fun ξ=>vfe.pre h0 (xa8 V T) rfl rfl) rfl rfl ?_;clear h0;refine hg ?_
    repeat' ((first | refine hfk ?_ ?_<;>intros | refine hik ?_)<;>refine hgS ?_)
    all_goals try (exfalso;omega)
    refine zjb 2 (fun ξ=>vfe.pre h2 (xa8 V T) rfl rfl) rfl rfl ?_;refine hg ?_
    repeat' ((first | refine hfk ?_ ?_<;>intros | refine hik ?_)<;>refine hgS ?_)
    exact StH.zx4 rfl (by kernel_rfl) rfl
   | true=>
    rcases r1 with e | a
    . have he:¬e=0:=hk1;refine vfe.run [] Go.Proofs.Tryz.func100 rfl rfl ?_;simp only [Go.Proofs.Tryz.f100];refine hgR ?_;refine hg ?_;refine zjb 2 (fun ξ=>vfe.pre h0 (xa8 V T) rfl rfl) rfl rfl ?_;clear h0;refine hg ?_
      repeat' ((first | refine hfk ?_ ?_<;>intros | refine hik ?_)<;>refine hgS ?_)
      all_goals try (exfalso;omega)
      refine zjb 2 (fun ξ=>vfe.pre h1 (xa8 V T) rfl rfl) rfl rfl ?_;refine hg ?_
      repeat' ((first | refine hfk ?_ ?_<;>intros | refine hik ?_)<;>refine hgS ?_)
      all_goals first
       | (exfalso;omega)
       | exact StH.zx4 rfl (by kernel_rfl) rfl
    . cases d with
      | false=>
       refine vfe.run [] Go.Proofs.Tryz.func100 rfl rfl ?_;simp only [Go.Proofs.Tryz.f100];refine hgR ?_;refine hg ?_;refine zjb 2 (fun ξ=>vfe.pre h0 (xa8 V T) rfl rfl) rfl rfl ?_;clear h0;refine hg ?_
       repeat' ((first | refine hfk ?_ ?_<;>intros | refine hik ?_)<;>refine hgS ?_)
       all_goals try (exfalso;omega)
       refine zjb 2 (fun ξ=>vfe.pre h1 (xa8 V T) rfl rfl) rfl rfl ?_;refine hg ?_
       repeat' ((first | refine hfk ?_ ?_<;>intros | refine hik ?_)<;>refine hgS ?_)
       all_goals first
        | (exfalso;omega)
        | exact StH.zx4 rfl (by kernel_rfl) rfl
      | true=>
       rcases r2 with e | b
       . have he:¬e=0:=hk2;refine vfe.run [] Go.Proofs.Tryz.func100 rfl rfl ?_;simp only [Go.Proofs.Tryz.f100];refine hgR ?_;refine hg ?_;refine zjb 2 (fun ξ=>vfe.pre h0 (xa8 V T) rfl rfl) rfl rfl ?_;clear h0;refine hg ?_
         repeat' ((first | refine hfk ?_ ?_<;>intros | refine hik ?_)<;>refine hgS ?_)
         all_goals try (exfalso;omega)
         refine zjb 2 (fun ξ=>vfe.pre h1 (xa8 V T) rfl rfl) rfl rfl ?_;refine hg ?_
         repeat' ((first | refine hfk ?_ ?_<;>intros | refine hik ?_)<;>refine hgS ?_)
         all_goals try (exfalso;omega)
         refine zjb 2 (fun ξ=>vfe.pre h2 (xa8 V T) rfl rfl) rfl rfl ?_;refine hg ?_
         repeat' ((first | refine hfk ?_ ?_<;>intros | refine hik ?_)<;>refine hgS ?_)
         all_goals first
          | (exfalso;omega)
          | exact StH.krE rfl (by kernel_rfl) rfl rfl
       . have hH:∀ v w,a=.num v->b=.num w->CallsD Γ prog 148 [.agg (ivC v),.agg (ivC w)] (ivR (v.hull w)):=fun v w e1 e2=>by
          subst e1;subst e2;exact yul v w hk1 hk2
         rcases a with ⟨c,d⟩ | v<;>rcases b with ⟨c',d'⟩ | w
         . clear hH;refine vfe.run [] Go.Proofs.Tryz.func100 rfl rfl ?_;simp only [Go.Proofs.Tryz.f100];refine hgR ?_;refine hg ?_;refine zjb 2 (fun ξ=>vfe.pre h0 (xa8 V T) rfl rfl) rfl rfl ?_;clear h0;refine hg ?_
           repeat' ((first | refine hfk ?_ ?_<;>intros | refine hik ?_)<;>refine hgS ?_)
           all_goals try (exfalso;omega)
           refine zjb 2 (fun ξ=>vfe.pre h1 (xa8 V T) rfl rfl) rfl rfl ?_;refine hg ?_
           repeat' ((first | refine hfk ?_ ?_<;>intros | refine hik ?_)<;>refine hgS ?_)
           all_goals try (exfalso;omega)
           refine zjb 2 (fun ξ=>vfe.pre h2 (xa8 V T) rfl rfl) rfl rfl ?_;refine hg ?_
           repeat' ((first | refine hfk ?_ ?_<;>intros | refine hik ?_)<;>refine hgS ?_)
           all_goals first
            | (exfalso;omega)
            | (subst_vars;exact StH.zx4 rfl (by kernel_rfl) rfl)
         . clear hH;refine vfe.run [] Go.Proofs.Tryz.func100 rfl rfl ?_;simp only [Go.Proofs.Tryz.f100];refine hgR ?_;refine hg ?_;refine zjb 2 (fun ξ=>vfe.pre h0 (xa8 V T) rfl rfl) rfl rfl ?_;clear h0;refine hg ?_
           repeat' ((first | refine hfk ?_ ?_<;>intros | refine hik ?_)<;>refine hgS ?_)
           all_goals try (exfalso;omega)
           refine zjb 2 (fun ξ=>vfe.pre h1 (xa8 V T) rfl rfl) rfl rfl ?_;refine hg ?_
           repeat' ((first | refine hfk ?_ ?_<;>intros | refine hik ?_)<;>refine hgS ?_)
           all_goals try (exfalso;omega)
           refine zjb 2 (fun ξ=>vfe.pre h2 (xa8 V T) rfl rfl) rfl rfl ?_;refine hg ?_
           repeat' ((first | refine hfk ?_ ?_<;>intros | refine hik ?_)<;>refine hgS ?_)
           all_goals first
            | (exfalso;omega)
            | exact StH.krE rfl (by kernel_rfl) rfl rfl
         . clear hH;refine vfe.run [] Go.Proofs.Tryz.func100 rfl rfl ?_;simp only [Go.Proofs.Tryz.f100];refine hgR ?_;refine hg ?_;refine zjb 2 (fun ξ=>vfe.pre h0 (xa8 V T) rfl rfl) rfl rfl ?_;clear h0;refine hg ?_
           repeat' ((first | refine hfk ?_ ?_<;>intros | refine hik ?_)<;>refine hgS ?_)
           all_goals try (exfalso;omega)
           refine zjb 2 (fun ξ=>vfe.pre h1 (xa8 V T) rfl rfl) rfl rfl ?_;refine hg ?_
           repeat' ((first | refine hfk ?_ ?_<;>intros | refine hik ?_)<;>refine hgS ?_)
           all_goals try (exfalso;omega)
           refine zjb 2 (fun ξ=>vfe.pre h2 (xa8 V T) rfl rfl) rfl rfl ?_;refine hg ?_
           repeat' ((first | refine hfk ?_ ?_<;>intros | refine hik ?_)<;>refine hgS ?_)
           all_goals first
            | (exfalso;omega)
            | exact StH.krE rfl (by kernel_rfl) rfl rfl
         . have hH:=hH v w rfl rfl;refine vfe.run [] Go.Proofs.Tryz.func100 rfl rfl ?_;simp only [Go.Proofs.Tryz.f100];refine hgR ?_;refine hg ?_;refine zjb 2 (fun ξ=>vfe.pre h0 (xa8 V T) rfl rfl) rfl rfl ?_;clear h0;refine hg ?_
           repeat' ((first | refine hfk ?_ ?_<;>intros | refine hik ?_)<;>refine hgS ?_)
           all_goals try (exfalso;omega)
           refine zjb 2 (fun ξ=>vfe.pre h1 (xa8 V T) rfl rfl) rfl rfl ?_;refine hg ?_
           repeat' ((first | refine hfk ?_ ?_<;>intros | refine hik ?_)<;>refine hgS ?_)
           all_goals try (exfalso;omega)
           refine zjb 2 (fun ξ=>vfe.pre h2 (xa8 V T) rfl rfl) rfl rfl ?_;refine hg ?_
           repeat' ((first | refine hfk ?_ ?_<;>intros | refine hik ?_)<;>refine hgS ?_)
           all_goals try (exfalso;omega)
           repeat' ((first | refine hfk ?_ ?_<;>intros | refine hik ?_ | with_reducible first | refine v6l (hH) ?_ | refine vgi (hH) ?_)<;>refine hgS ?_)
           all_goals first
            | (exfalso;omega)
            | exact StH.zx4 rfl (by kernel_rfl) rfl
 . skip
   refine vfe.run [] Go.Proofs.Tryz.func100 rfl rfl ?_;simp only [Go.Proofs.Tryz.f100];refine hgR ?_;refine hg ?_;refine zjb 2 (fun ξ=>vfe.pre h0 (xa8 V T) rfl rfl) rfl rfl ?_;clear h0;refine hg ?_
   repeat' ((first | refine hfk ?_ ?_<;>intros | refine hik ?_)<;>refine hgS ?_)
   all_goals first
    | (exfalso;omega)
    | exact StH.krE rfl (by kernel_rfl) rfl rfl
def tbH:Option Tb->List HC
 | none=>[.dat (cS ⟨⟨[]⟩⟩),.dat (cS ⟨⟨[]⟩⟩),.dat .zc]
 | some t=>(tbC t).map .dat
structure OpF (T:Vt) (o:Int) (lk:Option Tb) (ks:List Kn) (b2:Bool) (O:Kr):Prop where
 e11:b2=true->lk=none->O=.inl 11
 e13:(b2=true->lk.isSome=true)->(∃ j,j<ks.length/\(ks.getD j default).t≠ze4 o)->O=.inl 13
 log:b2=false->ze4 o=true->(∀ j,j<ks.length->(ks.getD j default).t=true)->O=.inr (truH o (ks.getD 0 default) (ks.getD 1 default))
 look:∀ t,b2=true->lk=some t->(∀ j,j<ks.length->(ks.getD j default).t=false)->O=x7a t (ks.getD 0 default).v
 num:b2=false->ze4 o=false->(∀ j,j<ks.length->(ks.getD j default).t=false)->O=numH o (ks.getD 0 default).v (ks.getD 1 default).v
theorem vpr {T:Vt} {o:Int} {s:ByteArray} {ks:List Kn} (_ho:2<=o/\o<=15) (_h3:o≠3) (_h5:o≠5):OpF T o (ycr T s) ks (decide (o=2)) (opH T o s ks):=by
 have hany:(∀ j,j<ks.length->(ks.getD j default).t=ze4 o)->ks.any (fun k=>!(k.t==ze4 o))=false:=fun h=>by
  rw [List.any_eq_false];intro k hk;obtain ⟨i,hi,rfl⟩:=List.getElem_of_mem hk
  have:=h i hi
  rw [show ks.getD i default=ks[i] by simp [hi]] at this;simp [this]
 have h2l:decide (o=2)=true->ze4 o=false:=fun h=>by rw [of_decide_eq_true h];rfl
 unfold opH;refine ⟨fun h1 h2=>?_,fun h1 h2=>?_,fun h1 h2 h6=>?_,fun t h1 h2 h6=>?_,fun h1 h2 h6=>?_⟩
 . rw [h1,h2];rfl
 . have:(decide (o=2)&&!(ycr T s).isSome)=false:=by
    cases hd:decide (o=2) with
    | false=>rfl
    | true=>rw [h1 hd];rfl
   obtain ⟨j,hj,hne⟩:=h2;rw [this,show ks.any (fun k=>!(k.t==ze4 o))=true from List.any_eq_true.2 ⟨_,w4t hj,by simpa using hne⟩];rfl
 . rw [h1,hany (fun j hj=>(h6 j hj).trans h2.symm),h2];rfl
 . rw [h1,h2,hany (fun j hj=>(h6 j hj).trans (h2l h1).symm),h2l h1];rfl
 . rw [h1,hany (fun j hj=>(h6 j hj).trans h2.symm),h2];rfl
theorem x98 (o:Int) (ks:List Kn) (ho:ze4 o=true) (hl:ks.length<=1073741824) (h0:0<ks.length) (h1:o≠4->ks.length=2) (ha:∀ j,j<ks.length->(ks.getD j default).t=true) :
 CallsD Γ prog 101 [.one (cI o),.one (.sl 11 (ks.map Kn.C))] (.agg (knC (truH o (ks.getD 0 default) (ks.getD 1 default)))):=by
 have t0:=ha 0 h0
 cases hk0:ks.getD 0 default with
 | num v=>rw [hk0] at t0;cases t0
 | tru c d=>
  by_cases h4:o=4
  . have:=x82 (Γ:=Γ) o ks ho c d false false h0 (fun h=>absurd h4 h) hl hk0 (fun h=>absurd h4 h)
    subst h4;exact this
  . have hl2:=h1 h4;have t1:=ha 1 (by omega)
    cases hk1:ks.getD 1 default with
    | num v=>rw [hk1] at t1;cases t1
    | tru c' d'=>exact x82 o ks ho c d c' d' h0 (fun _=>by omega) hl hk0 (fun _=>hk1)
theorem x56 {o:Int} {a b c:Bool} (h1:decide (o=4)=a) (h2:decide (o=14)=b) (h3:decide (o=15)=c):ze4 o=(a||b||c):=by unfold ze4;rw [h1,h2,h3]
theorem yk3 {B:Nat} (hB:4300<=B) (V:Vi) (T:Vt) (hV:Ism B V) (hT:∀ s t,ycr T s=some t->t.Sm/\tbOk t=true):∀ x:Ex,x.Sm->x.shaped=true->x.xi4=false->B*x.nd<=33554400->vfe Γ prog 61 [mI V,mB T] [.agg [.mp 0,.mp 1],.agg ((exC x).map .dat)] [mI V,mB T] (krV (x.hul V T)):=by
 refine Ex.ind (fun x ih hx hsh hcl hnd=>?_);have hl:=hx.len;have hul:=Ex.y5j V T x
 have hnode:yxn x=true:=by rw [Ex.xg3,Bool.and_eq_true] at hsh;exact hsh.1
 have hargs:∀ y∈x.args,y.shaped=true:=by rw [Ex.xg3,Bool.and_eq_true,List.all_eq_true] at hsh;exact hsh.2
 have hcalls:x.op≠3/\∀ y∈x.args,y.xi4=false:=by
  rw [Ex.wd9,Bool.or_eq_false_iff,decide_eq_false_iff_not,List.any_eq_false] at hcl;exact ⟨hcl.1,fun y hy=>by simpa using hcl.2 y hy⟩
 have hnds:∀ y∈x.args,B*y.nd<=33554400:=fun y hy=>Nat.le_trans (Nat.mul_le_mul_left _ (by have:=Ex.xks hy;have:=Ex.yuy x;omega)) hnd
 have hok:∀ y∈x.args,Kok 33554400 (y.hul V T):=fun y hy=>(zfk hB hV hT y (hargs y hy) (hcalls.2 y hy)).mono (hnds y hy)
 by_cases h0:x.op=0
 . rw [decide_eq_true h0,cond_true] at hul;have hn:=zta hnode h0;have hlf:=zpn (Γ:=Γ) V T x hx (by unfold inI;omega) h0;rw [hul];refine vfe.run [] Go.Proofs.Tryz.func61 rfl rfl ?_;simp only [Go.Proofs.Tryz.f61];refine hgR ?_
   repeat' ((first | refine hfk ?_ ?_<;>intros | refine hik ?_)<;>refine hgS ?_)
   all_goals try (exfalso;omega)
   all_goals
    rw [show cI 0=cI x.op by rw [h0]];refine xwg (vfe.pre hlf (xa8 V T) rfl rfl) ?_;refine hg ?_;exact StH.zx4 rfl (by kernel_rfl) rfl
 rw [decide_eq_false h0,cond_false] at hul;by_cases h1:x.op=1
 . rw [decide_eq_true h1,cond_true] at hul;have hlf:=wpi (Γ:=Γ) V T x h1;rw [hul];refine vfe.run [] Go.Proofs.Tryz.func61 rfl rfl ?_;simp only [Go.Proofs.Tryz.f61];refine hgR ?_
   repeat' ((first | refine hfk ?_ ?_<;>intros | refine hik ?_)<;>refine hgS ?_)
   all_goals try (exfalso;omega)
   all_goals
    rw [show cI 1=cI x.op by rw [h1]];refine xwg (vfe.pre hlf (xa8 V T) rfl rfl) ?_;refine hg ?_;exact StH.zx4 rfl (by kernel_rfl) rfl
 rw [decide_eq_false h1,cond_false] at hul;obtain ⟨o1,o2,a1,a2,a3⟩:=xab hnode hcalls.1 h0 h1;by_cases h5:x.op=5
 . rw [decide_eq_true h5,cond_true] at hul;have hl3:=a2 h5
   have hm:=fun i (hi:i<3)=>w4t (show i<x.args.length by omega)
   have hev:=fun i (hi:i<3)=>ih _ (hm i hi) (hx.arg _ (hm i hi)) (hargs _ (hm i hi)) (hcalls.2 _ (hm i hi)) (hnds _ (hm i hi))
   rw [hul,getD_map (show 0<x.args.length by omega),getD_map (show 1<x.args.length by omega),getD_map (show 2<x.args.length by omega)];have hch:=zvv (Γ:=Γ) V T x (by omega) hl _ _ _ ((hok _ (hm 0 (by decide))).mono (by decide)) ((hok _ (hm 1 (by decide))).mono (by decide)) ((hok _ (hm 2 (by decide))).mono (by decide)) (hev 0 (by decide)) (hev 1 (by decide)) (hev 2 (by decide));refine vfe.run [] Go.Proofs.Tryz.func61 rfl rfl ?_;simp only [Go.Proofs.Tryz.f61];refine hgR ?_
   repeat' ((first | refine hfk ?_ ?_<;>intros | refine hik ?_)<;>refine hgS ?_)
   all_goals try (exfalso;omega)
   all_goals
    rw [show cI 5=cI x.op by rw [h5]];refine xwg (vfe.pre hch (xa8 V T) rfl rfl) ?_;refine hg ?_;exact StH.zx4 rfl (by kernel_rfl) rfl
 rw [decide_eq_false h5,cond_false] at hul;rw [hul];clear hul hnd hV;generalize hS:seqH (x.args.map (Ex.hul V T))=S;refine vfe.run [] Go.Proofs.Tryz.func61 rfl rfl ?_;simp only [Go.Proofs.Tryz.f61];refine hgR ?_
 repeat' ((first | refine hfk ?_ ?_<;>intros | refine hik ?_)<;>refine hgS ?_)
 all_goals try (exfalso;omega)
 refine y55 [2,3,4,5,34,35] (fun p:Nat×List Kn=>[(6,.one (.sl 5 11 0 p.2.length)),(36,.one (.dat (cI p.1)))])
  (fun p=>[mI V,mB T,.box [.mp 0,.mp 1] (some 126),.box ((exC x).map .dat) (some 24),.box ((krZ false false false).map .dat) (some 89),.arr (.sl 11 (p.2.map Kn.C)) 0 (some 89)])
  (fun p=>p.1<=x.args.length/\p.2.length=p.1/\(∀ k∈p.2,Kok 33554400 (.inr k))/\S=match seqH ((x.args.drop p.1).map (Ex.hul V T)) with
    | .inl e=>.inl e
    | .inr r=>.inr (p.2++r)) (fun p=>x.args.length-p.1) (0,[]) ⟨Nat.zero_le _,rfl,fun r hr=>(by cases hr),by simp only [List.drop_zero,List.nil_append];rw [hS];cases S<;>rfl⟩ ?_ ?_
 . refine hg ?_;refine StH.trans (StH.empty (d:=6) (es:=11) (c:=.sl 11 []) (T:=some 89) rfl rfl (fun r hr=>by cases hr) rfl) ?_;refine hg ?_;exact StH.same svl rfl
 clear hS;rintro ⟨i,ks⟩ ⟨q1,q2,q3,q4⟩;simp only at q1 q2 q3 q4;refine hg ?_;refine vnx (fun hlt _=>?_) (fun hlt _=>?_)
 . have hlt':i<x.args.length:=by omega
   have hy:=w4t hlt';rw [xqz hlt',List.map_cons] at q4;have hky:=hok _ hy;refine hg ?_;refine xwg (vfe.pre (ih _ hy (hx.arg _ hy) (hargs _ hy) (hcalls.2 _ hy) (hnds _ hy)) (xa8 V T) rfl rfl) ?_;clear ih hok;generalize hr:Ex.hul V T (x.args.getD i default)=r at q4 hky ⊢
   rcases r with e | k
   . have he:¬e=0:=hky;rw [seqH] at q4;have q4':S=.inl e:=q4;rw [q4'];refine hg ?_
     repeat' ((first | refine hfk ?_ ?_<;>intros | refine hik ?_)<;>refine hgS ?_)
     all_goals first
      | (exfalso;omega)
      | exact StH.krE rfl (by kernel_rfl) rfl rfl
   . rw [seqH] at q4
     have q4':S=match seqH ((x.args.drop (i+1)).map (Ex.hul V T)) with
      | .inl e=>.inl e
      | .inr r=>.inr ((ks++[k])++r):=by
      rw [q4]
      cases seqH ((x.args.drop (i+1)).map (Ex.hul V T)) with
      | inl e=>rfl
      | inr r=>simp only [List.append_assoc,List.singleton_append]
     clear q4
     have hmap:ks.map Kn.C++[knC k]=(ks++[k]).map Kn.C:=by simp;rfl
     refine hg ?_
     repeat' ((first | refine hfk ?_ ?_<;>intros | refine hik ?_)<;>refine hgS ?_)
     all_goals try (exfalso;omega)
     rw [hmap]
     refine ⟨(i+1,ks++[k]),⟨by dsimp only;omega,by dsimp only;rw [List.length_append,List.length_singleton,q2],fun r hr'=>by
      rcases List.mem_append.1 hr' with h | h
      . exact q3 r h
      . rw [List.mem_singleton.1 h];exact hky,q4'⟩,by dsimp only;omega,?_⟩
     refine StH.xuw [2,3,4,5,6,34,35,36] 5 8 6 rfl rfl rfl rfl rfl rfl rfl (by kernel_rfl) ?_;refine hg ?_;exact StH.same svl rfl
 . have q4':S=.inr ks:=by rw [q4,List.drop_eq_nil_of_le (by omega)];show (match seqH [] with | .inl e=>Sum.inl e | .inr r=>Sum.inr (ks++r))=_;rw [seqH];simp only [List.append_nil]
   rw [q4'];clear q4 q4' ih hok
   have hlen:ks.length=x.args.length:=by omega
   have hlen0:0<ks.length:=by omega
   have hO:zj9 T x.op x.name (.inr ks)=opH T x.op x.name ks:=rfl;rw [hO];clear hO;have hop:=vpr (T:=T) (s:=x.name) (ks:=ks) ⟨o1,o2⟩ hcalls.1 h5;generalize hO:opH T x.op x.name ks=O at hop ⊢;clear hO
   have l1:=fun h=>(hlen.trans (a1 h))
   have l2:=fun p q=>hlen.trans (a3 p q h5)
   clear a1 a2 a3;obtain ⟨tbx,htb⟩:∃ tbx,tbx=tbH (ycr T x.name):=⟨_,rfl⟩;obtain ⟨b2,e2⟩:∃ b,decide (x.op=2)=b:=⟨_,rfl⟩;obtain ⟨b4,e4⟩:∃ b,decide (x.op=4)=b:=⟨_,rfl⟩;obtain ⟨b14,e14⟩:∃ b,decide (x.op=14)=b:=⟨_,rfl⟩;obtain ⟨b15,e15⟩:∃ b,decide (x.op=15)=b:=⟨_,rfl⟩
   cases b2<;>cases b4<;>cases b14<;>cases b15
   all_goals
    have f2:=e2;have f4:=e4;have f14:=e14;have f15:=e15;simp only [decide_eq_true_eq,decide_eq_false_iff_not] at f2 f4 f14 f15
    first
     | (exfalso;omega)
     | clear f2 f4 f14 f15
   all_goals
    cases hlk:ycr T x.name
    all_goals
     rw [hlk] at hop htb;rw [e2] at hop
     conv=>simp (maxSteps:=2000000) (disch:=omega) only [go_sem,Nat.reduceAdd,Nat.reduceSub,Nat.reduceMul,Int.reduceToNat,Nat.reduceEqDiff,Nat.reduceBEq,Nat.reduceBneDiff,Nat.reduceLT,Int.reduceEq,Int.reduceLT,Int.reduceLE,Int.reduceNeg,Int.reduceAdd,Int.reduceSub,Int.reduceMul,hlk,e2,e4,e14,e15]
     repeat' ((first | refine hfk ?_ ?_<;>intros | refine hik ?_)<;>refine hgS ?_)
     all_goals first
      | exact StH.krE rfl (by kernel_rfl) rfl (hop.e11 rfl rfl)
      | skip
   all_goals
    have el:=x56 e4 e14 e15;simp only [Bool.or_self,Bool.or_true,Bool.or_false] at el;refine y55 [2,3,4,5,6,11,12,13,84,85] (fun n:Nat=>[(86,.one (.dat (cI n)))])
     (fun _=>[mI V,mB T,.box [.mp 0,.mp 1] (some 126),.box ((exC x).map .dat) (some 24),.box ((krZ false false false).map .dat) (some 89),.arr (.sl 11 (ks.map Kn.C)) 0 (some 89),.box tbx (some 122)])
     (fun n=>n<=ks.length/\∀ j,j<n->(ks.getD j default).t=ze4 x.op) (fun n=>ks.length-n) 0 ⟨Nat.zero_le _,fun j hj=>absurd hj (Nat.not_lt_zero _)⟩ ?_ ?_
    . refine hg ?_;exact StH.same svl (by rw [htb];rfl)
    rintro n ⟨n1,n2⟩;refine hg ?_;refine vnx (fun hlt _=>?_) (fun hlt _=>?_)
    . have hlt':n<ks.length:=by omega
      refine hg ?_
      repeat' ((first | refine hfk ?_ ?_<;>intros | refine hik ?_)<;>refine hgS ?_)
      . rename_i ht;exact StH.krE rfl (by kernel_rfl) rfl (hop.e13 (fun h=>by first | rfl | cases h) ⟨n,hlt',fun h=>by rw [ht,el] at h;cases h⟩)
      . rename_i ht;refine ⟨n+1,⟨by omega,xrx (by first | exact n2 | (rw [<-el];exact n2)) ht⟩,by omega,?_⟩;subst htb;refine StH.xuw [2,3,4,5,6,11,12,13,84,85,86] 2 2 7 rfl rfl rfl rfl rfl rfl rfl (by kernel_rfl) ?_;refine hg ?_;exact StH.same svl rfl
    . have hall : ∀ j, j < ks.length → (ks.getD j default).t = ze4 x.op := fun j hj => n2 j (by omega)
      rw [el] at hall;clear n2;have hz0:=q3 _ (w4t (show 0<ks.length by omega));subst htb
      first
       | (have hO:=hop.log rfl el hall
          have hk:=x98 (Γ:=Γ) x.op ks el (by omega) hlen0 (l2 (of_decide_eq_false e2)) hall;rw [hO];refine hg1 @e2 ?_
          repeat' ((first | refine hfk ?_ ?_<;>intros | refine hik ?_ | with_reducible first | refine v6l (hk) ?_ | refine vgi (hk) ?_)<;>refine hgS ?_)
          exact StH.zx4 rfl (by kernel_rfl) rfl)
       | (have hO:=hop.look _ rfl rfl hall
          have ht0:=hall 0 hlen0
          cases hk0:ks.getD 0 default with
          | tru c d=>rw [hk0] at ht0;cases ht0
          | num v=>
           rw [hk0] at hz0 hO;have hz0:ivZ v<=33554400:=hz0;obtain ⟨hm1,hm2⟩:=hT _ _ hlk;have hk:=vcn (Γ:=Γ) _ v (by omega) hm2 hm1;rw [hO];refine hg3 @e2 @hk0 @tbH.eq_def ?_
           repeat' ((first | refine hfk ?_ ?_<;>intros | refine hik ?_ | with_reducible first | refine v6l (hk) ?_ | refine vgi (hk) ?_)<;>refine hgS ?_)
           exact StH.zx4 rfl (by kernel_rfl) rfl)
       | (have hO:=hop.num rfl el hall
          have h24:x.op≠2/\x.op≠4/\x.op≠14/\x.op≠15:=⟨of_decide_eq_false e2,of_decide_eq_false e4,of_decide_eq_false e14,of_decide_eq_false e15⟩;have hl2:=l2 h24.1 h24.2.1;have ht0:=hall 0 hlen0;have ht1:=hall 1 (by omega);have hz1:=q3 _ (w4t (show 1<ks.length by omega))
          cases hk0:ks.getD 0 default with
          | tru c d=>rw [hk0] at ht0;cases ht0
          | num v=>cases hk1:ks.getD 1 default with
           | tru c d=>rw [hk1] at ht1;cases ht1
           | num w=>
            rw [hk0] at hz0 hO;rw [hk1] at hz1 hO;have hk:=zb8 (Γ:=Γ) x.op (by omega) v w hz0 hz1;rw [hO];clear h24;refine hg3 @e2 @hk0 @hk1 ?_
            repeat' ((first | refine hfk ?_ ?_<;>intros | refine hik ?_ | with_reducible first | refine v6l (hk) ?_ | refine vgi (hk) ?_)<;>refine hgS ?_)
            exact StH.zx4 rfl (by kernel_rfl) rfl)
theorem xuz (f:FuncId) (l:List SV):z0y (.clo f l)=l.flatMap vp6:=rfl
attribute [go_sem] xuz
theorem v7h (V:Vq) (T:Vt) (a c d:SB) (b:Bool):StH Γ [] [SV.tup [.agg [.mp 1,.mp 2],.one (.dat (cB b))]] [a,mQ V,mB T,c,d] [SV.tup [.agg [.mp 0,.mp 1],.one (.dat (cB b))]] [mQ V,mB T]:=by
 have e1:swL 0 1 [a,mQ V,mB T,c,d]=[mQ V,swSB 0 1 a,mB T,swSB 0 1 c,swSB 0 1 d]:=by
  show [swSB 0 1 (mQ V),swSB 0 1 a,swSB 0 1 (mB T),swSB 0 1 c,swSB 0 1 d]=_;rw [v9y,w2a]
 have e2:swL 1 2 [mQ V,swSB 0 1 a,mB T,swSB 0 1 c,swSB 0 1 d]=[mQ V,mB T,swSB 1 2 (swSB 0 1 a),swSB 1 2 (swSB 0 1 c),swSB 1 2 (swSB 0 1 d)]:=by
  show [swSB 1 2 (mQ V),swSB 1 2 (mB T),swSB 1 2 (swSB 0 1 a),swSB 1 2 (swSB 0 1 c),swSB 1 2 (swSB 0 1 d)]=_;rw [v9y,w2a]
 have h1:=StH.xn2 (Γ:=Γ) (e:=[]) (σ:=[SV.tup [.agg [.mp 1,.mp 2],.one (.dat (cB b))]]) (η:=[a,mQ V,mB T,c,d]) (i:=0) (j:=1) (by decide) (by decide) (by simp) (by simp);have h2:=StH.xn2 (Γ:=Γ) (e:=[]) (σ:=[SV.tup [.agg [.mp 0,.mp 2],.one (.dat (cB b))]]) (η:=[mQ V,swSB 0 1 a,mB T,swSB 0 1 c,swSB 0 1 d]) (i:=1) (j:=2) (by decide) (by decide) (by simp) (by simp)
 have h3:=StH.cutB (Γ:=Γ) (e:=[]) (σ:=[SV.tup [.agg [.mp 0,.mp 1],.one (.dat (cB b))]]) (η:=[mQ V,mB T,swSB 1 2 (swSB 0 1 a),swSB 1 2 (swSB 0 1 c),swSB 1 2 (swSB 0 1 d)]) 2 (by decide) (by
  unfold x2g;show (_&&([mQ V,mB T].all fun x=>(z0y x).all fun b=>Nat.blt b 2))=true
  simp only [List.all_cons,xia,y7o,List.all_nil];rfl)
 rw [e1] at h1;rw [e2] at h2;exact h1.trans (h2.trans h3)
def entB:Option (Vq×Vt)->List SB
 | none=>[]
 | some p=>[mQ p.1,mB p.2]
def entR:Option (Vq×Vt)->SV
 | none=>.tup [.agg [.any,.any],.one (.dat (cB false))]
 | some _=>.tup [.agg [.mp 0,.mp 1],.one (.dat (cB true))]
theorem z2w (bs:List Bd) (ms:List Tb) (hb:bs.length<=1073741824) (hm:ms.length<=1073741824) (hbs:∀ b∈bs,b.name.size<=1073741824/\b.v.sz<=268435456) (hms:∀ t∈ms,t.Sm) :
 vfe Γ prog 50 [] [.one (.dat (.sl 5 (bs.map Bd.C))),.one (.dat (.sl 3 (ms.map Tb.C)))] (entB (entF bs ms)) (entR (entF bs ms)):=by
 refine vfe.run [(2,[.clo])] Go.Proofs.Tryz.func50 rfl rfl ?_;simp only [Go.Proofs.Tryz.f50];refine hgR ?_;refine y55 [0,1,4,6,7,16,17] (fun p:Nat×Vq=>[(18,.one (.dat (cI p.1)))]) (fun p=>[.box [.dat (.raw (.map none)),.dat (.raw (.map none))] (some 110),mQ p.2,mB [],scB,.clo 83 [.one (.ptr 3 0)]])
  (fun p=>p.1<=bs.length/\rB [] bs=rB p.2 (bs.drop p.1)) (fun p=>bs.length-p.1) (0,[]) ⟨Nat.zero_le _,rfl⟩ ?_ ?_
 . refine hg ?_;exact StH.same svl rfl
 rintro ⟨i,V⟩ ⟨h1,h2⟩;simp only at h1 h2;refine hg ?_;refine vnx (fun hlt _=>?_) (fun hlt _=>?_)
 . have hlt':i<bs.length:=by omega
   have hy:=hbs _ (w4t hlt');rw [xqz hlt'] at h2
   have hbad:rB [] bs=none->entF bs ms=none:=fun h=>by unfold entF entG;rw [show gE Bd.name (fun b=>decide b.v.ok) (fun b=>b.v.val) (fun _=>false) [] bs=none from h]
   refine hg ?_;refine xwg (vyh V [] (bs.getD i default).name hy.1 _ _ _) ?_
   have h2':rB [] bs=bif ((ycr V (bs.getD i default).name).isSome||(ycr ([]:Vt) (bs.getD i default).name).isSome||!isName (bs.getD i default).name||isWord (bs.getD i default).name)||!decide (bs.getD i default).v.ok then none else rB (updF V (bs.getD i default).name (bs.getD i default).v.val) (bs.drop (i+1)):=h2
   clear h2;generalize ((ycr V (bs.getD i default).name).isSome||(ycr ([]:Vt) (bs.getD i default).name).isSome||!isName (bs.getD i default).name||isWord (bs.getD i default).name)=X at *;generalize bs.getD i default=b at *;obtain ⟨nm,v⟩:=b;simp only at hy h2';by_cases hok:v.ok
   . obtain ⟨q,rfl⟩:=xp2 hok;have hr:CallsD Γ prog 44 [.agg (qC (some q))] (.one (cB true)):=wi7 (some q) hy.2;rw [decide_eq_true hok,show (qF (some q)).val=q from Fc.w2h q] at h2';clear hok
     cases X with
     | true=>
      rw [hbad h2'];refine hg ?_
      repeat' ((first | refine hfk ?_ ?_<;>intros | refine hik ?_)<;>refine hgS ?_)
      exact wvc
     | false=>
      refine hg ?_
      repeat' ((first | refine hfk ?_ ?_<;>intros | refine hik ?_ | with_reducible first | refine v6l (hr) ?_ | refine vgi (hr) ?_)<;>refine hgS ?_)
      refine ⟨(i+1,updF V nm q),⟨by dsimp only;omega,by first | exact h2' | rfl⟩,by dsimp only;omega,?_⟩;refine StH.cutN [0,1,4,6,7,16,17,18] 5 rfl ?_ ?_
      . refine hg ?_;exact trivial
      exact StH.same svl rfl
   . have hr:CallsD Γ prog 44 [.agg [.raw (.int .i64 v.s),.ints .i64 v.L,.raw (.int .i64 v.t),.ints .i64 v.M]] (.one (cB false)):=by
      have:=xau (Γ:=Γ) v hy.2
      rw [decide_eq_false hok] at this;exact this
     rw [hbad (by rw [h2',decide_eq_false hok];cases X<;>rfl)];clear hbad h2' hok
     cases X with
     | true=>
      refine hg ?_
      repeat' ((first | refine hfk ?_ ?_<;>intros | refine hik ?_)<;>refine hgS ?_)
      exact wvc
     | false=>
      refine hg ?_
      repeat' ((first | refine hfk ?_ ?_<;>intros | refine hik ?_ | with_reducible first | refine v6l (hr) ?_ | refine vgi (hr) ?_)<;>refine hgS ?_)
      exact wvc
 . have hV:rB [] bs=some V:=by rw [h2,List.drop_eq_nil_of_le (by omega)];rfl
   clear h2 h1 hlt hbs
   have hbad:rTb V [] ms=none->entF bs ms=none:=fun h=>by
    unfold entF entG;rw [show gE Bd.name (fun b=>decide b.v.ok) (fun b=>b.v.val) (fun _=>false) [] bs=some V from hV];show Option.map _ (rTb V [] ms)=none;rw [h];rfl
   have hgood:∀ T,rTb V [] ms=some T->entF bs ms=some (V,T):=fun T h=>by
    unfold entF entG;rw [show gE Bd.name (fun b=>decide b.v.ok) (fun b=>b.v.val) (fun _=>false) [] bs=some V from hV];show Option.map _ (rTb V [] ms)=_;rw [h];rfl
   clear hV;refine hg ?_;refine y55 [4,6,7,41,42] (fun p:Nat×Vt=>[(43,.one (.dat (cI p.1)))]) (fun p=>[.box [.dat (.raw (.map none)),.dat (.raw (.map none))] (some 110),mQ V,mB p.2,scB,.clo 83 [.one (.ptr 3 0)]])
    (fun p=>p.1<=ms.length/\rTb V [] ms=rTb V p.2 (ms.drop p.1)) (fun p=>ms.length-p.1) (0,[]) ⟨Nat.zero_le _,rfl⟩ ?_ ?_
   . refine hg ?_;exact StH.same svl rfl
   rintro ⟨j,T⟩ ⟨h1,h2⟩;simp only at h1 h2;refine hg ?_;refine vnx (fun hlt _=>?_) (fun hlt _=>?_)
   . have hlt':j<ms.length:=by omega
     have hy:=hms _ (w4t hlt');rw [xqz hlt'] at h2;have hr:=vv4 (Γ:=Γ) _ hy.n hy.u hy.r;refine hg ?_;refine xwg (vyh V T (ms.getD j default).name hy.n _ _ _) ?_
     have h3:rTb V [] ms=bif ((ycr T (ms.getD j default).name).isSome||(ycr V (ms.getD j default).name).isSome||!isName (ms.getD j default).name||isWord (ms.getD j default).name)||!zi4 (fun s=>(zth s).2) (ms.getD j default) then none else rTb V (updF T (ms.getD j default).name (ms.getD j default)) (ms.drop (j+1)):=h2
     have h2':rTb V [] ms=bif ((ycr V (ms.getD j default).name).isSome||(ycr T (ms.getD j default).name).isSome||!isName (ms.getD j default).name||isWord (ms.getD j default).name)||!zi4 (fun s=>(zth s).2) (ms.getD j default) then none else rTb V (updF T (ms.getD j default).name (ms.getD j default)) (ms.drop (j+1)):=by
      rw [h3,Bool.or_comm (ycr T (ms.getD j default).name).isSome]
     clear h3;clear h2 hy;generalize ((ycr V (ms.getD j default).name).isSome||(ycr T (ms.getD j default).name).isSome||!isName (ms.getD j default).name||isWord (ms.getD j default).name)=X at *;generalize zi4 (fun s=>(zth s).2) (ms.getD j default)=Y at *
     cases X with
     | true=>
      rw [hbad h2'];refine hg ?_
      repeat' ((first | refine hfk ?_ ?_<;>intros | refine hik ?_)<;>refine hgS ?_)
      exact wvc
     | false=>cases Y with
      | false=>
       rw [hbad h2'];refine hg ?_
       repeat' ((first | refine hfk ?_ ?_<;>intros | refine hik ?_ | with_reducible first | refine v6l (hr) ?_ | refine vgi (hr) ?_)<;>refine hgS ?_)
       exact wvc
      | true=>
       refine hg ?_
       repeat' ((first | refine hfk ?_ ?_<;>intros | refine hik ?_ | with_reducible first | refine v6l (hr) ?_ | refine vgi (hr) ?_)<;>refine hgS ?_)
       refine ⟨(j+1,updF T (ms.getD j default).name (ms.getD j default)),⟨by dsimp only;omega,by first | exact h2' | rfl⟩,by dsimp only;omega,?_⟩;refine StH.cutN [4,6,7,41,42,43] 5 rfl ?_ ?_
       . refine hg ?_;exact trivial
       exact StH.same svl rfl
   . have hT:rTb V [] ms=some T:=by rw [h2,List.drop_eq_nil_of_le (by omega)];rfl
     rw [hgood T hT];clear h2 h1 hlt hbad hgood hT;refine hg ?_;exact v7h V T _ _ _ true
theorem vsb (x:Ex) (bs:List Bd) (ms:List Tb) (hx:x.Sm) (hb:bs.length<=1073741824) (hm:ms.length<=1073741824) (hbs:∀ b∈bs,b.name.size<=1073741824/\b.v.sz<=330000) (hms:∀ t∈ms,t.Sm) :
 CallsD Γ prog 22 [.agg (exC x),.one (.sl 5 (bs.map Bd.C)),.one (.sl 3 (ms.map Tb.C))] (rsR (valF x bs ms)):=by
 have hr:=z2w (Γ:=Γ) bs ms hb hm (fun b h=>⟨(hbs b h).1,Nat.le_trans (hbs b h).2 (by decide)⟩) hms;have c1:=xz2 (Γ:=Γ) x hx;have c2:=xqu (Γ:=Γ) x hx
 cases hr1:xub x with
 | false=>
  rw [hr1] at c1;rw [show valF x bs ms=(⟨false,false,none⟩,2) by unfold valF;rw [hr1];rfl];refine CallsD.run [] Go.Proofs.Tryz.func22 rfl rfl rfl ?_;simp only [Go.Proofs.Tryz.f22];refine hgR ?_
  repeat' ((first | refine hfk ?_ ?_<;>intros | refine hik ?_ | with_reducible first | refine v6l (c1) ?_ | refine vgi (c1) ?_)<;>refine hgS ?_)
  exact rsEq rfl
 | true=>cases hc1:x.xi4 with
  | true=>
   rw [hr1] at c1;rw [hc1] at c2;rw [show valF x bs ms=(⟨false,false,none⟩,2) by unfold valF;rw [hr1,hc1];rfl];refine CallsD.run [] Go.Proofs.Tryz.func22 rfl rfl rfl ?_;simp only [Go.Proofs.Tryz.f22];refine hgR ?_
   repeat' ((first | refine hfk ?_ ?_<;>intros | refine hik ?_ | with_reducible first | refine v6l (c1) ?_ | refine vgi (c1) ?_ | refine v6l (c2) ?_ | refine vgi (c2) ?_)<;>refine hgS ?_)
   exact rsEq rfl
  | false=>
   rw [hr1] at c1;rw [hc1] at c2
   have hsh:x.shaped=true:=by unfold xub at hr1;rw [Bool.and_eq_true] at hr1;exact hr1.2
   cases hrd:entF bs ms with
   | none=>
    rw [hrd] at hr;rw [show valF x bs ms=(⟨false,false,none⟩,1) by unfold valF;rw [hr1,hc1,hrd];rfl]
    have hr2:∀ a b:SB,vfe Γ prog 50 [a,b] [.one (.dat (.sl 5 (bs.map Bd.C))),.one (.dat (.sl 3 (ms.map Tb.C)))] [a,b] (.tup [.agg [.any,.any],.one (.dat (cB false))]):=fun a b=>vfe.at [] (η:=[a,b]) hr (by decide) rfl rfl rfl
    refine CallsD.run [] Go.Proofs.Tryz.func22 rfl rfl rfl ?_;simp only [Go.Proofs.Tryz.f22];refine hgR ?_
    repeat' ((first | refine hfk ?_ ?_<;>intros | refine hik ?_ | with_reducible first | refine v6l (c1) ?_ | refine vgi (c1) ?_ | refine v6l (c2) ?_ | refine vgi (c2) ?_)<;>refine hgS ?_)
    refine xc5 (hr2 _ _) rfl ?_;refine hg ?_
    repeat' ((first | refine hfk ?_ ?_<;>intros | refine hik ?_)<;>refine hgS ?_)
    exact rsEq rfl
   | some p=>
    obtain ⟨V,T⟩:=p;rw [hrd] at hr;rw [show valF x bs ms=x.cal V T by unfold valF;rw [hr1,hc1,hrd];rfl]
    have hr2:∀ a b:SB,vfe Γ prog 50 [a,b] [.one (.dat (.sl 5 (bs.map Bd.C))),.one (.dat (.sl 3 (ms.map Tb.C)))] [a,b,mQ V,mB T] (.tup [.agg [.mp 2,.mp 3],.one (.dat (cB true))]):=fun a b=>by
     have h:=vfe.at [] (η:=[a,b]) hr (by decide) rfl rfl rfl
     have e:putR [] [a,b] (entB (some (V,T)))=[a,b,mQ V,mB T]:=by
      show [a,b,rnSB _ (mQ V),rnSB _ (mB T)]=_;rw [y60,xqg]
     rw [e] at h;exact h
    have hnd:=wl8 hr1;have hB:(335000:Nat)*x.nd<=67108864:=Nat.le_trans (Nat.mul_le_mul_left _ hnd) (by decide);have hc:=zz4 (Γ:=Γ) (B:=335000) (by decide) V T (y2d hrd (fun b h=>by have:=(hbs b h).2;omega)) (xhm hrd hms) x hx hsh hc1 hB;refine CallsD.run [] Go.Proofs.Tryz.func22 rfl rfl rfl ?_;simp only [Go.Proofs.Tryz.f22];refine hgR ?_
    repeat' ((first | refine hfk ?_ ?_<;>intros | refine hik ?_ | with_reducible first | refine v6l (c1) ?_ | refine vgi (c1) ?_ | refine v6l (c2) ?_ | refine vgi (c2) ?_)<;>refine hgS ?_)
    refine xc5 (hr2 _ _) rfl ?_;refine hg ?_;refine xwg (vfe.ro [2,3] hc (wlf V T) (by decide) rfl rfl) ?_;refine hg ?_;exact RLe.ofEq rfl
end Go.Hp.T
