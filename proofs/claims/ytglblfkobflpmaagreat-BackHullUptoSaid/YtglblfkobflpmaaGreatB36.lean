/- The proof, part B36: Si, Sj, Qa, Qb, Qc, Kh. -/
import Derived.Test.YtglblfkobflpmaaGreatB35
import Derived.Test.YtglblfkobflpmaaGreatB27
import Derived.Test.YtglblfkobflpmaaGreatB24
import Derived.Test.YtglblfkobflpmaaGreatB29
import Derived.Test.YtglblfkobflpmaaGreatB33
import Derived.Test.YtglblfkobflpmaaGreatB34
namespace Go.Hp.T
open Go Go.RowKit Go.Slot Go.Hp Go.Slot.T
open Go.Proofs.Tryz (prog)
attribute [local irreducible] hide RH
set_option maxRecDepth 10000
set_option maxHeartbeats 4000000
variable {Γ:List (Nat×List Cell)}
theorem yx7 {v:Iv}:(ivS v).low=qF (some v.lo):=_root_.id rfl
theorem vex {v:Iv}:(ivS v).high=qF (some v.hi):=_root_.id rfl
attribute [go_sem] yx7 vex
theorem wxa (V:Vi) (T:Vt) (a d:SB) (b:Bool):StH Γ [] [SV.tup [.agg [.mp 1,.mp 2],.one (.dat (cB b))]] [a,mI V,mB T,d] [SV.tup [.agg [.mp 0,.mp 1],.one (.dat (cB b))]] [mI V,mB T]:=by
 have e1:swL 0 1 [a,mI V,mB T,d]=[mI V,swSB 0 1 a,mB T,swSB 0 1 d]:=by
  show [swSB 0 1 (mI V),swSB 0 1 a,swSB 0 1 (mB T),swSB 0 1 d]=_;rw [v8k,vcy]
 have e2:swL 1 2 [mI V,swSB 0 1 a,mB T,swSB 0 1 d]=[mI V,mB T,swSB 1 2 (swSB 0 1 a),swSB 1 2 (swSB 0 1 d)]:=by
  show [swSB 1 2 (mI V),swSB 1 2 (mB T),swSB 1 2 (swSB 0 1 a),swSB 1 2 (swSB 0 1 d)]=_;rw [v8k,vcy]
 have h1:=StH.vim (Γ:=Γ) (e:=[]) (I:=[SV.tup [.agg [.mp 1,.mp 2],.one (.dat (cB b))]]) (J:=[a,mI V,mB T,d]) (i:=0) (j:=1) (by decide) (by decide) (by simp) (by simp);have h2:=StH.vim (Γ:=Γ) (e:=[]) (I:=[SV.tup [.agg [.mp 0,.mp 2],.one (.dat (cB b))]]) (J:=[mI V,swSB 0 1 a,mB T,swSB 0 1 d]) (i:=1) (j:=2) (by decide) (by decide) (by simp) (by simp)
 have h3:=StH.cutB (Γ:=Γ) (e:=[]) (I:=[SV.tup [.agg [.mp 0,.mp 1],.one (.dat (cB b))]]) (J:=[mI V,mB T,swSB 1 2 (swSB 0 1 a),swSB 1 2 (swSB 0 1 d)]) 2 (by decide) (by
  unfold yyj;show (_&&([mI V,mB T].all fun x=>(vb5 x).all fun b=>Nat.blt b 2))=true
  simp only [List.all_cons,xvz,wor,List.all_nil];rfl)
 rw [e1] at h1;rw [e2] at h2;exact h1.trans (h2.trans h3)
def opnB:Option (Vi×Vt)->List SB
 | none=>[]
 | some p=>[mI p.1,mB p.2]
def opnR:Option (Vi×Vt)->SV
 | none=>.tup [.agg [.any,.any],.one (.dat (cB false))]
 | some _=>.tup [.agg [.mp 0,.mp 1],.one (.dat (cB true))]
theorem w8q (zs:List Zn) (ms:List Tb) (hb:zs.length<=1073741824) (hm:ms.length<=1073741824) (hbs:∀ b∈zs,b.name.size<=1073741824/\b.s.sz<=67108864) (hms:∀ t∈ms,t.Sm) :
 xpp Γ prog 67 [] [.one (.dat (.sl 9 (zs.map Zn.C))),.one (.dat (.sl 3 (ms.map Tb.C)))] (opnB (entZ zs ms)) (opnR (entZ zs ms)):=by
 refine xpp.run [] Go.Proofs.Tryz.func67 rfl rfl ?_;simp only [Go.Proofs.Tryz.f67];refine hgR ?_;refine x20 [0,1,4,5,6,14,15] (fun p:Nat×Vi=>[(16,.one (.dat (cI p.1)))]) (fun p=>[.box [.dat (.raw (.map none)),.dat (.raw (.map none))] (some 120),mI p.2,mB [],.box [.mp 1,.mp 2] (some 120)])
  (fun p=>p.1<=zs.length/\rZ [] zs=rZ p.2 (zs.drop p.1)) (fun p=>zs.length-p.1) (0,[]) ⟨Nat.zero_le _,rfl⟩ ?_ ?_
 . refine hg ?_;exact StH.same svl rfl
 rintro ⟨i,V⟩ ⟨h1,h2⟩;simp only at h1 h2;refine hg ?_;refine vt2 (fun hlt _=>?_) (fun hlt _=>?_)
 . have hlt':i<zs.length:=by omega
   have hy:=hbs _ (y7p hlt');rw [xfc hlt'] at h2
   have hbad:rZ [] zs=none->entZ zs ms=none:=fun h=>by unfold entZ entG;rw [show gE Zn.name (fun b=>decide b.s.ok) (fun b=>ivOf b.s) (fun _=>false) [] zs=none from h]
   have h2':rZ [] zs=bif ((z2f V (zs.getD i default).name).isSome||(z2f ([]:Vt) (zs.getD i default).name).isSome||!isName (zs.getD i default).name||isWord (zs.getD i default).name)||!decide (zs.getD i default).s.ok then none else rZ (updF V (zs.getD i default).name (ivOf (zs.getD i default).s)) (zs.drop (i+1)):=h2
   clear h2;refine hg ?_;refine x6x (xpp.ro [1,2] (xk5 V [] (zs.getD i default).name hy.1) (xkn V []) (by decide) rfl rfl) ?_;generalize ((z2f V (zs.getD i default).name).isSome||(z2f ([]:Vt) (zs.getD i default).name).isSome||!isName (zs.getD i default).name||isWord (zs.getD i default).name)=X at *;generalize zs.getD i default=b at *;obtain ⟨nm,v⟩:=b;simp only at hy h2';by_cases hok:v.ok
   . obtain ⟨q,rfl⟩:=vnd hok;have hr:CallsD Γ prog 35 [.agg (ivC q)] (.one (cB true)):=yp4 q hy.2;rw [decide_eq_true hok,wdg] at h2';clear hok
     cases X with
     | true=>
      rw [hbad h2'];refine hg ?_
      repeat' ((first | refine hfk ?_ ?_<;>intros | refine hik ?_)<;>refine hgS ?_)
      exact x2c
     | false=>
      refine hg ?_
      repeat' ((first | refine hfk ?_ ?_<;>intros | refine hik ?_ | with_reducible first | refine wml (hr) ?_ | refine ysi (hr) ?_)<;>refine hgS ?_)
      refine ⟨(i+1,updF V nm q),⟨by dsimp only;omega,by first | exact h2' | rfl⟩,by dsimp only;omega,?_⟩;refine StH.cutN [0,1,4,5,6,14,15,16] 4 rfl ?_ ?_
      . refine hg ?_;exact trivial
      exact StH.same svl rfl
   . have hr:CallsD Γ prog 35 [.agg (scC v)] (.one (cB false)):=by
      have:=toD (Γ:=Γ) (zgb v hy.2 hok)
      exact this
     rw [hbad (by rw [h2',decide_eq_false hok];cases X<;>rfl)];clear hbad h2' hok
     cases X with
     | true=>
      refine hg ?_
      repeat' ((first | refine hfk ?_ ?_<;>intros | refine hik ?_)<;>refine hgS ?_)
      exact x2c
     | false=>
      refine hg ?_
      repeat' ((first | refine hfk ?_ ?_<;>intros | refine hik ?_ | with_reducible first | refine wml (hr) ?_ | refine ysi (hr) ?_)<;>refine hgS ?_)
      exact x2c
 . have hV:rZ [] zs=some V:=by rw [h2,List.drop_eq_nil_of_le (by omega)];rfl
   clear h2 h1 hlt hbs
   have hbad:rTi V [] ms=none->entZ zs ms=none:=fun h=>by
    unfold entZ entG;rw [show gE Zn.name (fun b=>decide b.s.ok) (fun b=>ivOf b.s) (fun _=>false) [] zs=some V from hV];show Option.map _ (rTi V [] ms)=none;rw [h];rfl
   have hgood:∀ T,rTi V [] ms=some T->entZ zs ms=some (V,T):=fun T h=>by
    unfold entZ entG;rw [show gE Zn.name (fun b=>decide b.s.ok) (fun b=>ivOf b.s) (fun _=>false) [] zs=some V from hV];show Option.map _ (rTi V [] ms)=_;rw [h];rfl
   clear hV;refine hg ?_;refine x20 [4,5,6,39,40] (fun p:Nat×Vt=>[(41,.one (.dat (cI p.1)))]) (fun p=>[.box [.dat (.raw (.map none)),.dat (.raw (.map none))] (some 120),mI V,mB p.2,.box [.mp 1,.mp 2] (some 120)])
    (fun p=>p.1<=ms.length/\rTi V [] ms=rTi V p.2 (ms.drop p.1)) (fun p=>ms.length-p.1) (0,[]) ⟨Nat.zero_le _,rfl⟩ ?_ ?_
   . refine hg ?_;exact StH.same svl rfl
   rintro ⟨j,T⟩ ⟨h1,h2⟩;simp only at h1 h2;refine hg ?_;refine vt2 (fun hlt _=>?_) (fun hlt _=>?_)
   . have hlt':j<ms.length:=by omega
     have hy:=hms _ (y7p hlt');rw [xfc hlt'] at h2;have hr:=w8d (Γ:=Γ) _ hy.n hy.u hy.r
     have h3:rTi V [] ms=bif ((z2f T (ms.getD j default).name).isSome||(z2f V (ms.getD j default).name).isSome||!isName (ms.getD j default).name||isWord (ms.getD j default).name)||!vgr (fun s=>(xx7 s).2) (ms.getD j default) then none else rTi V (updF T (ms.getD j default).name (ms.getD j default)) (ms.drop (j+1)):=h2
     have h2':rTi V [] ms=bif ((z2f V (ms.getD j default).name).isSome||(z2f T (ms.getD j default).name).isSome||!isName (ms.getD j default).name||isWord (ms.getD j default).name)||!vgr (fun s=>(xx7 s).2) (ms.getD j default) then none else rTi V (updF T (ms.getD j default).name (ms.getD j default)) (ms.drop (j+1)):=by
      rw [h3,Bool.or_comm (z2f T (ms.getD j default).name).isSome]
     clear h3 h2;refine hg ?_;refine x6x (xpp.ro [1,2] (xk5 V T (ms.getD j default).name hy.n) (xkn V T) (by decide) rfl rfl) ?_;clear hy;generalize ((z2f V (ms.getD j default).name).isSome||(z2f T (ms.getD j default).name).isSome||!isName (ms.getD j default).name||isWord (ms.getD j default).name)=X at *;generalize vgr (fun s=>(xx7 s).2) (ms.getD j default)=Y at *
     cases X with
     | true=>
      rw [hbad h2'];refine hg ?_
      repeat' ((first | refine hfk ?_ ?_<;>intros | refine hik ?_)<;>refine hgS ?_)
      exact x2c
     | false=>cases Y with
      | false=>
       rw [hbad h2'];refine hg ?_
       repeat' ((first | refine hfk ?_ ?_<;>intros | refine hik ?_ | with_reducible first | refine wml (hr) ?_ | refine ysi (hr) ?_)<;>refine hgS ?_)
       exact x2c
      | true=>
       refine hg ?_
       repeat' ((first | refine hfk ?_ ?_<;>intros | refine hik ?_ | with_reducible first | refine wml (hr) ?_ | refine ysi (hr) ?_)<;>refine hgS ?_)
       refine ⟨(j+1,updF T (ms.getD j default).name (ms.getD j default)),⟨by dsimp only;omega,by first | exact h2' | rfl⟩,by dsimp only;omega,?_⟩;refine StH.cutN [4,5,6,39,40,41] 4 rfl ?_ ?_
       . refine hg ?_;exact trivial
       exact StH.same svl rfl
   . have hT:rTi V [] ms=some T:=by rw [h2,List.drop_eq_nil_of_le (by omega)];rfl
     rw [hgood T hT];clear h2 h1 hlt hbad hgood hT;refine hg ?_;exact wxa V T _ _ true
theorem vdl {t:Bool} {c d:Bool}:ybu t (.inr (.tru c d))=bif t then .inr (.tru c d) else .inl 13:=by cases t<;>rfl
theorem w7d {t:Bool} {v:Iv}:ybu t (.inr (.num v))=bif t then .inl 13 else .inr (.num v):=by cases t<;>rfl
theorem y68 (x:Ex) (zs:List Zn) (ms:List Tb) (t:Bool) (hx:x.Sm) (hb:zs.length<=1073741824) (hm:ms.length<=1073741824) (hbs:∀ b∈zs,b.name.size<=1073741824/\b.s.sz<=160000) (hms:∀ t∈ms,t.Sm) :
 CallsD Γ prog 30 [.agg (exC x),.one (.sl 9 (zs.map Zn.C)),.one (.sl 3 (ms.map Tb.C)),.one (cB t)] (krR (ybu t (hulF x zs ms))):=by
 have hr:=w8q (Γ:=Γ) zs ms hb hm (fun b h=>⟨(hbs b h).1,Nat.le_trans (hbs b h).2 (by decide)⟩) hms;have c1:=zfy (Γ:=Γ) x hx;have c2:=zos (Γ:=Γ) x hx
 cases hr1:zqs x with
 | false=>
  rw [hr1] at c1;rw [show hulF x zs ms=.inl 2 by unfold hulF;rw [hr1];rfl];refine CallsD.run [] Go.Proofs.Tryz.func30 rfl rfl rfl ?_;simp only [Go.Proofs.Tryz.f30];refine hgR ?_
  repeat' ((first | refine hfk ?_ ?_<;>intros | refine hik ?_ | with_reducible first | refine wml (c1) ?_ | refine ysi (c1) ?_)<;>refine hgS ?_)
  exact w2l 2
 | true=>cases hc1:x.wqm with
  | true=>
   rw [hr1] at c1;rw [hc1] at c2;rw [show hulF x zs ms=.inl 2 by unfold hulF;rw [hr1,hc1];rfl];refine CallsD.run [] Go.Proofs.Tryz.func30 rfl rfl rfl ?_;simp only [Go.Proofs.Tryz.f30];refine hgR ?_
   repeat' ((first | refine hfk ?_ ?_<;>intros | refine hik ?_ | with_reducible first | refine wml (c1) ?_ | refine ysi (c1) ?_ | refine wml (c2) ?_ | refine ysi (c2) ?_)<;>refine hgS ?_)
   exact w2l 2
  | false=>
   rw [hr1] at c1;rw [hc1] at c2
   have hsh:x.shaped=true:=by unfold zqs at hr1;rw [Bool.and_eq_true] at hr1;exact hr1.2
   cases hrd:entZ zs ms with
   | none=>
    rw [hrd] at hr;rw [show hulF x zs ms=.inl 1 by unfold hulF;rw [hr1,hc1,hrd];rfl]
    have hr2:∀ a b:SB,xpp Γ prog 67 [a,b] [.one (.dat (.sl 9 (zs.map Zn.C))),.one (.dat (.sl 3 (ms.map Tb.C)))] [a,b] (.tup [.agg [.any,.any],.one (.dat (cB false))]):=fun a b=>xpp.at [] (J:=[a,b]) hr (by decide) rfl rfl rfl
    refine CallsD.run [] Go.Proofs.Tryz.func30 rfl rfl rfl ?_;simp only [Go.Proofs.Tryz.f30];refine hgR ?_
    repeat' ((first | refine hfk ?_ ?_<;>intros | refine hik ?_ | with_reducible first | refine wml (c1) ?_ | refine ysi (c1) ?_ | refine wml (c2) ?_ | refine ysi (c2) ?_)<;>refine hgS ?_)
    refine zqa (hr2 _ _) rfl ?_;refine hg ?_
    repeat' ((first | refine hfk ?_ ?_<;>intros | refine hik ?_)<;>refine hgS ?_)
    exact w2l 1
   | some p=>
    obtain ⟨V,T⟩:=p;rw [hrd] at hr;rw [show hulF x zs ms=x.hul V T by unfold hulF;rw [hr1,hc1,hrd];rfl]
    have hr2:∀ a b:SB,xpp Γ prog 67 [a,b] [.one (.dat (.sl 9 (zs.map Zn.C))),.one (.dat (.sl 3 (ms.map Tb.C)))] [a,b,mI V,mB T] (.tup [.agg [.mp 2,.mp 3],.one (.dat (cB true))]):=fun a b=>by
     have h:=xpp.at [] (J:=[a,b]) hr (by decide) rfl rfl rfl
     have e:putR [] [a,b] (opnB (some (V,T)))=[a,b,mI V,mB T]:=by
      show [a,b,rnSB _ (mI V),rnSB _ (mB T)]=_;rw [ysf,zgw]
     rw [e] at h;exact h
    have hnd:=zvr hr1;have hB:(161000:Nat)*x.nd<=33554400:=Nat.le_trans (Nat.mul_le_mul_left _ hnd) (by decide);have hV:=y1h (B:=161000) hrd (fun b h=>by have:=(hbs b h).2;omega);have hT:=v5e hrd hms;have hc:=wjm (Γ:=Γ) (B:=161000) (by decide) V T hV hT x hx hsh hc1 hB;have hk:=vme (B:=161000) (by decide) hV hT x hsh hc1;generalize x.hul V T=r at hc hk ⊢
    rcases r with e | ⟨c,d⟩ | v
    . have he:¬e=0:=hk;refine CallsD.run [] Go.Proofs.Tryz.func30 rfl rfl rfl ?_;simp only [Go.Proofs.Tryz.f30];refine hgR ?_
      repeat' ((first | refine hfk ?_ ?_<;>intros | refine hik ?_ | with_reducible first | refine wml (c1) ?_ | refine ysi (c1) ?_ | refine wml (c2) ?_ | refine ysi (c2) ?_)<;>refine hgS ?_)
      refine zqa (hr2 _ _) rfl ?_;refine hg ?_;refine x6x (xpp.ro [2,3] hc (xkn V T) (by decide) rfl rfl) ?_;refine hg ?_
      repeat' ((first | refine hfk ?_ ?_<;>intros | refine hik ?_)<;>refine hgS ?_)
      all_goals first
       | (exfalso;omega)
       | exact w2l e
    all_goals
     simp only [vdl,w7d]
     cases t
     all_goals
      refine CallsD.run [] Go.Proofs.Tryz.func30 rfl rfl rfl ?_;simp only [Go.Proofs.Tryz.f30];refine hgR ?_
      repeat' ((first | refine hfk ?_ ?_<;>intros | refine hik ?_ | with_reducible first | refine wml (c1) ?_ | refine ysi (c1) ?_ | refine wml (c2) ?_ | refine ysi (c2) ?_)<;>refine hgS ?_)
      refine zqa (hr2 _ _) rfl ?_;refine hg ?_;refine x6x (xpp.ro [2,3] hc (xkn V T) (by decide) rfl rfl) ?_;refine hg ?_
      repeat' ((first | refine hfk ?_ ?_<;>intros | refine hik ?_)<;>refine hgS ?_)
      all_goals first
       | (exfalso;omega)
       | exact w2l 13
       | exact RLe.ofEq rfl
theorem ysu:CallsD Γ prog 31 [.agg (scC Sc.zero)] (.agg (scC Sc.zero)):=by
 have h1:=toD (Γ:=Γ) (zgb Sc.zero (by decide) (fun h=>Fc.x8i h.1));have h1:CallsD Γ prog 35 [.agg [cI 0,.ints .i64 [],cI 0,.ints .i64 [],cI 0,.ints .i64 [],cI 0,.ints .i64 []]] (.one (cB false)):=h1;refine CallsD.run [] Go.Proofs.Tryz.func31 rfl rfl rfl ?_;simp only [Go.Proofs.Tryz.f31];refine hgR ?_
 repeat' ((first | refine hfk ?_ ?_<;>intros | refine hik ?_ | with_reducible first | refine wml (h1) ?_ | refine ysi (h1) ?_)<;>refine hgS ?_)
 exact .one zyb
theorem neg_neg (v:Iv):v.neg.neg=v:=Iv.ext' (Rat.neg_neg _) (Rat.neg_neg _)
theorem zrf {x : Ex} {zs : List Zn} {ms : List Tb} {B : Nat} (hB : 4300 ≤ B) (hb : ∀ b ∈ zs, b.s.sz + 10 ≤ B) (hms : ∀ t ∈ ms, t.Sm) : Kok (B * 200) (hulF x zs ms) := by
 unfold hulF
 cases h1:zqs x with
 | false=>exact (by decide:(2:Int)≠0)
 | true=>cases h2:x.wqm with
  | true=>exact (by decide:(2:Int)≠0)
  | false=>cases h3:entZ zs ms with
   | none=>exact (by decide:(1:Int)≠0)
   | some p=>
    obtain ⟨V,T⟩:=p
    have hsh:x.shaped=true:=by unfold zqs at h1;rw [Bool.and_eq_true] at h1;exact h1.2
    exact (vme hB (y1h h3 hb) (v5e h3 hms) x hsh h2).mono (Nat.mul_le_mul_left _ (zvr h1))
abbrev hoR (r:Kr):AV:=.tup [.agg (scC (krK r).s),.one (cI (krE r))]
theorem wby (x:Ex) (zs:List Zn) (ms:List Tb) (hx:x.Sm) (hb:zs.length<=1073741824) (hm:ms.length<=1073741824) (hbs:∀ b∈zs,b.name.size<=1073741824/\b.s.sz<=160000) (hms:∀ t∈ms,t.Sm) :
 CallsD Γ prog 10 [.agg (exC x),.one (.sl 9 (zs.map Zn.C)),.one (.sl 3 (ms.map Tb.C))] (hoR (ybu false (hulF x zs ms))):=by
 have hc:=y68 (Γ:=Γ) x zs ms false hx hb hm hbs hms;have hk:=zrf (x:=x) (B:=161000) (by decide) (fun b h=>by have:=(hbs b h).2;omega) hms;have hz:=ysu (Γ:=Γ);have hz:CallsD Γ prog 31 [.agg [cI 0,.ints .i64 [],cI 0,.ints .i64 [],cI 0,.ints .i64 [],cI 0,.ints .i64 []]] (.agg [cI 0,.ints .i64 [],cI 0,.ints .i64 [],cI 0,.ints .i64 [],cI 0,.ints .i64 []]):=hz;generalize hulF x zs ms=r at hc hk ⊢
 rcases r with e | ⟨c,d⟩ | v
 . rw [show ybu false (.inl e)=.inl e from rfl] at hc ⊢;refine CallsD.run [] Go.Proofs.Tryz.func10 rfl rfl rfl ?_;simp only [Go.Proofs.Tryz.f10];refine hgR ?_
   repeat' ((first | refine hfk ?_ ?_<;>intros | refine hik ?_ | with_reducible first | refine wml (hc) ?_ | refine ysi (hc) ?_ | refine wml (hz) ?_ | refine ysi (hz) ?_)<;>refine hgS ?_)
   exact RLe.ofEq rfl
 . rw [show ybu false (.inr (.tru c d))=.inl 13 from rfl] at hc ⊢;refine CallsD.run [] Go.Proofs.Tryz.func10 rfl rfl rfl ?_;simp only [Go.Proofs.Tryz.f10];refine hgR ?_
   repeat' ((first | refine hfk ?_ ?_<;>intros | refine hik ?_ | with_reducible first | refine wml (hc) ?_ | refine ysi (hc) ?_ | refine wml (hz) ?_ | refine ysi (hz) ?_)<;>refine hgS ?_)
   exact RLe.ofEq rfl
 . rw [show ybu false (.inr (.num v))=.inr (.num v) from rfl] at hc ⊢;have hk:ivZ v<=67108864:=Nat.le_trans hk (by decide);have n1:=iNeg (Γ:=Γ) v hk;have n2:=iNeg (Γ:=Γ) v.neg (by rw [wx7];exact hk);rw [neg_neg] at n2;refine CallsD.run [] Go.Proofs.Tryz.func10 rfl rfl rfl ?_;simp only [Go.Proofs.Tryz.f10];refine hgR ?_
   repeat' ((first | refine hfk ?_ ?_<;>intros | refine hik ?_ | with_reducible first | refine wml (hc) ?_ | refine ysi (hc) ?_ | refine wml (n1) ?_ | refine ysi (n1) ?_ | refine wml (n2) ?_ | refine ysi (n2) ?_)<;>refine hgS ?_)
   exact RLe.ofEq rfl
end Go.Hp.T
namespace Go.Hp.T
open Go Go.RowKit Go.Slot Go.Hp Go.Slot.T
open Go.Proofs.Tryz (prog)
set_option maxRecDepth 10000
set_option maxHeartbeats 4000000
variable {Γ:List (Nat×List Cell)}
end Go.Hp.T
namespace Go.Hp.T
open Go Go.RowKit Go.Slot Go.Hp Go.Slot.T
open Go.Proofs.Tryz (prog)
attribute [local irreducible] hide RH
set_option maxRecDepth 10000
set_option maxHeartbeats 4000000
variable {Γ:List (Nat×List Cell)}
def vci (place:Nat->Option (Nat×Nat)) (cs:List HC) (ps:List (Nat×SV)):Option (List HC):=y31 place cs ps
def xjd (place:Nat->Option (Nat×Nat)) (cs:List HC) (r:List (Nat×SV)) (a:Option (Nat×Nat)) (b:Option (List HC)):Option (List HC):=match a,b with
 | some (off,size),some us=>if us.length=size/\off+size<=cs.length then y31 place (cs.take off++us++cs.drop (off+size)) r else none
 | _,_=>none
def yrd (place:Nat->Option (Nat×Nat)) (cs:List HC) (r:List (Nat×SV)) (b:Bool):Option (List HC):=bif b then y31 place cs r else none
theorem zlg {place:Nat->Option (Nat×Nat)} {cs:List HC} {ps:List (Nat×SV)}:y31 place cs ps=vci place cs ps:=rfl
theorem z0c {place:Nat->Option (Nat×Nat)} {cs:List HC}:vci place cs []=some cs:=rfl
theorem yq3 {place:Nat->Option (Nat×Nat)} {cs:List HC} {i:Nat} {x:SV} {r:List (Nat×SV)}:vci place cs ((i,x)::r)=xjd place cs r (place i) (vg7 x):=by
 unfold vci;rw [y31];rfl
theorem yf7 {a b:Nat}:Nat.beq a b=decide (a=b):=by rw [Bool.eq_iff_iff,decide_eq_true_iff,Nat.beq_eq]
theorem x88 {a b:Nat}:Nat.ble a b=decide (a<=b):=by rw [Bool.eq_iff_iff,decide_eq_true_iff,Nat.ble_eq]
theorem xe4 {a b:Nat} (h:a<=b):Nat.ble a b=true:=Nat.ble_eq_true_of_le h
theorem v1a {place:Nat->Option (Nat×Nat)} {cs us:List HC} {off size:Nat} {r:List (Nat×SV)}:xjd place cs r (some (off,size)) (some us)=yrd place (cs.take off++(us++cs.drop (off+size))) r (Nat.beq us.length size&&Nat.ble (off+size) cs.length):=by
 rw [<-List.append_assoc];show (if us.length=size/\off+size<=cs.length then y31 place (cs.take off++us++cs.drop (off+size)) r else none)=_;rw [yf7,x88];by_cases h1:us.length=size
 . by_cases h2:off+size<=cs.length
   . rw [if_pos ⟨h1,h2⟩,decide_eq_true h1,decide_eq_true h2];rfl
   . rw [if_neg (fun h=>h2 h.2),decide_eq_false h2,Bool.and_false];rfl
 . rw [if_neg (fun h=>h1 h.1),decide_eq_false h1];rfl
theorem wte {place:Nat->Option (Nat×Nat)} {cs:List HC} {r:List (Nat×SV)}:yrd place cs r true=vci place cs r:=rfl
attribute [go_sem ↓ 30000] zlg
attribute [go_sem] z0c yq3 v1a wte yf7 xe4
theorem n12:((12:Nat):Int)=12:=rfl
attribute [go_sem] n12
mutual
def Ex.rsz:Ex->Int->Int->Int
 | .mk _ _ _ _ l,n,lv=>bif decide (n<1)||decide (lv<1) then -1 else Ex.rszL l n lv 1
def Ex.rszL:List Ex->Int->Int->Int->Int
 | [],_,_,k=>k
 | y::l,n,lv,k=>bif decide (Ex.rsz y (n-k) (lv-1)<0) then -1 else Ex.rszL l n lv (k+Ex.rsz y (n-k) (lv-1))
end
theorem Ex.vey (x:Ex) (n lv:Int):x.rsz n lv=bif decide (n<1)||decide (lv<1) then -1 else Ex.rszL x.args n lv 1:=by cases x;rw [Ex.rsz];rfl
theorem Ex.zba:∀(l:List Ex),(∀ y∈l,∀ n lv:Int,-1<=y.rsz n lv/\(0<=y.rsz n lv->y.rsz n lv<=n))->∀ n lv k:Int,1<=k->k<=n->-1<=Ex.rszL l n lv k/\(0<=Ex.rszL l n lv k->Ex.rszL l n lv k<=n)
 | [],_,n,lv,k,h1,h2=>by rw [Ex.rszL];omega
 | y::l,h,n,lv,k,h1,h2=>by
  rw [Ex.rszL];have hy:=h y (by simp) (n-k) (lv-1);generalize y.rsz (n-k) (lv-1)=m at hy;by_cases hm:m<0
  . rw [decide_eq_true hm];simp only [cond_true];omega
  . rw [decide_eq_false hm];exact Ex.zba l (fun z hz=>h z (by simp [hz])) n lv (k+m) (by omega) (by omega)
theorem Ex.wmi:∀(x:Ex) (n lv:Int),-1<=x.rsz n lv/\(0<=x.rsz n lv->x.rsz n lv<=n):=by
 refine Ex.ind (fun x ih n lv=>?_);rw [Ex.vey];by_cases h1:n<1
 . rw [decide_eq_true h1];simp only [Bool.true_or,cond_true];omega
 . by_cases h2:lv<1
   . rw [decide_eq_true h2];simp only [Bool.or_true,cond_true];omega
   . rw [decide_eq_false h1,decide_eq_false h2];exact Ex.zba x.args ih n lv 1 (by omega) (by omega)
theorem woy:∀ x:Ex,x.Sm->∀ n lv:Int,n<=1000->lv<=1000->0<=n->0<=lv->CallsD Γ prog 21 [.agg (exC x),.one (cI n),.one (cI lv)] (.one (cI (x.rsz n lv))):=by
 refine Ex.ind (fun x ih hx n lv hn hlv hn0 hlv0=>?_);have hl:=hx.len;refine CallsD.run [] Go.Proofs.Tryz.func21 rfl rfl rfl ?_;simp only [Go.Proofs.Tryz.f21];refine hgR ?_
 repeat' ((first | refine hfk ?_ ?_<;>intros | refine hik ?_)<;>refine hgS ?_)
 . rename_i h1 _ h2 _;exact RLe.ofEq (by rw [Ex.vey,decide_eq_true h2,Bool.or_true];rfl)
 . rename_i h1 _ h2 _
   have e0:x.rsz n lv=Ex.rszL x.args n lv 1:=by rw [Ex.vey,decide_eq_false h1,decide_eq_false h2];rfl
   refine x20 [1,2,3] (fun p:Nat×Int=>[(7,.one (.dat (cI p.2))),(8,.one (.dat (cI p.1)))]) (fun _=>[.box ((exC x).map .dat) (some 24)]) (fun p=>p.1<=x.args.length/\1<=p.2/\p.2<=n/\Ex.rszL (x.args.drop p.1) n lv p.2=Ex.rszL x.args n lv 1) (fun p=>x.args.length-p.1) (0,1) ⟨Nat.zero_le _,by simp only;omega,by simp only;omega,rfl⟩ ?_ ?_
   . refine hg ?_;exact StH.same svl rfl
   rintro ⟨i,k⟩ ⟨hi,hk1,hk2,hc⟩;simp only at hi hk1 hk2 hc;refine hg ?_;refine vt2 (fun hlt hd=>?_) (fun hlt _=>?_)
   . have hlt':i<x.args.length:=by omega
     have hy:=y7p hlt';have hcc:=ih _ hy (hx.arg _ hy) (n-k) (lv-1) (by omega) (by omega) (by omega) (by omega);have hb:=Ex.wmi (x.args.getD i default) (n-k) (lv-1);rw [xfc hlt',Ex.rszL] at hc;generalize (x.args.getD i default).rsz (n-k) (lv-1)=m at hcc hb hc;rw [e0,<-hc];clear e0 hc;refine hg1 @hd ?_
     repeat' ((first | refine hfk ?_ ?_<;>intros | refine hik ?_ | with_reducible first | refine wml (hcc) ?_ | refine ysi (hcc) ?_)<;>refine hgS ?_)
     . exact RLe.ofEq rfl
     . exact ⟨(i+1,k+m),⟨by simp only;omega,by simp only;omega,by simp only;omega,rfl⟩,by simp only;omega,StH.same svl rfl⟩
   . refine hg ?_;rw [e0,<-hc,List.drop_eq_nil_of_le (by omega),Ex.rszL];exact RLe.ofEq rfl
 . rename_i h1 _;exact RLe.ofEq (by rw [Ex.vey,decide_eq_true h1];rfl)
theorem rFew (x:Ex) (hx:x.Sm) (n lv:Int) (hn:n<=1000) (hlv:lv<=1000) (hn0:0<=n) (hlv0:0<=lv):CallsD Γ prog 5 [.agg (exC x),.one (cI n),.one (cI lv)] (.one (cB (decide (0<=x.rsz n lv)))):=by
 have h:=woy (Γ:=Γ) x hx n lv hn hlv hn0 hlv0;refine CallsD.run [] Go.Proofs.Tryz.func5 rfl rfl rfl ?_;simp only [Go.Proofs.Tryz.f5];refine hgR ?_
 repeat' ((first | refine hfk ?_ ?_<;>intros | refine hik ?_ | with_reducible first | refine wml (h) ?_ | refine ysi (h) ?_)<;>refine hgS ?_)
 all_goals exact RLe.ofEq rfl
end Go.Hp.T
namespace Go.Hp.T
open Go Go.RowKit Go.Slot Go.Hp Go.Slot.T
open Go.Proofs.Tryz (prog)
set_option maxRecDepth 10000
set_option maxHeartbeats 4000000
variable {Γ:List (Nat×List Cell)}
end Go.Hp.T
namespace Go.Hp.T
open Go Go.RowKit Go.Slot Go.Hp Go.Slot.T
open Go.Proofs.Tryz (prog)
set_option maxRecDepth 100000
set_option maxHeartbeats 8000000
attribute [local irreducible] hide RH
variable {Γ:List (Nat×List Cell)}
def strN (s:ByteArray):List Cell:=[cS s]
theorem xyd (s:ByteArray):strN s=[cS s]:=_root_.id rfl
attribute [go_sem] xyd
def nmL:List ByteArray:=[⟨#[97]⟩,⟨#[98]⟩,⟨#[99]⟩,⟨#[100]⟩]
def nmF (i:Nat):ByteArray:=nmL.getD i default
theorem vj3:CallsD Γ prog 8 [] (.one (.sl 1 (nmL.map strN))):=by
 refine CallsD.run [] Go.Proofs.Tryz.func8 rfl rfl rfl ?_;simp only [Go.Proofs.Tryz.f8];refine hgR ?_
 repeat' ((first | refine hfk ?_ ?_<;>intros | refine hik ?_)<;>refine hgS ?_)
 exact RLe.ofEq rfl
abbrev exB (x:Ex):SB:=.box ((exC x).map .dat) (some 24)
def bhB (x:Ex) (r1 r2:List (List Cell)) (u:List Rat):Nat->List SB
 | 0=>[exB x,.arr (.sl 6 r1) 0 (some 47),.arr (.sl 9 r2) 0 (some 51),.box [.dat (.raw (.int .i64 (qF (some 0)).s)),.dat (.ints .i64 (qF (some 0)).L),.dat (.raw (.int .i64 (qF (some 0)).t)),.dat (.ints .i64 (qF (some 0)).M),.dat .zc] (some 37)]
 | k+1=>[exB x,.arr (.sl 6 r1) 0 (some 47),.arr (.sl 9 r2) 0 (some 51),.box [.dat (.raw (.int .i64 (qF (some 0)).s)),.dat (.ints .i64 (qF (some 0)).L),.dat (.raw (.int .i64 (qF (some 0)).t)),.dat (.ints .i64 (qF (some 0)).M),.sl 4 4 0 (k+1)] (some 37),.arr (.sl 4 ((u.take (k+1)).map rowQ)) 0 (some 34)]
theorem y6f {i n k:Nat} (h:k<n):(vy0 i n).getD k 0=if i=k then 1 else 0:=by
 unfold vy0;simp [List.getD_eq_getElem?_getD,h]
theorem zyy {α:Type} (F:Nat->α) {n i:Nat} (h:i<n):((List.range n).map F).take (i+1)=((List.range n).map F).take i++[F i]:=by
 rw [List.take_add_one];simp [h]
theorem v7c:CallsD Γ prog 7 [.one (cI 0)] (.agg (qC (some 0))):=wv5 0 (by decide)
theorem xiq:CallsD Γ prog 7 [.one (cI 1)] (.agg (qC (some 1))):=wv5 1 (by decide)
theorem x0h (x:Ex) (l:List Sc) (ms:List Tb) (k t:Int) (K M:List Int) (cs:List (List Cell)) (e:Int) (v:Sc) (b:Sc) (g:Int) (fw fb:Bool)
 (hms:ms.length<=1048576) (hl:l.length<=1048576)
 (s0:CallsD [] prog 4 [] (.one (cB true)))
 (f1:CallsD [] prog 5 [.agg (exC x),.one (cI 30),.one (cI 8)] (.one (cB fw)))
 (f2:CallsD [] prog 6 [.agg [cI 0,.zc,cI 0,.zc,.zc],.one (.sl 8 (l.map Sc.C))] (.one (cB fb)))
 (o1:l.length<=4->fb=true->CallsD [] prog 9 [.agg (exC x),.one (.sl 6 ((bhS nmF l.length).map Sl.C)),.one (.sl 3 (ms.map Tb.C))] (.tup [.agg [cI k,.ints .i64 K,cI t,.ints .i64 M,.sl 4 cs],.one (cI e)]))
 (o2:l.length<=4->fb=true->CallsD [] prog 10 [.agg (exC x),.one (.sl 9 ((bhZ nmF l).map Zn.C)),.one (.sl 3 (ms.map Tb.C))] (.tup [.agg (scC v),.one (cI g)]))
 (o3:l.length<=4->fb=true->e=0->g=0->CallsD [] prog 11 [.agg [cI k,.ints .i64 K,cI t,.ints .i64 M,.sl 4 cs],.one (.sl 8 (l.map Sc.C))] (.tup [.agg (scC b),.one (cI 0)]))
 (o4:l.length<=4->fb=true->e=0->g=0->CallsD [] prog 12 [.agg (scC b),.agg (scC v)] (.one (cB true))) :
 CallsD [] prog 3 [.agg (exC x),.one (.sl 8 (l.map Sc.C)),.one (.sl 3 (ms.map Tb.C))] (.one (cB true)):=by
 refine CallsD.run [(21,[.room 1])] Go.Proofs.Tryz.func3 rfl rfl rfl ?_;simp only [Go.Proofs.Tryz.f3];refine hgR ?_
 repeat' ((first | refine hfk ?_ ?_<;>intros | refine hik ?_ | with_reducible first | refine wml (s0) ?_ | refine ysi (s0) ?_ | refine wml (f1) ?_ | refine ysi (f1) ?_ | refine wml (f2) ?_ | refine ysi (f2) ?_)<;>refine hgS ?_)
 all_goals try (exact RLe.ofEq rfl)
 clear s0 f1 f2;refine x20 [1,2,3,7] (fun i:Nat=>[(8,.one (.dat (cI i)))]) (fun _=>[exB x]) (fun i=>i<=ms.length) (fun i=>ms.length-i) 0 (Nat.zero_le _) ?_ ?_
 . refine hg ?_;exact StH.same svl rfl
 intro i hi;refine hg ?_;refine vt2 (fun hlt _=>?_) (fun hlt _=>?_)
 . refine hg ?_
   repeat' ((first | refine hfk ?_ ?_<;>intros | refine hik ?_)<;>refine hgS ?_)
   all_goals first
    | exact RLe.ofEq rfl
    | exact ⟨i+1,by omega,by omega,StH.same svl rfl⟩
 have hl4:l.length<=4:=by omega
 have hS:(bhS nmF l.length).length=l.length:=by simp [bhS]
 have hZ:(bhZ nmF l).length=l.length:=by simp [bhZ]
 refine hg ?_;refine x20 [1,2,3,7] (fun i:Nat=>[(9,.one (.sl 1 6 0 i)),(10,.one (.sl 2 9 0 i)),(11,.one (.dat (cI i)))]) (fun i=>[exB x,.arr (.sl 6 (((bhS nmF l.length).take i).map Sl.C)) 0 (some 47),.arr (.sl 9 (((bhZ nmF l).take i).map Zn.C)) 0 (some 51)]) (fun i=>i<=l.length) (fun i=>l.length-i) 0 (Nat.zero_le _) ?_ ?_
 . refine hg ?_;refine StH.trans (StH.empty (d:=9) (es:=6) (c:=.sl 6 []) (T:=some 47) rfl rfl (fun r hr=>by cases hr) rfl) ?_;refine hg ?_;refine StH.trans (StH.empty (d:=10) (es:=9) (c:=.sl 9 []) (T:=some 51) rfl rfl (fun r hr=>by cases hr) rfl) ?_;refine hg ?_;exact StH.same svl rfl
 intro i hi
 have hz1:((bhS nmF l.length).take i).length=i:=by rw [List.length_take,hS];omega
 have hz2:((bhZ nmF l).take i).length=i:=by rw [List.length_take,hZ];omega
 refine hg2 @hz1 @hz2 ?_;refine vt2 (fun hlt _=>?_) (fun hlt _=>?_)
 . have hlt':i<l.length:=by omega
   have hy1:((bhS nmF l.length).take (i+1)).map Sl.C=((bhS nmF l.length).take i).map Sl.C++[cS (nmF i)::afC (0,vy0 i l.length)]:=by
    unfold bhS;rw [zyy _ hlt',List.map_append];show _++[cS (nmF i)::(Af.of 0 (vy0 i l.length)).C]=_;rw [y6w]
   have hy2:((bhZ nmF l).take (i+1)).map Zn.C=((bhZ nmF l).take i).map Zn.C++[cS (nmF i)::scC (l.getD i Sc.zero)]:=by
    unfold bhZ;rw [zyy _ hlt',List.map_append];rfl
   have hU:=v4z i l.length
   have hG:=fun k (h:k<l.length)=>y6f (i:=i) h
   generalize vy0 i l.length=u at hy1 hU hG;generalize hr1:((bhS nmF l.length).take i).map Sl.C=r1;generalize hr2:((bhZ nmF l).take i).map Zn.C=r2;rw [hr1] at hy1;rw [hr2] at hy2
   have hl1:r1.length=i:=by rw [<-hr1,List.length_map,hz1]
   have hl2:r2.length=i:=by rw [<-hr2,List.length_map,hz2]
   clear hr1 hr2 hz1 hz2;refine hg ?_
   repeat' ((first | refine hfk ?_ ?_<;>intros | refine hik ?_ | with_reducible first | refine wml (v7c) ?_ | refine ysi (v7c) ?_)<;>refine hgS ?_)
   refine x20 [1,2,3,7,9,10,11,12] (fun k:Nat=>[(13,.one (.dat (cI k)))]) (bhB x r1 r2 u) (fun k=>k<=l.length) (fun k=>l.length-k) 0 (Nat.zero_le _) ?_ ?_
   . refine hg ?_;exact StH.same svl rfl
   intro k hk
   rcases k with _ | k
   . simp only [bhB];refine hg ?_;refine vt2 (fun h _=>?_) (fun h _=>?_)
     . have hu0:=hG 0 (by omega)
       have hsn:∀ q:Rat,q=u.getD 0 0->[qC (some q)]=(u.take (0+1)).map rowQ:=fun q hq=>by
        rw [wcz (l:=u) (i:=0) (by omega),hq];rfl
       refine hg ?_
       repeat' ((first | refine hfk ?_ ?_<;>intros | refine hik ?_ | with_reducible first | refine wml (v7c) ?_ | refine ysi (v7c) ?_ | refine wml (xiq) ?_ | refine ysi (xiq) ?_)<;>refine hgS ?_)
       all_goals try (exfalso;omega)
       . refine ⟨1,by omega,by omega,?_⟩;simp only;rw [<-hsn 1 (by rw [hu0,if_pos (by omega)])];exact StH.same svl rfl
       . refine ⟨1,by omega,by omega,?_⟩;simp only;rw [<-hsn 0 (by rw [hu0,if_neg (by omega)])];exact StH.same svl rfl
     . exfalso;omega
   . simp only [bhB]
     have hz:(u.take (k+1)).length=k+1:=by rw [List.length_take];omega
     refine hg1 @hz ?_;refine vt2 (fun h _=>?_) (fun h _=>?_)
     . have hu0:=hG (k+1) (by omega)
       have hsn:∀ q:Rat,q=u.getD (k+1) 0->(u.take (k+1)).map rowQ++[qC (some q)]=(u.take (k+1+1)).map rowQ:=fun q hq=>by
        rw [wcz (l:=u) (i:=k+1) (by omega),List.map_append,hq];rfl
       clear hy1 hy2;refine hg1 @hz ?_
       repeat' ((first | refine hfk ?_ ?_<;>intros | refine hik ?_ | with_reducible first | refine wml (v7c) ?_ | refine ysi (v7c) ?_ | refine wml (xiq) ?_ | refine ysi (xiq) ?_)<;>refine hgS ?_)
       all_goals try (exfalso;omega)
       . refine ⟨k+1+1,by omega,by omega,?_⟩;simp only;rw [<-hsn 1 (by rw [hu0,if_pos (by omega)])];refine StH.back [1,2,3,7,9,10,11,12,13] 4 5 5 rfl rfl rfl rfl rfl (by kernel_rfl) (StH.same svl ?_);simp only [List.length_append,List.length_map,List.length_singleton,hz];rfl
       . refine ⟨k+1+1,by omega,by omega,?_⟩;simp only;rw [<-hsn 0 (by rw [hu0,if_neg (by omega)])];refine StH.back [1,2,3,7,9,10,11,12,13] 4 5 5 rfl rfl rfl rfl rfl (by kernel_rfl) (StH.same svl ?_);simp only [List.length_append,List.length_map,List.length_singleton,hz];rfl
     . have ek:k+1=l.length:=by omega
       have eu:u.take (k+1)=u:=List.take_of_length_le (by omega);have wn:=vj3 (Γ:=[])
       have hi4:i<nmL.length:=by show i<4;omega
       rw [eu];rw [eu] at hz;refine hg1 @hz ?_
       repeat' ((first | refine hfk ?_ ?_<;>intros | refine hik ?_ | with_reducible first | refine wml (wn) ?_ | refine ysi (wn) ?_)<;>refine hgS ?_)
       refine ⟨i+1,by omega,by omega,?_⟩;rw [hy1,hy2];refine StH.back [1,2,3,7,9,10,11] 1 5 7 rfl rfl rfl rfl rfl (by kernel_rfl) ?_;refine hg ?_;refine StH.back [1,2,3,7,9,10,11] 2 6 3 rfl rfl rfl rfl rfl (by kernel_rfl) ?_
       conv=>simp (maxSteps:=2000000) (disch:=omega) only [go_sem,Nat.reduceAdd,Nat.reduceSub,Nat.reduceMul,Int.reduceToNat,Nat.reduceEqDiff,Nat.reduceBEq,Nat.reduceBneDiff,Nat.reduceLT,Int.reduceEq,Int.reduceLT,Int.reduceLE,Int.reduceNeg,Int.reduceAdd,Int.reduceSub,Int.reduceMul,List.length_append,List.length_singleton,hl1,hl2]
       exact StH.same svl rfl
 . have ei:i=l.length:=by omega
   have e1:(bhS nmF l.length).take i=bhS nmF l.length:=List.take_of_length_le (by omega);have e2:(bhZ nmF l).take i=bhZ nmF l:=List.take_of_length_le (by omega)
   have hfb:fb=true:=by assumption
   have p1:=o1 hl4 hfb;have p2:=o2 hl4 hfb;rw [e1,e2];subst ei;clear o1 o2 hz1 hz2 e1 e2;by_cases he:e=0
   . by_cases h0:g=0
     . have p3:=o3 hl4 hfb he h0;have p4:=o4 hl4 hfb he h0;subst he h0;clear o3 o4;refine hg2 @hS @hZ ?_
       repeat' ((first | refine hfk ?_ ?_<;>intros | refine hik ?_ | with_reducible first | refine wml (p1) ?_ | refine ysi (p1) ?_ | refine wml (p2) ?_ | refine ysi (p2) ?_ | refine wml (p3) ?_ | refine ysi (p3) ?_ | refine wml (p4) ?_ | refine ysi (p4) ?_)<;>refine hgS ?_)
       all_goals exact RLe.ofEq rfl
     . clear o3 o4;refine hg2 @hS @hZ ?_
       repeat' ((first | refine hfk ?_ ?_<;>intros | refine hik ?_ | with_reducible first | refine wml (p1) ?_ | refine ysi (p1) ?_ | refine wml (p2) ?_ | refine ysi (p2) ?_)<;>refine hgS ?_)
       all_goals first
        | exact RLe.ofEq rfl
        | (exfalso;omega)
   . clear o3 o4;refine hg2 @hS @hZ ?_
     repeat' ((first | refine hfk ?_ ?_<;>intros | refine hik ?_ | with_reducible first | refine wml (p1) ?_ | refine ysi (p1) ?_ | refine wml (p2) ?_ | refine ysi (p2) ?_)<;>refine hgS ?_)
     all_goals first
      | exact RLe.ofEq rfl
      | (exfalso;omega)
theorem argZ {f:FuncId} {args args':List AV} {res:AV} (h:CallsD Γ prog f args' res) (hle:LeS args args'):CallsD Γ prog f args res:=
 ⟨h.1,fun M w vs hM hg hr=>h.2 M w vs hM hg (by
  clear h
  induction hle generalizing vs with
  | nil=>exact hr
  | cons h1 _ ih=>
   cases vs with
   | nil=>exact hr.elim
   | cons v vs=>exact ⟨RdB.le h1 hr.1,ih vs hr.2⟩)⟩
theorem yty {f:Af} {l:List Sc} (h:zfp f l):(Bk.bounds f l).low.sz<=67108864/\(Bk.bounds f l).high.sz<=67108864:=by
 obtain ⟨h1,h2,h3,h4⟩:=h
 have at_szB:∀ v:List Fc,(∀ g∈v,g.sz<=1000002)->(f.at' v).sz<=67108864:=fun v hv=>by
  unfold Af.at'
  split
  . have k1:=vjl (B:=1000002) f.l v (Af.copy f.c) (fun g hg=>by have:=h3.2 g hg;omega) hv;have k2:=w9x f.c;have k3:=h3.1;have k4:=Nat.mul_le_mul_right (2*1000002+1) h1;omega
  . rw [Fc.wre];omega
 unfold Bk.bounds
 split
 . exact ⟨at_szB _ (v4i h4),at_szB _ (z5j h4)⟩
 . exact ⟨by decide,by decide⟩
theorem zep (x:Ex) (l:List Sc) (ms:List Tb) (hx:x.Sm) (hl:l.length<=1048576) (hs:∀ s∈l,s.sz<=1048576) (hm:ms.length<=1048576) (hms:∀ t∈ms,t.Sm) :
 CallsD [] prog 3 [.agg (exC x),.one (.sl 8 (l.map Sc.C)),.one (.sl 3 (ms.map Tb.C))] (.one (cB true)):=by
 have hnm:∀ i,(nmF i).size<=1073741824:=fun i=>by
  unfold nmF nmL
  rcases i with _ | _ | _ | _ | i
  all_goals first | decide | (show (default:ByteArray).size<=_;decide)
 generalize hA:affF x (bhS nmF l.length) ms=A;generalize hH:hulF x (bhZ nmF l) ms=U
 have hfew:decide (fewC Af.zero l)=true->∀ s∈l,s.sz<=4:=fun h=>(of_decide_eq_true h).2.1
 have hSm:∀ s∈bhS nmF l.length,l.length<=4->s.name.size<=1073741824/\s.f.l.length<=6/\s.f.le 4:=fun s h h4=>by
  obtain ⟨i,hi,rfl⟩:=xhl h;refine ⟨hnm i,?_,y0d (xnn i l.length) (by decide)⟩;show ((vy0 i l.length).map Fc.of).length<=_;rw [List.length_map,v4z];omega
 have hZ:∀ b∈bhZ nmF l,(∀ s∈l,s.sz<=4)->b.name.size<=1073741824/\b.s.sz<=4:=fun b h h4=>by
  obtain ⟨i,hi,rfl⟩:=List.mem_map.1 h;have hi':=List.mem_range.1 hi;exact ⟨hnm i,h4 _ (by simp [hi'])⟩
 have hlaw:l.length<=4->decide (fewC Af.zero l)=true->A.2=0->krE (ybu false U)=0->∃ q v,U=.inr (.num v)/\ivZ v<=860000/\A.1.c=some q/\zfp (Af.of q A.1.l) l/\Bk.ok (Af.of q A.1.l) l/\(Bk.bounds (Af.of q A.1.l) l).inside (ivS v):=fun h4 hf he hg=>by
  obtain ⟨r,e⟩:=A;simp only at he;subst he;have hk:=zrf (x:=x) (zs:=bhZ nmF l) (ms:=ms) (B:=4300) (by decide) (fun b h=>by have:=(hZ b h (hfew hf)).2;omega) hms;rw [hH] at hk
  rcases U with e | ⟨c,d⟩ | v
  . exact absurd hg hk
  . exact absurd hg (by show ¬(13:Int)=0;decide)
  . obtain ⟨q,ps,h1,h2,h3,h5,h6,h7⟩:=xrq hA hH;obtain ⟨k1,k2,V,T,hent,ha,ht⟩:=v57 hA;have hV:=zd5 (B:=4300) hent x9o;have hG:=xni (T:=T) (by decide) hV x (yvx k1) k2 (by rw [ha]);rw [ha] at hG;have hnd:=zvr k1;have hG:=hG.mono (C:=860000) (by have:=Nat.mul_le_mul_left 4300 hnd;omega);obtain ⟨_,_,⟨q',hq',hs1⟩,hs2⟩:=hG.form ht
    have e:q'=q:=by rw [hq'] at h1;cases h1;rfl
    subst e;refine ⟨q',v,rfl,hk,hq',⟨?_,by omega,⟨by show qs q'<=_;omega,fun f hf=>?_⟩,fun s hs=>by have:=hfew hf s hs;omega⟩,?_,?_⟩
    . show (r.l.map Fc.of).length<=16;rw [List.length_map,h5]
      have:l.length=ps.length:=by rw [h3,List.length_map]
      omega
    . obtain ⟨w,hw,rfl⟩:=List.mem_map.1 hf;exact Nat.le_trans (hs2 w hw) (by decide)
    . rw [h3];exact (Bk.vin _ _ _).2 ⟨h5,h6⟩
    . rw [h3,vgy _ _ _ h5 h6];exact h7
 refine x0h x l ms (qF A.1.c).s (qF A.1.c).t (qF A.1.c).L (qF A.1.c).M (A.1.l.map rowQ) A.2 (krK (ybu false U)).s (if hh:(Bk.ok (Af.of (A.1.c.getD 0) A.1.l) l) then Bk.bounds (Af.of (A.1.c.getD 0) A.1.l) l else Sc.zero) (krE (ybu false U)) (decide (0<=x.rsz 30 8)) (decide (fewC Af.zero l)) hm hl v5v (rFew x hx 30 8 (by decide) (by decide) (by decide) (by decide))
  (argZ (zhl Af.zero l (by decide) (by omega) ⟨by decide,fun f hf=>by cases hf⟩ (fun s h=>by have:=hs s h;omega)) (.cons z8v (.cons (.refl _) .nil)))
  (fun h4 hf=>?_) (fun h4 hf=>?_) (fun h4 hf he hg=>?_) (fun h4 hf he hg=>?_)
 . rw [<-hA];exact v0f (B:=4300) (by decide) (by decide) x (bhS nmF l.length) ms hx (by rw [vnz];omega) (by simp [bhS];omega) (by omega) (fun s h=>⟨(hSm s h h4).1,by have:=(hSm s h h4).2.1;omega,y0d (hSm s h h4).2.2 (by decide)⟩) x9o hms
 . rw [<-hH];exact wby x (bhZ nmF l) ms hx (by simp [bhZ];omega) (by omega) (fun b h=>⟨(hZ b h (hfew hf)).1,by have:=(hZ b h (hfew hf)).2;omega⟩) hms
 . obtain ⟨q,v,rfl,hv,hq,hsm,hok,hin⟩:=hlaw h4 hf he hg;have hB:=yod (Γ:=[]) (Af.of q A.1.l) l hsm;rw [Fc.wop hok,y6w] at hB;rw [hq];simp only [Option.getD_some,dif_pos hok];exact hB
 . obtain ⟨q,v,rfl,hv,hq,hsm,hok,hin⟩:=hlaw h4 hf he hg;rw [hq];simp only [Option.getD_some,dif_pos hok];have hbs:=yty hsm;have hI:=v31 (Γ:=[]) (Bk.bounds (Af.of q A.1.l) l) (ivS v) (Nat.max_le.2 hbs) (Nat.le_trans hv (by decide));rw [decide_eq_true hin] at hI;exact hI
end Go.Hp.T
