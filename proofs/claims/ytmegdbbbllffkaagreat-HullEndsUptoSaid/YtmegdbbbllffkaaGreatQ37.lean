/- The proof, part Q37: Si, Sj, Ra, Rb, Rc, Rd, Rl, Rm, Sk, Qa. -/
import Derived.Test.YtmegdbbbllffkaaGreatQ36
import Derived.Test.YtmegdbbbllffkaaGreatQ28
import Derived.Test.YtmegdbbbllffkaaGreatQ29
import Derived.Test.YtmegdbbbllffkaaGreatQ31
import Derived.Test.YtmegdbbbllffkaaGreatQ25
namespace Go.Hp.T
open Go Go.RowKit Go.Slot Go.Hp Go.Slot.T
open Go.Proofs.Tryz (prog)
set_option maxRecDepth 10000
set_option maxHeartbeats 4000000
variable {Γ:List (Nat×List Cell)}
theorem w3o {v:Iv}:(ivS v).low=qF (some v.lo):=_root_.id rfl
theorem wj9 {v:Iv}:(ivS v).high=qF (some v.hi):=_root_.id rfl
attribute [go_sem] w3o wj9
theorem xet (V:Vi) (T:Vt) (a d:SB) (b:Bool):StH Γ [] [SV.tup [.agg [.mp 1,.mp 2],.one (.dat (cB b))]] [a,mI V,mB T,d] [SV.tup [.agg [.mp 0,.mp 1],.one (.dat (cB b))]] [mI V,mB T]:=by
 have e1:swL 0 1 [a,mI V,mB T,d]=[mI V,swSB 0 1 a,mB T,swSB 0 1 d]:=by
  show [swSB 0 1 (mI V),swSB 0 1 a,swSB 0 1 (mB T),swSB 0 1 d]=_;rw [x5z,w2a]
 have e2:swL 1 2 [mI V,swSB 0 1 a,mB T,swSB 0 1 d]=[mI V,mB T,swSB 1 2 (swSB 0 1 a),swSB 1 2 (swSB 0 1 d)]:=by
  show [swSB 1 2 (mI V),swSB 1 2 (mB T),swSB 1 2 (swSB 0 1 a),swSB 1 2 (swSB 0 1 d)]=_;rw [x5z,w2a]
 have h1:=StH.xn2 (Γ:=Γ) (e:=[]) (σ:=[SV.tup [.agg [.mp 1,.mp 2],.one (.dat (cB b))]]) (η:=[a,mI V,mB T,d]) (i:=0) (j:=1) (by decide) (by decide) (by simp) (by simp);have h2:=StH.xn2 (Γ:=Γ) (e:=[]) (σ:=[SV.tup [.agg [.mp 0,.mp 2],.one (.dat (cB b))]]) (η:=[mI V,swSB 0 1 a,mB T,swSB 0 1 d]) (i:=1) (j:=2) (by decide) (by decide) (by simp) (by simp)
 have h3:=StH.cutB (Γ:=Γ) (e:=[]) (σ:=[SV.tup [.agg [.mp 0,.mp 1],.one (.dat (cB b))]]) (η:=[mI V,mB T,swSB 1 2 (swSB 0 1 a),swSB 1 2 (swSB 0 1 d)]) 2 (by decide) (by
  unfold x2g;show (_&&([mI V,mB T].all fun x=>(z0y x).all fun b=>Nat.blt b 2))=true
  simp only [List.all_cons,wh2,y7o,List.all_nil];rfl)
 rw [e1] at h1;rw [e2] at h2;exact h1.trans (h2.trans h3)
def opnB:Option (Vi×Vt)->List SB
 | none=>[]
 | some p=>[mI p.1,mB p.2]
def opnR:Option (Vi×Vt)->SV
 | none=>.tup [.agg [.any,.any],.one (.dat (cB false))]
 | some _=>.tup [.agg [.mp 0,.mp 1],.one (.dat (cB true))]
theorem ys1 (zs:List Zn) (ms:List Tb) (hb:zs.length<=1073741824) (hm:ms.length<=1073741824) (hbs:∀ b∈zs,b.name.size<=1073741824/\b.s.sz<=67108864) (hms:∀ t∈ms,t.Sm) :
 vfe Γ prog 60 [] [.one (.dat (.sl 9 (zs.map Zn.C))),.one (.dat (.sl 3 (ms.map Tb.C)))] (opnB (entZ zs ms)) (opnR (entZ zs ms)):=by
 refine vfe.run [] Go.Proofs.Tryz.func60 rfl rfl ?_;simp only [Go.Proofs.Tryz.f60];refine hgR ?_;refine y55 [0,1,4,5,6,14,15] (fun p:Nat×Vi=>[(16,.one (.dat (cI p.1)))]) (fun p=>[.box [.dat (.raw (.map none)),.dat (.raw (.map none))] (some 126),mI p.2,mB [],.box [.mp 1,.mp 2] (some 126)])
  (fun p=>p.1<=zs.length/\rZ [] zs=rZ p.2 (zs.drop p.1)) (fun p=>zs.length-p.1) (0,[]) ⟨Nat.zero_le _,rfl⟩ ?_ ?_
 . refine hg ?_;exact StH.same svl rfl
 rintro ⟨i,V⟩ ⟨h1,h2⟩;simp only at h1 h2;refine hg ?_;refine vnx (fun hlt _=>?_) (fun hlt _=>?_)
 . have hlt':i<zs.length:=by omega
   have hy:=hbs _ (w4t hlt');rw [xqz hlt'] at h2
   have hbad:rZ [] zs=none->entZ zs ms=none:=fun h=>by unfold entZ entG;rw [show gE Zn.name (fun b=>decide b.s.ok) (fun b=>ivOf b.s) (fun _=>false) [] zs=none from h]
   have h2':rZ [] zs=bif ((ycr V (zs.getD i default).name).isSome||(ycr ([]:Vt) (zs.getD i default).name).isSome||!isName (zs.getD i default).name||isWord (zs.getD i default).name)||!decide (zs.getD i default).s.ok then none else rZ (updF V (zs.getD i default).name (ivOf (zs.getD i default).s)) (zs.drop (i+1)):=h2
   clear h2;refine hg ?_;refine xwg (vfe.ro [1,2] (y6m V [] (zs.getD i default).name hy.1) (xa8 V []) (by decide) rfl rfl) ?_;generalize ((ycr V (zs.getD i default).name).isSome||(ycr ([]:Vt) (zs.getD i default).name).isSome||!isName (zs.getD i default).name||isWord (zs.getD i default).name)=X at *;generalize zs.getD i default=b at *;obtain ⟨nm,v⟩:=b;simp only at hy h2';by_cases hok:v.ok
   . obtain ⟨q,rfl⟩:=x6c hok;have hr:CallsD Γ prog 18 [.agg (ivC q)] (.one (cB true)):=ymg q hy.2;rw [decide_eq_true hok,xjv] at h2';clear hok
     cases X with
     | true=>
      rw [hbad h2'];refine hg ?_
      repeat' ((first | refine hfk ?_ ?_<;>intros | refine hik ?_)<;>refine hgS ?_)
      exact wvc
     | false=>
      refine hg ?_
      repeat' ((first | refine hfk ?_ ?_<;>intros | refine hik ?_ | with_reducible first | refine v6l (hr) ?_ | refine vgi (hr) ?_)<;>refine hgS ?_)
      refine ⟨(i+1,updF V nm q),⟨by dsimp only;omega,by first | exact h2' | rfl⟩,by dsimp only;omega,?_⟩;refine StH.cutN [0,1,4,5,6,14,15,16] 4 rfl ?_ ?_
      . refine hg ?_;exact trivial
      exact StH.same svl rfl
   . have hr:CallsD Γ prog 18 [.agg (scC v)] (.one (cB false)):=by
      have:=toD (Γ:=Γ) (y28 v hy.2 hok)
      exact this
     rw [hbad (by rw [h2',decide_eq_false hok];cases X<;>rfl)];clear hbad h2' hok
     cases X with
     | true=>
      refine hg ?_
      repeat' ((first | refine hfk ?_ ?_<;>intros | refine hik ?_)<;>refine hgS ?_)
      exact wvc
     | false=>
      refine hg ?_
      repeat' ((first | refine hfk ?_ ?_<;>intros | refine hik ?_ | with_reducible first | refine v6l (hr) ?_ | refine vgi (hr) ?_)<;>refine hgS ?_)
      exact wvc
 . have hV:rZ [] zs=some V:=by rw [h2,List.drop_eq_nil_of_le (by omega)];rfl
   clear h2 h1 hlt hbs
   have hbad:rTi V [] ms=none->entZ zs ms=none:=fun h=>by
    unfold entZ entG;rw [show gE Zn.name (fun b=>decide b.s.ok) (fun b=>ivOf b.s) (fun _=>false) [] zs=some V from hV];show Option.map _ (rTi V [] ms)=none;rw [h];rfl
   have hgood:∀ T,rTi V [] ms=some T->entZ zs ms=some (V,T):=fun T h=>by
    unfold entZ entG;rw [show gE Zn.name (fun b=>decide b.s.ok) (fun b=>ivOf b.s) (fun _=>false) [] zs=some V from hV];show Option.map _ (rTi V [] ms)=_;rw [h];rfl
   clear hV;refine hg ?_;refine y55 [4,5,6,39,40] (fun p:Nat×Vt=>[(41,.one (.dat (cI p.1)))]) (fun p=>[.box [.dat (.raw (.map none)),.dat (.raw (.map none))] (some 126),mI V,mB p.2,.box [.mp 1,.mp 2] (some 126)])
    (fun p=>p.1<=ms.length/\rTi V [] ms=rTi V p.2 (ms.drop p.1)) (fun p=>ms.length-p.1) (0,[]) ⟨Nat.zero_le _,rfl⟩ ?_ ?_
   . refine hg ?_;exact StH.same svl rfl
   rintro ⟨j,T⟩ ⟨h1,h2⟩;simp only at h1 h2;refine hg ?_;refine vnx (fun hlt _=>?_) (fun hlt _=>?_)
   . have hlt':j<ms.length:=by omega
     have hy:=hms _ (w4t hlt');rw [xqz hlt'] at h2;have hr:=vv4 (Γ:=Γ) _ hy.n hy.u hy.r
     have h3:rTi V [] ms=bif ((ycr T (ms.getD j default).name).isSome||(ycr V (ms.getD j default).name).isSome||!isName (ms.getD j default).name||isWord (ms.getD j default).name)||!zi4 (fun s=>(zth s).2) (ms.getD j default) then none else rTi V (updF T (ms.getD j default).name (ms.getD j default)) (ms.drop (j+1)):=h2
     have h2':rTi V [] ms=bif ((ycr V (ms.getD j default).name).isSome||(ycr T (ms.getD j default).name).isSome||!isName (ms.getD j default).name||isWord (ms.getD j default).name)||!zi4 (fun s=>(zth s).2) (ms.getD j default) then none else rTi V (updF T (ms.getD j default).name (ms.getD j default)) (ms.drop (j+1)):=by
      rw [h3,Bool.or_comm (ycr T (ms.getD j default).name).isSome]
     clear h3 h2;refine hg ?_;refine xwg (vfe.ro [1,2] (y6m V T (ms.getD j default).name hy.n) (xa8 V T) (by decide) rfl rfl) ?_;clear hy;generalize ((ycr V (ms.getD j default).name).isSome||(ycr T (ms.getD j default).name).isSome||!isName (ms.getD j default).name||isWord (ms.getD j default).name)=X at *;generalize zi4 (fun s=>(zth s).2) (ms.getD j default)=Y at *
     cases X with
     | true=>
      rw [hbad h2'];refine hg ?_
      repeat' ((first | refine hfk ?_ ?_<;>intros | refine hik ?_)<;>refine hgS ?_)
      exact wvc
     | false=>cases Y with
      | false=>
       rw [hbad h2'];refine hg ?_
       repeat' ((first | refine hfk ?_ ?_<;>intros | refine hik ?_ | with_reducible first | refine v6l (hr) ?_ | refine vgi (hr) ?_)<;>refine hgS ?_)
       exact wvc
      | true=>
       refine hg ?_
       repeat' ((first | refine hfk ?_ ?_<;>intros | refine hik ?_ | with_reducible first | refine v6l (hr) ?_ | refine vgi (hr) ?_)<;>refine hgS ?_)
       refine ⟨(j+1,updF T (ms.getD j default).name (ms.getD j default)),⟨by dsimp only;omega,by first | exact h2' | rfl⟩,by dsimp only;omega,?_⟩;refine StH.cutN [4,5,6,39,40,41] 4 rfl ?_ ?_
       . refine hg ?_;exact trivial
       exact StH.same svl rfl
   . have hT:rTi V [] ms=some T:=by rw [h2,List.drop_eq_nil_of_le (by omega)];rfl
     rw [hgood T hT];clear h2 h1 hlt hbad hgood hT;refine hg ?_;exact xet V T _ _ true
theorem yhw {t:Bool} {c d:Bool}:zq3 t (.inr (.tru c d))=bif t then .inr (.tru c d) else .inl 13:=by cases t<;>rfl
theorem yn5 {t:Bool} {v:Iv}:zq3 t (.inr (.num v))=bif t then .inl 13 else .inr (.num v):=by cases t<;>rfl
theorem v2e (x:Ex) (zs:List Zn) (ms:List Tb) (t:Bool) (hx:x.Sm) (hb:zs.length<=1073741824) (hm:ms.length<=1073741824) (hbs:∀ b∈zs,b.name.size<=1073741824/\b.s.sz<=160000) (hms:∀ t∈ms,t.Sm) :
 CallsD Γ prog 39 [.agg (exC x),.one (.sl 9 (zs.map Zn.C)),.one (.sl 3 (ms.map Tb.C)),.one (cB t)] (krR (zq3 t (hulF x zs ms))):=by
 have hr:=ys1 (Γ:=Γ) zs ms hb hm (fun b h=>⟨(hbs b h).1,Nat.le_trans (hbs b h).2 (by decide)⟩) hms;have c1:=xz2 (Γ:=Γ) x hx;have c2:=ve7 (Γ:=Γ) x hx
 cases hr1:xub x with
 | false=>
  rw [hr1] at c1;rw [show hulF x zs ms=.inl 2 by unfold hulF;rw [hr1];rfl];refine CallsD.run [] Go.Proofs.Tryz.func39 rfl rfl rfl ?_;simp only [Go.Proofs.Tryz.f39];refine hgR ?_
  repeat' ((first | refine hfk ?_ ?_<;>intros | refine hik ?_ | with_reducible first | refine v6l (c1) ?_ | refine vgi (c1) ?_)<;>refine hgS ?_)
  exact xp8 2
 | true=>cases hc1:x.xi4 with
  | true=>
   rw [hr1] at c1;rw [hc1] at c2;rw [show hulF x zs ms=.inl 2 by unfold hulF;rw [hr1,hc1];rfl];refine CallsD.run [] Go.Proofs.Tryz.func39 rfl rfl rfl ?_;simp only [Go.Proofs.Tryz.f39];refine hgR ?_
   repeat' ((first | refine hfk ?_ ?_<;>intros | refine hik ?_ | with_reducible first | refine v6l (c1) ?_ | refine vgi (c1) ?_ | refine v6l (c2) ?_ | refine vgi (c2) ?_)<;>refine hgS ?_)
   exact xp8 2
  | false=>
   rw [hr1] at c1;rw [hc1] at c2
   have hsh:x.shaped=true:=by unfold xub at hr1;rw [Bool.and_eq_true] at hr1;exact hr1.2
   cases hrd:entZ zs ms with
   | none=>
    rw [hrd] at hr;rw [show hulF x zs ms=.inl 1 by unfold hulF;rw [hr1,hc1,hrd];rfl]
    have hr2:∀ a b:SB,vfe Γ prog 60 [a,b] [.one (.dat (.sl 9 (zs.map Zn.C))),.one (.dat (.sl 3 (ms.map Tb.C)))] [a,b] (.tup [.agg [.any,.any],.one (.dat (cB false))]):=fun a b=>vfe.at [] (η:=[a,b]) hr (by decide) rfl rfl rfl
    refine CallsD.run [] Go.Proofs.Tryz.func39 rfl rfl rfl ?_;simp only [Go.Proofs.Tryz.f39];refine hgR ?_
    repeat' ((first | refine hfk ?_ ?_<;>intros | refine hik ?_ | with_reducible first | refine v6l (c1) ?_ | refine vgi (c1) ?_ | refine v6l (c2) ?_ | refine vgi (c2) ?_)<;>refine hgS ?_)
    refine xc5 (hr2 _ _) rfl ?_;refine hg ?_
    repeat' ((first | refine hfk ?_ ?_<;>intros | refine hik ?_)<;>refine hgS ?_)
    exact xp8 1
   | some p=>
    obtain ⟨V,T⟩:=p;rw [hrd] at hr;rw [show hulF x zs ms=x.hul V T by unfold hulF;rw [hr1,hc1,hrd];rfl]
    have hr2:∀ a b:SB,vfe Γ prog 60 [a,b] [.one (.dat (.sl 9 (zs.map Zn.C))),.one (.dat (.sl 3 (ms.map Tb.C)))] [a,b,mI V,mB T] (.tup [.agg [.mp 2,.mp 3],.one (.dat (cB true))]):=fun a b=>by
     have h:=vfe.at [] (η:=[a,b]) hr (by decide) rfl rfl rfl
     have e:putR [] [a,b] (opnB (some (V,T)))=[a,b,mI V,mB T]:=by
      show [a,b,rnSB _ (mI V),rnSB _ (mB T)]=_;rw [wmq,xqg]
     rw [e] at h;exact h
    have hnd:=wl8 hr1;have hB:(161000:Nat)*x.nd<=33554400:=Nat.le_trans (Nat.mul_le_mul_left _ hnd) (by decide);have hV:=vlg (B:=161000) hrd (fun b h=>by have:=(hbs b h).2;omega);have hT:=x3w hrd hms;have hc:=yk3 (Γ:=Γ) (B:=161000) (by decide) V T hV hT x hx hsh hc1 hB;have hk:=zfk (B:=161000) (by decide) hV hT x hsh hc1;generalize x.hul V T=r at hc hk ⊢
    rcases r with e | ⟨c,d⟩ | v
    . have he:¬e=0:=hk;refine CallsD.run [] Go.Proofs.Tryz.func39 rfl rfl rfl ?_;simp only [Go.Proofs.Tryz.f39];refine hgR ?_
      repeat' ((first | refine hfk ?_ ?_<;>intros | refine hik ?_ | with_reducible first | refine v6l (c1) ?_ | refine vgi (c1) ?_ | refine v6l (c2) ?_ | refine vgi (c2) ?_)<;>refine hgS ?_)
      refine xc5 (hr2 _ _) rfl ?_;refine hg ?_;refine xwg (vfe.ro [2,3] hc (xa8 V T) (by decide) rfl rfl) ?_;refine hg ?_
      repeat' ((first | refine hfk ?_ ?_<;>intros | refine hik ?_)<;>refine hgS ?_)
      all_goals first
       | (exfalso;omega)
       | exact xp8 e
    all_goals
     simp only [yhw,yn5]
     cases t
     all_goals
      refine CallsD.run [] Go.Proofs.Tryz.func39 rfl rfl rfl ?_;simp only [Go.Proofs.Tryz.f39];refine hgR ?_
      repeat' ((first | refine hfk ?_ ?_<;>intros | refine hik ?_ | with_reducible first | refine v6l (c1) ?_ | refine vgi (c1) ?_ | refine v6l (c2) ?_ | refine vgi (c2) ?_)<;>refine hgS ?_)
      refine xc5 (hr2 _ _) rfl ?_;refine hg ?_;refine xwg (vfe.ro [2,3] hc (xa8 V T) (by decide) rfl rfl) ?_;refine hg ?_
      repeat' ((first | refine hfk ?_ ?_<;>intros | refine hik ?_)<;>refine hgS ?_)
      all_goals first
       | (exfalso;omega)
       | exact xp8 13
       | exact RLe.ofEq rfl
theorem xba:CallsD Γ prog 40 [.agg (scC Sc.zero)] (.agg (scC Sc.zero)):=by
 have h1:=toD (Γ:=Γ) (y28 Sc.zero (by decide) (fun h=>Fc.vc1 h.1));have h1:CallsD Γ prog 18 [.agg [cI 0,.ints .i64 [],cI 0,.ints .i64 [],cI 0,.ints .i64 [],cI 0,.ints .i64 []]] (.one (cB false)):=h1;refine CallsD.run [] Go.Proofs.Tryz.func40 rfl rfl rfl ?_;simp only [Go.Proofs.Tryz.f40];refine hgR ?_
 repeat' ((first | refine hfk ?_ ?_<;>intros | refine hik ?_ | with_reducible first | refine v6l (h1) ?_ | refine vgi (h1) ?_)<;>refine hgS ?_)
 exact .one wu9
theorem neg_neg (v:Iv):v.neg.neg=v:=Iv.ext' (Rat.neg_neg _) (Rat.neg_neg _)
theorem z5d {x : Ex} {zs : List Zn} {ms : List Tb} {B : Nat} (hB : 4300 ≤ B) (hb : ∀ b ∈ zs, b.s.sz + 10 ≤ B) (hms : ∀ t ∈ ms, t.Sm) : Kok (B * 200) (hulF x zs ms) := by
 unfold hulF
 cases h1:xub x with
 | false=>exact (by decide:(2:Int)≠0)
 | true=>cases h2:x.xi4 with
  | true=>exact (by decide:(2:Int)≠0)
  | false=>cases h3:entZ zs ms with
   | none=>exact (by decide:(1:Int)≠0)
   | some p=>
    obtain ⟨V,T⟩:=p
    have hsh:x.shaped=true:=by unfold xub at h1;rw [Bool.and_eq_true] at h1;exact h1.2
    exact (zfk hB (vlg h3 hb) (x3w h3 hms) x hsh h2).mono (Nat.mul_le_mul_left _ (wl8 h1))
abbrev hoR (r:Kr):AV:=.tup [.agg (scC (krK r).s),.one (cI (krE r))]
abbrev htR (r:Kr):AV:=.tup [.one (cB (krK r).c),.one (cB (krK r).d),.one (cI (krE r))]
theorem vbh (x:Ex) (zs:List Zn) (ms:List Tb) (hx:x.Sm) (hb:zs.length<=1073741824) (hm:ms.length<=1073741824) (hbs:∀ b∈zs,b.name.size<=1073741824/\b.s.sz<=160000) (hms:∀ t∈ms,t.Sm) :
 CallsD Γ prog 11 [.agg (exC x),.one (.sl 9 (zs.map Zn.C)),.one (.sl 3 (ms.map Tb.C))] (hoR (zq3 false (hulF x zs ms))):=by
 have hc:=v2e (Γ:=Γ) x zs ms false hx hb hm hbs hms;have hk:=z5d (x:=x) (B:=161000) (by decide) (fun b h=>by have:=(hbs b h).2;omega) hms;have hz:=xba (Γ:=Γ);have hz:CallsD Γ prog 40 [.agg [cI 0,.ints .i64 [],cI 0,.ints .i64 [],cI 0,.ints .i64 [],cI 0,.ints .i64 []]] (.agg [cI 0,.ints .i64 [],cI 0,.ints .i64 [],cI 0,.ints .i64 [],cI 0,.ints .i64 []]):=hz;generalize hulF x zs ms=r at hc hk ⊢
 rcases r with e | ⟨c,d⟩ | v
 . rw [show zq3 false (.inl e)=.inl e from rfl] at hc ⊢;refine CallsD.run [] Go.Proofs.Tryz.func11 rfl rfl rfl ?_;simp only [Go.Proofs.Tryz.f11];refine hgR ?_
   repeat' ((first | refine hfk ?_ ?_<;>intros | refine hik ?_ | with_reducible first | refine v6l (hc) ?_ | refine vgi (hc) ?_ | refine v6l (hz) ?_ | refine vgi (hz) ?_)<;>refine hgS ?_)
   exact RLe.ofEq rfl
 . rw [show zq3 false (.inr (.tru c d))=.inl 13 from rfl] at hc ⊢;refine CallsD.run [] Go.Proofs.Tryz.func11 rfl rfl rfl ?_;simp only [Go.Proofs.Tryz.f11];refine hgR ?_
   repeat' ((first | refine hfk ?_ ?_<;>intros | refine hik ?_ | with_reducible first | refine v6l (hc) ?_ | refine vgi (hc) ?_ | refine v6l (hz) ?_ | refine vgi (hz) ?_)<;>refine hgS ?_)
   exact RLe.ofEq rfl
 . rw [show zq3 false (.inr (.num v))=.inr (.num v) from rfl] at hc ⊢;have hk:ivZ v<=67108864:=Nat.le_trans hk (by decide);have n1:=iNeg (Γ:=Γ) v hk;have n2:=iNeg (Γ:=Γ) v.neg (by rw [za4];exact hk);rw [neg_neg] at n2;refine CallsD.run [] Go.Proofs.Tryz.func11 rfl rfl rfl ?_;simp only [Go.Proofs.Tryz.f11];refine hgR ?_
   repeat' ((first | refine hfk ?_ ?_<;>intros | refine hik ?_ | with_reducible first | refine v6l (hc) ?_ | refine vgi (hc) ?_ | refine v6l (n1) ?_ | refine vgi (n1) ?_ | refine v6l (n2) ?_ | refine vgi (n2) ?_)<;>refine hgS ?_)
   exact RLe.ofEq rfl
theorem zn3 (x:Ex) (zs:List Zn) (ms:List Tb) (hx:x.Sm) (hb:zs.length<=1073741824) (hm:ms.length<=1073741824) (hbs:∀ b∈zs,b.name.size<=1073741824/\b.s.sz<=160000) (hms:∀ t∈ms,t.Sm) :
 CallsD Γ prog 13 [.agg (exC x),.one (.sl 9 (zs.map Zn.C)),.one (.sl 3 (ms.map Tb.C))] (htR (zq3 true (hulF x zs ms))):=by
 have hc:=v2e (Γ:=Γ) x zs ms true hx hb hm hbs hms;generalize hulF x zs ms=r at hc ⊢
 rcases r with e | ⟨c,d⟩ | v
 . rw [show zq3 true (.inl e)=.inl e from rfl] at hc ⊢;refine CallsD.run [] Go.Proofs.Tryz.func13 rfl rfl rfl ?_;simp only [Go.Proofs.Tryz.f13];refine hgR ?_
   repeat' ((first | refine hfk ?_ ?_<;>intros | refine hik ?_ | with_reducible first | refine v6l (hc) ?_ | refine vgi (hc) ?_)<;>refine hgS ?_)
   exact RLe.ofEq rfl
 . rw [show zq3 true (.inr (.tru c d))=.inr (.tru c d) from rfl] at hc ⊢;refine CallsD.run [] Go.Proofs.Tryz.func13 rfl rfl rfl ?_;simp only [Go.Proofs.Tryz.f13];refine hgR ?_
   repeat' ((first | refine hfk ?_ ?_<;>intros | refine hik ?_ | with_reducible first | refine v6l (hc) ?_ | refine vgi (hc) ?_)<;>refine hgS ?_)
   exact RLe.ofEq rfl
 . rw [show zq3 true (.inr (.num v))=.inl 13 from rfl] at hc ⊢;refine CallsD.run [] Go.Proofs.Tryz.func13 rfl rfl rfl ?_;simp only [Go.Proofs.Tryz.f13];refine hgR ?_
   repeat' ((first | refine hfk ?_ ?_<;>intros | refine hik ?_ | with_reducible first | refine v6l (hc) ?_ | refine vgi (hc) ?_)<;>refine hgS ?_)
   exact RLe.ofEq rfl
end Go.Hp.T
namespace Go.Slot.T
open Go Go.RowKit Go.Slot
open Go.Proofs.Tryz (prog)
set_option maxRecDepth 10000
set_option maxHeartbeats 4000000
theorem v2q {α:Type} {l:List α} {i:Nat} (d:α) (h:i<l.length):l.take (i+1)=l.take i++[l.getD i d]:=by
 rw [List.take_add_one];simp [h]
theorem rFew (f:Fc) (n:Int) (_h1:f.L.length<=1099511627776) (_h2:f.M.length<=1099511627776) :
 yn2 prog 20 [.agg f.C,.one (.raw (.int .i64 n))] (.one (.raw (.bool (decide ((f.sz:Int)<=n))))):=by
 have e:((f.sz:Nat):Int)=max (f.L.length:Int) f.M.length:=by unfold Fc.sz;omega
 refine yn2.run [] Go.Proofs.Tryz.func20 rfl rfl ?_;simp only [Go.Proofs.Tryz.f20];refine rgR ?_;refine z4u (fun h=>?_) (fun h=>?_)
 . have h':=decide_eq_true h;refine rg1 @h' ?_;exact ⟨_,rfl,by rw [show decide ((f.sz:Int)<=n)=decide ((f.M.length:Int)<=n) from decide_eq_decide.2 (by omega)];exact .one (.refl _)⟩
 . have h':=decide_eq_false h;refine rg1 @h' ?_;exact ⟨_,rfl,by rw [decide_eq_false (by omega)];exact .one (.refl _)⟩
theorem wr8 (f:Fc) (h1:f.L.length<=1099511627776) (h2:f.M.length<=1099511627776) :
 yn2 prog 20 [.agg f.C,.one (.raw (.int .i64 4))] (.one (.raw (.bool (decide (f.sz<=4))))):=by
 have:=rFew f 4 h1 h2
 rwa [decide_eq_decide.2 (show (f.sz:Int)<=4↔f.sz<=4 by omega)] at this
theorem zoo (s:Int) (L:List Int) (s':Int) (M:List Int) (lL:L.length<=1073741824) (_lM:M.length<=1073741824) :
 yn2 prog 67 [.agg [.raw (.int .i64 s),.ints .i64 L],.agg [.raw (.int .i64 s'),.ints .i64 M]] (.one (.raw (.bool (decide (s=s'/\L=M))))):=by
 obtain ⟨r,hr⟩:∃ r,r=decide (s=s'/\L=M):=⟨_,rfl⟩;rw [<-hr]
 have bad:¬(s=s'/\L=M)->false=r:=fun h=>by rw [hr,decide_eq_false h]
 by_cases h1:s=s'
 . subst h1;by_cases h2:(L.length:Int)=M.length
   . have hl:L.length=M.length:=by omega
     have h2':¬((L.length:Int)≠M.length):=fun h=>h h2
     refine yn2.run [] Go.Proofs.Tryz.func67 rfl rfl ?_;simp only [Go.Proofs.Tryz.f67];refine rgR ?_;refine z08 (fun h=>absurd h h2') (fun _=>?_);refine rg ?_;refine vxs [] (fun i:Nat=>[(5,.one (.raw (.int .i64 i)))]) (fun i=>i<=L.length/\L.take i=M.take i) (fun i=>L.length-i) 0 ⟨Nat.zero_le _,rfl⟩ ?_ ?_
     . refine rg ?_;exact StLe.weaken (by repeat' first | exact .nil | refine .cons (by first | exact .refl _ | exact .any _) ?_) rfl
     rintro i ⟨hi,he⟩;refine rg ?_;refine z08 (fun h1=>?_) (fun h1=>?_)
     . have hg:∀(l:List Int),i<l.length->l.take (i+1)=l.take i++[l.getD i 0]:=fun l h=>v2q 0 h
       refine rg ?_;refine indk (by kernel_rfl) ?_;refine rg ?_;refine z08 (fun h2=>?_) (fun h2=>?_)
       . refine rg ?_;exact ⟨_,rfl,by rw [bad (fun e=>h2 (by rw [e.2]))];exact .one (.refl _)⟩
       . have h2:L.getD i 0=M.getD i 0:=by omega
         refine rg ?_;refine ⟨i+1,⟨by omega,?_⟩,by omega,StLe.weaken (by repeat' first | exact .nil | refine .cons (by first | exact .refl _ | exact .any _) ?_) rfl⟩;rw [hg L (by omega),hg M (by omega),he,h2]
     . have hi:i=L.length:=by omega
       subst hi;rw [List.take_length,hl,List.take_length] at he
       have e:true=r:=by rw [hr,decide_eq_true ⟨rfl,he⟩]
       refine rg ?_;exact ⟨_,rfl,by rw [e];exact .one (.refl _)⟩
   . have h2:(L.length:Int)≠M.length:=h2;refine yn2.run [] Go.Proofs.Tryz.func67 rfl rfl ?_;simp only [Go.Proofs.Tryz.f67];refine rgR ?_;refine z08 (fun _=>?_) (fun h=>absurd h2 h);refine rg ?_;exact ⟨_,rfl,by rw [bad (fun e=>h2 (by rw [e.2]))];exact .one (.refl _)⟩
 . have h1':=decide_eq_true (show s≠s' from h1);refine yn2.run [] Go.Proofs.Tryz.func67 rfl rfl ?_;simp only [Go.Proofs.Tryz.f67];refine rgR ?_;refine xjr (fun h=>absurd h1 h) (fun h=>?_);refine rg1 @h1' ?_;exact ⟨_,rfl,by rw [bad (fun e=>h1 e.1)];exact .one (.refl _)⟩
theorem ywv (a b:Fc) (ha:a.sz<=67108864) (hb:b.sz<=67108864):yn2 prog 42 [.agg a.C,.agg b.C] (.one (.raw (.bool (decide (a=b))))):=by
 have la:=szL ha;have lb:=szL hb;obtain ⟨r,hr⟩:∃ r,r=decide (a=b):=⟨_,rfl⟩;rw [<-hr];by_cases h:a.s=b.s/\a.L=b.L
 . have h1:=zoo a.s a.L b.s b.L (by omega) (by omega);rw [decide_eq_true h] at h1;have h2:=zoo a.t a.M b.t b.M (by omega) (by omega)
   have e:decide (a.t=b.t/\a.M=b.M)=r:=by
    rw [hr];apply decide_eq_decide.2;constructor
    . intro h';cases a;cases b;simp at h h';simp [h,h']
    . intro h';rw [h'];exact ⟨rfl,rfl⟩
   rw [e] at h2;refine yn2.run [] Go.Proofs.Tryz.func42 rfl rfl ?_;simp only [Go.Proofs.Tryz.f42];refine rgR ?_;refine v1h h1 ?_;refine rg ?_;refine v1h h2 ?_;refine rg ?_;exact ⟨_,rfl,.one (.refl _)⟩
 . have h1:=zoo a.s a.L b.s b.L (by omega) (by omega);rw [decide_eq_false h] at h1
   have e:r=false:=by rw [hr,decide_eq_false (fun e=>h (by rw [e];exact ⟨rfl,rfl⟩))]
   subst e;refine yn2.run [] Go.Proofs.Tryz.func42 rfl rfl ?_;simp only [Go.Proofs.Tryz.f42];refine rgR ?_;refine v1h h1 ?_;refine rg ?_;exact ⟨_,rfl,.one (.refl _)⟩
theorem x94 (a b:Sc) (ha:a.sz<=67108864) (hb:b.sz<=67108864):yn2 prog 15 [.agg a.C,.agg b.C] (.one (.raw (.bool (decide (a=b))))):=by
 have ⟨h1,h2⟩:=Sc.zp5 ha;have ⟨h3,h4⟩:=Sc.zp5 hb;have c1:=ywv a.low b.low h1 h3;have c2:=ywv a.high b.high h2 h4;by_cases h:a.low=b.low
 . rw [decide_eq_true h] at c1;rw [show decide (a=b)=decide (a.high=b.high) from decide_eq_decide.2 ⟨fun e=>by rw [e],fun e=>by cases a;cases b;simp at h e;rw [h,e]⟩];refine yn2.run [] Go.Proofs.Tryz.func15 rfl rfl ?_;simp only [Go.Proofs.Tryz.f15];refine rgR ?_;refine v1h c1 ?_;refine rg ?_;refine v1h c2 ?_;refine rg ?_;exact ⟨_,rfl,.one (.refl _)⟩
 . rw [decide_eq_false h] at c1;rw [decide_eq_false (fun e=>h (by rw [e]))];refine yn2.run [] Go.Proofs.Tryz.func15 rfl rfl ?_;simp only [Go.Proofs.Tryz.f15];refine rgR ?_;refine v1h c1 ?_;refine rg ?_;exact ⟨_,rfl,.one (.refl _)⟩
theorem xmj (s:Sc) (h:s.sz<=67108864):yn2 prog 16 [.agg s.C,.one (.raw (.int .i64 4))] (.one (.raw (.bool (decide (s.sz<=4))))):=by
 have ⟨h1,h2⟩:=Sc.zp5 h;have l1:=szL h1;have l2:=szL h2;have c1:=wr8 s.low (by omega) (by omega);have c2:=wr8 s.high (by omega) (by omega);have e:s.sz=max s.low.sz s.high.sz:=rfl;by_cases h:s.low.sz<=4
 . rw [decide_eq_true h] at c1;rw [show decide (s.sz<=4)=decide (s.high.sz<=4) from decide_eq_decide.2 (by omega)];refine yn2.run [] Go.Proofs.Tryz.func16 rfl rfl ?_;simp only [Go.Proofs.Tryz.f16];refine rgR ?_;refine v1h c1 ?_;refine rg ?_;refine v1h c2 ?_;refine rg ?_;exact ⟨_,rfl,.one (.refl _)⟩
 . rw [decide_eq_false h] at c1;rw [decide_eq_false (show ¬s.sz<=4 by omega)];refine yn2.run [] Go.Proofs.Tryz.func16 rfl rfl ?_;simp only [Go.Proofs.Tryz.f16];refine rgR ?_;refine v1h c1 ?_;refine rg ?_;exact ⟨_,rfl,.one (.refl _)⟩
end Go.Slot.T
namespace Go.Hp.T
open Go Go.RowKit Go.Slot Go.Hp Go.Slot.T
open Go.Proofs.Tryz (prog)
set_option maxRecDepth 100000
set_option maxHeartbeats 4000000
variable {Γ:List (Nat×List Cell)}
def xnam (s:ByteArray):Ex:=.mk 1 0 ⟨⟨[]⟩⟩ s []
def xnum (n:Int):Ex:=.mk 0 n ⟨⟨[]⟩⟩ ⟨⟨[]⟩⟩ []
def xop (k:Int) (a b:Ex):Ex:=.mk k 0 ⟨⟨[]⟩⟩ ⟨⟨[]⟩⟩ [a,b]
def xif (c a b:Ex):Ex:=.mk 5 0 ⟨⟨[]⟩⟩ ⟨⟨[]⟩⟩ [c,a,b]
def wzr (a:Ex):Ex:=.mk 2 0 ⟨⟨[]⟩⟩ ⟨⟨[116]⟩⟩ [a]
def xnot (a:Ex):Ex:=.mk 4 0 ⟨⟨[]⟩⟩ ⟨⟨[]⟩⟩ [a]
theorem yw8 (s:ByteArray):CallsD Γ prog 26 [.one (cS s)] (.agg (exC (xnam s))):=by
 refine CallsD.run [] Go.Proofs.Tryz.func26 rfl rfl rfl ?_;simp only [Go.Proofs.Tryz.f26];refine hgR ?_
 repeat' ((first | refine hfk ?_ ?_<;>intros | refine hik ?_)<;>refine hgS ?_)
 exact .one (.agg (.cons (.refl _) (.cons (.refl _) (.cons (.refl _) (.cons (.refl _) (.cons (.zcSl _) .nil))))))
theorem yst (n:Int):CallsD Γ prog 29 [.one (cI n)] (.agg (exC (xnum n))):=by
 refine CallsD.run [] Go.Proofs.Tryz.func29 rfl rfl rfl ?_;simp only [Go.Proofs.Tryz.f29];refine hgR ?_
 repeat' ((first | refine hfk ?_ ?_<;>intros | refine hik ?_)<;>refine hgS ?_)
 exact .one (.agg (.cons (.refl _) (.cons (.refl _) (.cons (.refl _) (.cons (.refl _) (.cons (.zcSl _) .nil))))))
theorem v9q (k:Int) (a b:Ex):CallsD Γ prog 28 [.one (cI k),.agg (exC a),.agg (exC b)] (.agg (exC (xop k a b))):=by
 refine CallsD.run [] Go.Proofs.Tryz.func28 rfl rfl rfl ?_;simp only [Go.Proofs.Tryz.f28];refine hgR ?_
 repeat' ((first | refine hfk ?_ ?_<;>intros | refine hik ?_)<;>refine hgS ?_)
 exact RLe.ofEq (by rw [show exC (xop k a b)=[cI k,cI 0,cS ⟨⟨[]⟩⟩,cS ⟨⟨[]⟩⟩,.sl 5 [a.cells,b.cells]] from rfl,Ex.vle,Ex.vle])
theorem zrl (c a b:Ex):CallsD Γ prog 36 [.agg (exC c),.agg (exC a),.agg (exC b)] (.agg (exC (xif c a b))):=by
 refine CallsD.run [] Go.Proofs.Tryz.func36 rfl rfl rfl ?_;simp only [Go.Proofs.Tryz.f36];refine hgR ?_
 repeat' ((first | refine hfk ?_ ?_<;>intros | refine hik ?_)<;>refine hgS ?_)
 exact RLe.ofEq (by rw [show exC (xif c a b)=[cI 5,cI 0,cS ⟨⟨[]⟩⟩,cS ⟨⟨[]⟩⟩,.sl 5 [c.cells,a.cells,b.cells]] from rfl,Ex.vle,Ex.vle,Ex.vle])
theorem yku (a:Ex):CallsD Γ prog 34 [.agg (exC a)] (.agg (exC (wzr a))):=by
 refine CallsD.run [] Go.Proofs.Tryz.func34 rfl rfl rfl ?_;simp only [Go.Proofs.Tryz.f34];refine hgR ?_
 repeat' ((first | refine hfk ?_ ?_<;>intros | refine hik ?_)<;>refine hgS ?_)
 exact RLe.ofEq (by rw [show exC (wzr a)=[cI 2,cI 0,cS ⟨⟨[]⟩⟩,cS ⟨⟨[116]⟩⟩,.sl 5 [a.cells]] from rfl,Ex.vle])
abbrev ofS (a b:Int):Sc:=⟨qF (some (a:Rat)),qF (some (b:Rat))⟩
theorem z8v (a b:Int) (ha:inI a) (hb:inI b):CallsD Γ prog 56 [.one (cI a),.one (cI b)] (.agg (scC (ofS a b))):=by
 have h1:=oInt (Γ:=Γ) a ha;have h2:=oInt (Γ:=Γ) b hb;refine CallsD.run [] Go.Proofs.Tryz.func56 rfl rfl rfl ?_;simp only [Go.Proofs.Tryz.f56];refine hgR ?_
 repeat' ((first | refine hfk ?_ ?_<;>intros | refine hik ?_ | with_reducible first | refine v6l (h1) ?_ | refine vgi (h1) ?_ | refine v6l (h2) ?_ | refine vgi (h2) ?_)<;>refine hgS ?_)
 exact RLe.ofEq rfl
def zs17:List Zn:=[⟨⟨⟨[97]⟩⟩,ofS 1 3⟩,⟨⟨⟨[98]⟩⟩,ofS 2 2⟩,⟨⟨⟨[109]⟩⟩,ofS (-1) 1⟩]
def ms17:List Tb:=[⟨⟨⟨[116]⟩⟩,⟨⟨[]⟩⟩,[⟨0,5⟩,⟨2,9⟩,⟨3,4⟩]⟩]
theorem zz1:CallsD Γ prog 30 [] (.one (.sl 9 (zs17.map Zn.C))):=by
 have h1:=z8v (Γ:=Γ) 1 3 (by decide) (by decide);have h2:=z8v (Γ:=Γ) 2 2 (by decide) (by decide);have h3:=z8v (Γ:=Γ) (-1) 1 (by decide) (by decide);refine CallsD.run [] Go.Proofs.Tryz.func30 rfl rfl rfl ?_;simp only [Go.Proofs.Tryz.f30];refine hgR ?_
 repeat' ((first | refine hfk ?_ ?_<;>intros | refine hik ?_ | with_reducible first | refine v6l (h1) ?_ | refine vgi (h1) ?_ | refine v6l (h2) ?_ | refine vgi (h2) ?_ | refine v6l (h3) ?_ | refine vgi (h3) ?_)<;>refine hgS ?_)
 exact RLe.ofEq rfl
theorem zec:CallsD Γ prog 31 [] (.one (.sl 3 (ms17.map Tb.C))):=by
 refine CallsD.run [] Go.Proofs.Tryz.func31 rfl rfl rfl ?_;simp only [Go.Proofs.Tryz.f31];refine hgR ?_
 repeat' ((first | refine hfk ?_ ?_<;>intros | refine hik ?_)<;>refine hgS ?_)
 exact RLe.ofEq rfl
theorem zba:∀ b∈zs17,b.name.size<=1073741824/\b.s.sz<=160000:=fun b hb=>by
 have h:∀ a b:Int,inI a->inI b->(ofS a b).sz<=160000:=fun a b ha hb=>Nat.le_trans (Nat.max_le.2 ⟨wtn ha,wtn hb⟩) (by decide)
 unfold zs17 at hb;simp only [List.mem_cons,List.not_mem_nil,or_false] at hb
 rcases hb with rfl | rfl | rfl
 . exact ⟨by decide,h _ _ (by decide) (by decide)⟩
 . exact ⟨by decide,h _ _ (by decide) (by decide)⟩
 . exact ⟨by decide,h _ _ (by decide) (by decide)⟩
theorem zbx:∀ t∈ms17,t.Sm:=fun t ht=>by
 unfold ms17 at ht;simp only [List.mem_cons,List.not_mem_nil,or_false] at ht;subst ht;exact ⟨by decide,by decide,by decide⟩
def vmn:Kr->Kr->Bool
 | .inl e,.inl e'=>decide (e=e')
 | .inr (.tru c d),.inr (.tru c' d')=>c==c'&&d==d'
 | .inr (.num v),.inr (.num w)=>decide (v.lo.num=w.lo.num)&&decide (v.lo.den=w.lo.den)&&(decide (v.hi.num=w.hi.num)&&decide (v.hi.den=w.hi.den))
 | _,_=>false
theorem vym:∀{a b:Kr},vmn a b=true->a=b
 | .inl e,.inl e',h=>by rw [of_decide_eq_true h]
 | .inr (.tru c d),.inr (.tru c' d'),h=>by
  unfold vmn at h;simp only [Bool.and_eq_true,beq_iff_eq] at h;rw [h.1,h.2]
 | .inr (.num v),.inr (.num w),h=>by
  unfold vmn at h;simp only [Bool.and_eq_true,decide_eq_true_eq] at h;rw [Iv.ext' (Rat.ext h.1.1 h.1.2) (Rat.ext h.2.1 h.2.2)]
 | .inl _,.inr (.tru _ _),h=>by cases h
 | .inl _,.inr (.num _),h=>by cases h
 | .inr (.tru _ _),.inl _,h=>by cases h
 | .inr (.num _),.inl _,h=>by cases h
 | .inr (.tru _ _),.inr (.num _),h=>by cases h
 | .inr (.num _),.inr (.tru _ _),h=>by cases h
theorem xrs (x:Ex) (hx:x.Sm):CallsD Γ prog 11 [.agg (exC x),.one (.sl 9 (zs17.map Zn.C)),.one (.sl 3 (ms17.map Tb.C))] (hoR (zq3 false (hulF x zs17 ms17))):=vbh x zs17 ms17 hx (by decide) (by decide) zba zbx
theorem vfw (x:Ex) (hx:x.Sm):CallsD Γ prog 13 [.agg (exC x),.one (.sl 9 (zs17.map Zn.C)),.one (.sl 3 (ms17.map Tb.C))] (htR (zq3 true (hulF x zs17 ms17))):=zn3 x zs17 ms17 hx (by decide) (by decide) zba zbx
theorem vz3 (x:Ex) (a b:Int) (hx:x.Sm) (ha:inI a) (hb:inI b) (hab:(a:Rat)<=(b:Rat)) (h:vmn (zq3 false (hulF x zs17 ms17)) (.inr (.num ⟨a,b,hab⟩))=true):CallsD Γ prog 32 [.agg (exC x),.one (cI a),.one (cI b)] (.one (cB true)):=by
 have h1:=xrs (Γ:=Γ) x hx;rw [vym h] at h1;have h2:=z8v (Γ:=Γ) a b ha hb;have h3:=toD (Γ:=Γ) (x94 (ofS a b) (ofS a b) (Nat.max_le.2 ⟨Nat.le_trans (wtn ha) (by decide),Nat.le_trans (wtn hb) (by decide)⟩) (Nat.max_le.2 ⟨Nat.le_trans (wtn ha) (by decide),Nat.le_trans (wtn hb) (by decide)⟩));rw [decide_eq_true rfl] at h3;have h3:CallsD Γ prog 15 [.agg (scC (ofS a b)),.agg (scC (ofS a b))] (.one (cB true)):=h3;refine CallsD.run [] Go.Proofs.Tryz.func32 rfl rfl rfl ?_;simp only [Go.Proofs.Tryz.f32];refine hgR ?_
 repeat' ((first | refine hfk ?_ ?_<;>intros | refine hik ?_ | with_reducible first | refine v6l (zz1) ?_ | refine vgi (zz1) ?_ | refine v6l (zec) ?_ | refine vgi (zec) ?_ | refine v6l (h1) ?_ | refine vgi (h1) ?_ | refine v6l (h2) ?_ | refine vgi (h2) ?_ | refine v6l (h3) ?_ | refine vgi (h3) ?_)<;>refine hgS ?_)
 all_goals first
  | exact RLe.ofEq rfl
  | (exfalso;omega)
theorem wml (x:Ex) (e:Int) (hx:x.Sm) (h:vmn (zq3 false (hulF x zs17 ms17)) (.inl e)=true):CallsD Γ prog 33 [.agg (exC x),.one (cI e)] (.one (cB true)):=by
 have h1:=xrs (Γ:=Γ) x hx;rw [vym h] at h1;refine CallsD.run [] Go.Proofs.Tryz.func33 rfl rfl rfl ?_;simp only [Go.Proofs.Tryz.f33];refine hgR ?_
 repeat' ((first | refine hfk ?_ ?_<;>intros | refine hik ?_ | with_reducible first | refine v6l (zz1) ?_ | refine vgi (zz1) ?_ | refine v6l (zec) ?_ | refine vgi (zec) ?_ | refine v6l (h1) ?_ | refine vgi (h1) ?_)<;>refine hgS ?_)
 all_goals first
  | exact RLe.ofEq rfl
  | exact RLe.ofEq (by simp)
  | (exfalso;omega)
theorem cCan (x:Ex) (c d:Bool) (hx:x.Sm) (h:vmn (zq3 true (hulF x zs17 ms17)) (.inr (.tru c d))=true):CallsD Γ prog 35 [.agg (exC x),.one (cB c),.one (cB d)] (.one (cB true)):=by
 have h1:=vfw (Γ:=Γ) x hx;rw [vym h] at h1
 cases c<;>cases d
 all_goals
  refine CallsD.run [] Go.Proofs.Tryz.func35 rfl rfl rfl ?_;simp only [Go.Proofs.Tryz.f35];refine hgR ?_
  repeat' ((first | refine hfk ?_ ?_<;>intros | refine hik ?_ | with_reducible first | refine v6l (zz1) ?_ | refine vgi (zz1) ?_ | refine v6l (zec) ?_ | refine vgi (zec) ?_ | refine v6l (h1) ?_ | refine vgi (h1) ?_)<;>refine hgS ?_)
  all_goals first
   | exact RLe.ofEq rfl
   | (exfalso;omega)
def xa:Ex:=xnam ⟨⟨[97]⟩⟩
def xb:Ex:=xnam ⟨⟨[98]⟩⟩
def xm:Ex:=xnam ⟨⟨[109]⟩⟩
mutual
def Ex.smB:Ex->Bool
 | .mk _ _ u s l=>Nat.ble l.length 1073741824&&Nat.ble u.size 1073741824&&Nat.ble s.size 1073741824&&Ex.smBL l
def Ex.smBL:List Ex->Bool
 | []=>true
 | x::l=>Ex.smB x&&Ex.smBL l
end
theorem Ex.z5h:∀ l:List Ex,Ex.smBL l=l.all Ex.smB
 | []=>by rw [Ex.smBL];rfl
 | x::l=>by rw [Ex.smBL,Ex.z5h l];rfl
theorem Ex.Sm.of:∀ x:Ex,x.smB=true->x.Sm:=by
 refine Ex.ind ?_;intro x ih h
 cases x with
 | mk o n u s l=>
  rw [Ex.smB,Ex.z5h] at h;simp only [Bool.and_eq_true,Nat.ble_eq,List.all_eq_true] at h;obtain ⟨⟨⟨h1,h2⟩,h3⟩,h4⟩:=h;exact .mk _ h1 h2 h3 (fun y hy=>ih y hy (h4 y hy))
theorem w4k:CallsD Γ prog 11 [.agg (exC (xop 9 (xnum 1) xa)),.one (.sl 9 (zs17.map Zn.C)),.one (.sl 3 (ms17.map Tb.C))] (.tup [.agg (scC ⟨qF (some (Rat.divInt 1 3)),qF (some ((1:Int):Rat))⟩),.one (cI 0)]):=by
 have h:=xrs (Γ:=Γ) (xop 9 (xnum 1) xa) (Ex.Sm.of _ (by kernel_rfl));rw [vym (a:=zq3 false (hulF (xop 9 (xnum 1) xa) zs17 ms17)) (b:=.inr (.num ⟨Rat.divInt 1 3,((1:Int):Rat),by decide⟩)) (by kernel_rfl)] at h;exact h
theorem wub:CallsD Γ prog 9 [] (.one (cB true)):=by
 have a1:=yw8 (Γ:=Γ) ⟨⟨[97]⟩⟩;have a2:=yw8 (Γ:=Γ) ⟨⟨[98]⟩⟩;have a3:=yw8 (Γ:=Γ) ⟨⟨[109]⟩⟩;change CallsD _ _ _ _ (.agg (exC xa)) at a1;change CallsD _ _ _ _ (.agg (exC xb)) at a2;change CallsD _ _ _ _ (.agg (exC xm)) at a3;have q1:CallsD Γ prog 27 [.one (cI 1),.one (cI 3)] (qR (some (Rat.divInt 1 3)) 0):=qOf 1 3 (by decide) (by decide) (by decide);have q2:=oInt (Γ:=Γ) 1 (by decide);have hs:(ivS ⟨Rat.divInt 1 3,((1:Int):Rat),by decide⟩).sz<=67108864:=Nat.le_of_ble_eq_true (by kernel_rfl);have q3:=toD (Γ:=Γ) (x94 (ivS ⟨Rat.divInt 1 3,((1:Int):Rat),by decide⟩) (ivS ⟨Rat.divInt 1 3,((1:Int):Rat),by decide⟩) hs hs);rw [decide_eq_true rfl] at q3;have q3:CallsD Γ prog 15 [.agg (scC ⟨qF (some (Rat.divInt 1 3)),qF (some ((1:Int):Rat))⟩),.agg (scC ⟨qF (some (Rat.divInt 1 3)),qF (some ((1:Int):Rat))⟩)] (.one (cB true)):=q3;have s1:=vz3 (Γ:=Γ) (xop 6 xa xb) 3 5 (Ex.Sm.of _ (by kernel_rfl)) (by decide) (by decide) (by decide) (by kernel_rfl);have s2:=vz3 (Γ:=Γ) (xop 7 xa xa) (-2) 2 (Ex.Sm.of _ (by kernel_rfl)) (by decide) (by decide) (by decide) (by kernel_rfl);have s3:=vz3 (Γ:=Γ) (xop 8 xa xm) (-3) 3 (Ex.Sm.of _ (by kernel_rfl)) (by decide) (by decide) (by decide) (by kernel_rfl);have f1:=wml (Γ:=Γ) (xop 9 (xnum 1) xm) 15 (Ex.Sm.of _ (by kernel_rfl)) (by kernel_rfl);have s4:=vz3 (Γ:=Γ) (wzr xa) 4 9 (Ex.Sm.of _ (by kernel_rfl)) (by decide) (by decide) (by decide) (by kernel_rfl);have f2:=wml (Γ:=Γ) (wzr xm) 4 (Ex.Sm.of _ (by kernel_rfl)) (by kernel_rfl);have s5:=vz3 (Γ:=Γ) (wzr (xnum 2)) 9 9 (Ex.Sm.of _ (by kernel_rfl)) (by decide) (by decide) (by decide) (by kernel_rfl);have n1:=cCan (Γ:=Γ) (xop 12 xa xb) true true (Ex.Sm.of _ (by kernel_rfl)) (by kernel_rfl);have n2:=cCan (Γ:=Γ) (xop 12 xa (xnum 4)) true false (Ex.Sm.of _ (by kernel_rfl)) (by kernel_rfl);have n3:=cCan (Γ:=Γ) (xop 13 xb (xnum 2)) true false (Ex.Sm.of _ (by kernel_rfl)) (by kernel_rfl);have n4:=cCan (Γ:=Γ) (xop 13 xa xb) true true (Ex.Sm.of _ (by kernel_rfl)) (by kernel_rfl);have s6:=vz3 (Γ:=Γ) (xif (xop 12 xa xb) xa (xnum 10)) 1 10 (Ex.Sm.of _ (by kernel_rfl)) (by decide) (by decide) (by decide) (by kernel_rfl);have s7:=vz3 (Γ:=Γ) (xif (xop 12 xa (xnum 4)) xa (xop 9 (xnum 1) xm)) 1 3 (Ex.Sm.of _ (by kernel_rfl)) (by decide) (by decide) (by decide) (by kernel_rfl);have n5:=cCan (Γ:=Γ) (xnot (xop 12 xa xm)) true false (Ex.Sm.of _ (by kernel_rfl)) (by kernel_rfl);rw [show exC (xnot (xop 12 xa xm))=[cI 4,cI 0,cS ⟨⟨[]⟩⟩,cS ⟨⟨[]⟩⟩,.sl 5 [(xop 12 xa xm).cells]] from rfl,Ex.vle] at n5;have n6:=cCan (Γ:=Γ) (xop 15 (xop 12 xa xb) (xop 13 xb (xnum 2))) true false (Ex.Sm.of _ (by kernel_rfl)) (by kernel_rfl);refine CallsD.run [] Go.Proofs.Tryz.func9 rfl rfl rfl ?_;simp only [Go.Proofs.Tryz.f9];refine hgR ?_
 repeat' ((first | refine hfk ?_ ?_<;>intros | refine hik ?_ | with_reducible first | refine v6l (a1) ?_ | refine vgi (a1) ?_ | refine v6l (a2) ?_ | refine vgi (a2) ?_ | refine v6l (a3) ?_ | refine vgi (a3) ?_ | refine v6l (q1) ?_ | refine vgi (q1) ?_ | refine v6l (q2) ?_ | refine vgi (q2) ?_ | refine v6l (q3) ?_ | refine vgi (q3) ?_ | refine v6l (w4k) ?_ | refine vgi (w4k) ?_ | refine v6l (yst _) ?_ | refine vgi (yst _) ?_ | refine v6l (v9q _ _ _) ?_ | refine vgi (v9q _ _ _) ?_ | refine v6l (yku _) ?_ | refine vgi (yku _) ?_ | refine v6l (zrl _ _ _) ?_ | refine vgi (zrl _ _ _) ?_ | refine v6l (zz1) ?_ | refine vgi (zz1) ?_ | refine v6l (zec) ?_ | refine vgi (zec) ?_ | refine v6l (s1) ?_ | refine vgi (s1) ?_ | refine v6l (s2) ?_ | refine vgi (s2) ?_ | refine v6l (s3) ?_ | refine vgi (s3) ?_ | refine v6l (f1) ?_ | refine vgi (f1) ?_ | refine v6l (s4) ?_ | refine vgi (s4) ?_ | refine v6l (f2) ?_ | refine vgi (f2) ?_ | refine v6l (s5) ?_ | refine vgi (s5) ?_ | refine v6l (n1) ?_ | refine vgi (n1) ?_ | refine v6l (n2) ?_ | refine vgi (n2) ?_ | refine v6l (n3) ?_ | refine vgi (n3) ?_ | refine v6l (n4) ?_ | refine vgi (n4) ?_ | refine v6l (s6) ?_ | refine vgi (s6) ?_ | refine v6l (s7) ?_ | refine vgi (s7) ?_ | refine v6l (n5) ?_ | refine vgi (n5) ?_ | refine v6l (n6) ?_ | refine vgi (n6) ?_)<;>refine hgS ?_)
 all_goals exact RLe.ofEq rfl
end Go.Hp.T
namespace Go.Hp.T
open Go Go.RowKit Go.Slot Go.Hp Go.Slot.T
open Go.Proofs.Tryz (prog)
set_option maxRecDepth 10000
set_option maxHeartbeats 4000000
variable {Γ:List (Nat×List Cell)}
theorem xf4 {p:Nat->Prop} {i:Nat} (h:∀ j,j<i->p j) (hi:p i):∀ j,j<i+1->p j:=fun j hj=>by
 rcases Nat.lt_or_eq_of_le (Nat.le_of_lt_succ hj) with h2 | h2
 . exact h j h2
 . rw [h2];exact hi
end Go.Hp.T
