/- The proof, part Y38: Gf, Da, Qpa, Qpb, Qpc, Qpd, Qpe, Qpf, Qpg, Qph, Qpi, Qpj, Qpk, Qpl, Qpm, Dc, Xc, Xg, Xe, Un, Xf, Dd, Qe, Qf, Qh, De, Qk. -/
import Derived.Test.YtmegdbbbllffkaaGreatDoorY37
import Derived.Test.YtmegdbbbllffkaaGreatDoorY36
import Derived.Test.YtmegdbbbllffkaaGreatDoorY27
import Derived.Test.YtmegdbbbllffkaaGreatDoorY35
import Derived.Test.YtmegdbbbllffkaaGreatDoorY33
namespace Go.Hp.T
open Go Go.RowKit Go.Slot Go.Hp Go.Slot.T
open Go.Proofs.Tryz (prog)
set_option maxRecDepth 10000
set_option maxHeartbeats 4000000
variable {Γ:List (Nat×List Cell)}
theorem vxv (f:FuncId) (l:List SV):vxd (.clo f l)=l.flatMap w40:=rfl
attribute [go_sem] vxv
theorem vvu (V:Vq) (T:Vt) (a c d:SB) (b:Bool):StH Γ [] [SV.tup [.agg [.mp 1,.mp 2],.one (.dat (cB b))]] [a,mQ V,mB T,c,d] [SV.tup [.agg [.mp 0,.mp 1],.one (.dat (cB b))]] [mQ V,mB T]:=by
 have e1:swL 0 1 [a,mQ V,mB T,c,d]=[mQ V,swSB 0 1 a,mB T,swSB 0 1 c,swSB 0 1 d]:=by
  show [swSB 0 1 (mQ V),swSB 0 1 a,swSB 0 1 (mB T),swSB 0 1 c,swSB 0 1 d]=_;rw [w7u,wzy]
 have e2:swL 1 2 [mQ V,swSB 0 1 a,mB T,swSB 0 1 c,swSB 0 1 d]=[mQ V,mB T,swSB 1 2 (swSB 0 1 a),swSB 1 2 (swSB 0 1 c),swSB 1 2 (swSB 0 1 d)]:=by
  show [swSB 1 2 (mQ V),swSB 1 2 (mB T),swSB 1 2 (swSB 0 1 a),swSB 1 2 (swSB 0 1 c),swSB 1 2 (swSB 0 1 d)]=_;rw [w7u,wzy]
 have h1:=StH.zia (Γ:=Γ) (e:=[]) (σ:=[SV.tup [.agg [.mp 1,.mp 2],.one (.dat (cB b))]]) (η:=[a,mQ V,mB T,c,d]) (i:=0) (j:=1) (by decide) (by decide) (by simp) (by simp);have h2:=StH.zia (Γ:=Γ) (e:=[]) (σ:=[SV.tup [.agg [.mp 0,.mp 2],.one (.dat (cB b))]]) (η:=[mQ V,swSB 0 1 a,mB T,swSB 0 1 c,swSB 0 1 d]) (i:=1) (j:=2) (by decide) (by decide) (by simp) (by simp)
 have h3:=StH.cutB (Γ:=Γ) (e:=[]) (σ:=[SV.tup [.agg [.mp 0,.mp 1],.one (.dat (cB b))]]) (η:=[mQ V,mB T,swSB 1 2 (swSB 0 1 a),swSB 1 2 (swSB 0 1 c),swSB 1 2 (swSB 0 1 d)]) 2 (by decide) (by
  unfold wiw;show (_&&([mQ V,mB T].all fun x=>(vxd x).all fun b=>Nat.blt b 2))=true
  simp only [List.all_cons,x8c,xll,List.all_nil];rfl)
 rw [e1] at h1;rw [e2] at h2;exact h1.trans (h2.trans h3)
def entB:Option (Vq×Vt)->List SB
 | none=>[]
 | some p=>[mQ p.1,mB p.2]
def entR:Option (Vq×Vt)->SV
 | none=>.tup [.agg [.any,.any],.one (.dat (cB false))]
 | some _=>.tup [.agg [.mp 0,.mp 1],.one (.dat (cB true))]
theorem xe6 (bs:List Bd) (ms:List Tb) (hb:bs.length<=1073741824) (hm:ms.length<=1073741824) (hbs:∀ b∈bs,b.name.size<=1073741824/\b.v.sz<=268435456) (hms:∀ t∈ms,t.Sm) :
 zq1 Γ prog 33 [] [.one (.dat (.sl 5 (bs.map Bd.C))),.one (.dat (.sl 3 (ms.map Tb.C)))] (entB (entF bs ms)) (entR (entF bs ms)):=by
 refine zq1.run [(2,[.clo])] Go.Proofs.Tryz.func33 rfl rfl ?_;simp only [Go.Proofs.Tryz.f33];refine hgR ?_;refine y31 [0,1,4,6,7,16,17] (fun p:Nat×Vq=>[(18,.one (.dat (cI p.1)))]) (fun p=>[.box [.dat (.raw (.map none)),.dat (.raw (.map none))] (some 79),mQ p.2,mB [],scB,.clo 64 [.one (.ptr 3 0)]])
  (fun p=>p.1<=bs.length/\rB [] bs=rB p.2 (bs.drop p.1)) (fun p=>bs.length-p.1) (0,[]) ⟨Nat.zero_le _,rfl⟩ ?_ ?_
 . refine hg ?_;exact StH.same svl rfl
 rintro ⟨i,V⟩ ⟨h1,h2⟩;simp only at h1 h2;refine hg ?_;refine zkv (fun hlt _=>?_) (fun hlt _=>?_)
 . have hlt':i<bs.length:=by omega
   have hy:=hbs _ (zkt hlt');rw [y6x hlt'] at h2
   have hbad:rB [] bs=none->entF bs ms=none:=fun h=>by unfold entF entG;rw [show gE Bd.name (fun b=>decide b.v.ok) (fun b=>b.v.val) (fun _=>false) [] bs=none from h]
   refine hg ?_;refine wkh (xq5 V [] (bs.getD i default).name hy.1 _ _ _) ?_
   have h2':rB [] bs=bif ((y4u V (bs.getD i default).name).isSome||(y4u ([]:Vt) (bs.getD i default).name).isSome||!isName (bs.getD i default).name||isWord (bs.getD i default).name)||!decide (bs.getD i default).v.ok then none else rB (updF V (bs.getD i default).name (bs.getD i default).v.val) (bs.drop (i+1)):=h2
   clear h2;generalize ((y4u V (bs.getD i default).name).isSome||(y4u ([]:Vt) (bs.getD i default).name).isSome||!isName (bs.getD i default).name||isWord (bs.getD i default).name)=X at *;generalize bs.getD i default=b at *;obtain ⟨nm,v⟩:=b;simp only at hy h2';by_cases hok:v.ok
   . obtain ⟨q,rfl⟩:=yhl hok;have hr:CallsD Γ prog 26 [.agg (qC (some q))] (.one (cB true)):=vz0 (some q) hy.2;rw [decide_eq_true hok,show (qF (some q)).val=q from Fc.wel q] at h2';clear hok
     cases X with
     | true=>
      rw [hbad h2'];refine hg ?_
      repeat' ((first | refine hfk ?_ ?_<;>intros | refine hik ?_)<;>refine hgS ?_)
      exact x2v
     | false=>
      refine hg ?_
      repeat' ((first | refine hfk ?_ ?_<;>intros | refine hik ?_ | with_reducible first | refine y5m (hr) ?_ | refine vtc (hr) ?_)<;>refine hgS ?_)
      refine ⟨(i+1,updF V nm q),⟨by dsimp only;omega,by first | exact h2' | rfl⟩,by dsimp only;omega,?_⟩;refine StH.cutN [0,1,4,6,7,16,17,18] 5 rfl ?_ ?_
      . refine hg ?_;exact trivial
      exact StH.same svl rfl
   . have hr:CallsD Γ prog 26 [.agg [.raw (.int .i64 v.s),.ints .i64 v.L,.raw (.int .i64 v.t),.ints .i64 v.M]] (.one (cB false)):=by
      have:=x8k (Γ:=Γ) v hy.2
      rw [decide_eq_false hok] at this;exact this
     rw [hbad (by rw [h2',decide_eq_false hok];cases X<;>rfl)];clear hbad h2' hok
     cases X with
     | true=>
      refine hg ?_
      repeat' ((first | refine hfk ?_ ?_<;>intros | refine hik ?_)<;>refine hgS ?_)
      exact x2v
     | false=>
      refine hg ?_
      repeat' ((first | refine hfk ?_ ?_<;>intros | refine hik ?_ | with_reducible first | refine y5m (hr) ?_ | refine vtc (hr) ?_)<;>refine hgS ?_)
      exact x2v
 . have hV:rB [] bs=some V:=by rw [h2,List.drop_eq_nil_of_le (by omega)];rfl
   clear h2 h1 hlt hbs
   have hbad:rTb V [] ms=none->entF bs ms=none:=fun h=>by
    unfold entF entG;rw [show gE Bd.name (fun b=>decide b.v.ok) (fun b=>b.v.val) (fun _=>false) [] bs=some V from hV];show Option.map _ (rTb V [] ms)=none;rw [h];rfl
   have hgood:∀ T,rTb V [] ms=some T->entF bs ms=some (V,T):=fun T h=>by
    unfold entF entG;rw [show gE Bd.name (fun b=>decide b.v.ok) (fun b=>b.v.val) (fun _=>false) [] bs=some V from hV];show Option.map _ (rTb V [] ms)=_;rw [h];rfl
   clear hV;refine hg ?_;refine y31 [4,6,7,41,42] (fun p:Nat×Vt=>[(43,.one (.dat (cI p.1)))]) (fun p=>[.box [.dat (.raw (.map none)),.dat (.raw (.map none))] (some 79),mQ V,mB p.2,scB,.clo 64 [.one (.ptr 3 0)]])
    (fun p=>p.1<=ms.length/\rTb V [] ms=rTb V p.2 (ms.drop p.1)) (fun p=>ms.length-p.1) (0,[]) ⟨Nat.zero_le _,rfl⟩ ?_ ?_
   . refine hg ?_;exact StH.same svl rfl
   rintro ⟨j,T⟩ ⟨h1,h2⟩;simp only at h1 h2;refine hg ?_;refine zkv (fun hlt _=>?_) (fun hlt _=>?_)
   . have hlt':j<ms.length:=by omega
     have hy:=hms _ (zkt hlt');rw [y6x hlt'] at h2;have hr:=x3t (Γ:=Γ) _ hy.n hy.u hy.r;refine hg ?_;refine wkh (xq5 V T (ms.getD j default).name hy.n _ _ _) ?_
     have h3:rTb V [] ms=bif ((y4u T (ms.getD j default).name).isSome||(y4u V (ms.getD j default).name).isSome||!isName (ms.getD j default).name||isWord (ms.getD j default).name)||!wlo (fun s=>(wrt s).2) (ms.getD j default) then none else rTb V (updF T (ms.getD j default).name (ms.getD j default)) (ms.drop (j+1)):=h2
     have h2':rTb V [] ms=bif ((y4u V (ms.getD j default).name).isSome||(y4u T (ms.getD j default).name).isSome||!isName (ms.getD j default).name||isWord (ms.getD j default).name)||!wlo (fun s=>(wrt s).2) (ms.getD j default) then none else rTb V (updF T (ms.getD j default).name (ms.getD j default)) (ms.drop (j+1)):=by
      rw [h3,Bool.or_comm (y4u T (ms.getD j default).name).isSome]
     clear h3;clear h2 hy;generalize ((y4u V (ms.getD j default).name).isSome||(y4u T (ms.getD j default).name).isSome||!isName (ms.getD j default).name||isWord (ms.getD j default).name)=X at *;generalize wlo (fun s=>(wrt s).2) (ms.getD j default)=Y at *
     cases X with
     | true=>
      rw [hbad h2'];refine hg ?_
      repeat' ((first | refine hfk ?_ ?_<;>intros | refine hik ?_)<;>refine hgS ?_)
      exact x2v
     | false=>cases Y with
      | false=>
       rw [hbad h2'];refine hg ?_
       repeat' ((first | refine hfk ?_ ?_<;>intros | refine hik ?_ | with_reducible first | refine y5m (hr) ?_ | refine vtc (hr) ?_)<;>refine hgS ?_)
       exact x2v
      | true=>
       refine hg ?_
       repeat' ((first | refine hfk ?_ ?_<;>intros | refine hik ?_ | with_reducible first | refine y5m (hr) ?_ | refine vtc (hr) ?_)<;>refine hgS ?_)
       refine ⟨(j+1,updF T (ms.getD j default).name (ms.getD j default)),⟨by dsimp only;omega,by first | exact h2' | rfl⟩,by dsimp only;omega,?_⟩;refine StH.cutN [4,6,7,41,42,43] 5 rfl ?_ ?_
       . refine hg ?_;exact trivial
       exact StH.same svl rfl
   . have hT:rTb V [] ms=some T:=by rw [h2,List.drop_eq_nil_of_le (by omega)];rfl
     rw [hgood T hT];clear h2 h1 hlt hbad hgood hT;refine hg ?_;exact vvu V T _ _ _ true
theorem yqj (x:Ex) (bs:List Bd) (ms:List Tb) (hx:x.Sm) (hb:bs.length<=1073741824) (hm:ms.length<=1073741824) (hbs:∀ b∈bs,b.name.size<=1073741824/\b.v.sz<=330000) (hms:∀ t∈ms,t.Sm) :
 CallsD Γ prog 11 [.agg (exC x),.one (.sl 5 (bs.map Bd.C)),.one (.sl 3 (ms.map Tb.C))] (rsR (valF x bs ms)):=by
 have hr:=xe6 (Γ:=Γ) bs ms hb hm (fun b h=>⟨(hbs b h).1,Nat.le_trans (hbs b h).2 (by decide)⟩) hms;have c1:=y1b (Γ:=Γ) x hx;have c2:=x1g (Γ:=Γ) x hx
 cases hr1:vsf x with
 | false=>
  rw [hr1] at c1;rw [show valF x bs ms=(⟨false,false,none⟩,2) by unfold valF;rw [hr1];rfl];refine CallsD.run [] Go.Proofs.Tryz.func11 rfl rfl rfl ?_;simp only [Go.Proofs.Tryz.f11];refine hgR ?_
  repeat' ((first | refine hfk ?_ ?_<;>intros | refine hik ?_ | with_reducible first | refine y5m (c1) ?_ | refine vtc (c1) ?_)<;>refine hgS ?_)
  exact rsEq rfl
 | true=>cases hc1:x.wqc with
  | true=>
   rw [hr1] at c1;rw [hc1] at c2;rw [show valF x bs ms=(⟨false,false,none⟩,2) by unfold valF;rw [hr1,hc1];rfl];refine CallsD.run [] Go.Proofs.Tryz.func11 rfl rfl rfl ?_;simp only [Go.Proofs.Tryz.f11];refine hgR ?_
   repeat' ((first | refine hfk ?_ ?_<;>intros | refine hik ?_ | with_reducible first | refine y5m (c1) ?_ | refine vtc (c1) ?_ | refine y5m (c2) ?_ | refine vtc (c2) ?_)<;>refine hgS ?_)
   exact rsEq rfl
  | false=>
   rw [hr1] at c1;rw [hc1] at c2
   have hsh:x.shaped=true:=by unfold vsf at hr1;rw [Bool.and_eq_true] at hr1;exact hr1.2
   cases hrd:entF bs ms with
   | none=>
    rw [hrd] at hr;rw [show valF x bs ms=(⟨false,false,none⟩,1) by unfold valF;rw [hr1,hc1,hrd];rfl]
    have hr2:∀ a b:SB,zq1 Γ prog 33 [a,b] [.one (.dat (.sl 5 (bs.map Bd.C))),.one (.dat (.sl 3 (ms.map Tb.C)))] [a,b] (.tup [.agg [.any,.any],.one (.dat (cB false))]):=fun a b=>zq1.at [] (η:=[a,b]) hr (by decide) rfl rfl rfl
    refine CallsD.run [] Go.Proofs.Tryz.func11 rfl rfl rfl ?_;simp only [Go.Proofs.Tryz.f11];refine hgR ?_
    repeat' ((first | refine hfk ?_ ?_<;>intros | refine hik ?_ | with_reducible first | refine y5m (c1) ?_ | refine vtc (c1) ?_ | refine y5m (c2) ?_ | refine vtc (c2) ?_)<;>refine hgS ?_)
    refine wfk (hr2 _ _) rfl ?_;refine hg ?_
    repeat' ((first | refine hfk ?_ ?_<;>intros | refine hik ?_)<;>refine hgS ?_)
    exact rsEq rfl
   | some p=>
    obtain ⟨V,T⟩:=p;rw [hrd] at hr;rw [show valF x bs ms=x.cal V T by unfold valF;rw [hr1,hc1,hrd];rfl]
    have hr2:∀ a b:SB,zq1 Γ prog 33 [a,b] [.one (.dat (.sl 5 (bs.map Bd.C))),.one (.dat (.sl 3 (ms.map Tb.C)))] [a,b,mQ V,mB T] (.tup [.agg [.mp 2,.mp 3],.one (.dat (cB true))]):=fun a b=>by
     have h:=zq1.at [] (η:=[a,b]) hr (by decide) rfl rfl rfl
     have e:putR [] [a,b] (entB (some (V,T)))=[a,b,mQ V,mB T]:=by
      show [a,b,rnSB _ (mQ V),rnSB _ (mB T)]=_;rw [vi7,yeu]
     rw [e] at h;exact h
    have hnd:=v52 hr1;have hB:(335000:Nat)*x.nd<=67108864:=Nat.le_trans (Nat.mul_le_mul_left _ hnd) (by decide);have hc:=zp4 (Γ:=Γ) (B:=335000) (by decide) V T (yu8 hrd (fun b h=>by have:=(hbs b h).2;omega)) (vc9 hrd hms) x hx hsh hc1 hB;refine CallsD.run [] Go.Proofs.Tryz.func11 rfl rfl rfl ?_;simp only [Go.Proofs.Tryz.f11];refine hgR ?_
    repeat' ((first | refine hfk ?_ ?_<;>intros | refine hik ?_ | with_reducible first | refine y5m (c1) ?_ | refine vtc (c1) ?_ | refine y5m (c2) ?_ | refine vtc (c2) ?_)<;>refine hgS ?_)
    refine wfk (hr2 _ _) rfl ?_;refine hg ?_;refine wkh (zq1.ro [2,3] hc (v00 V T) (by decide) rfl rfl) ?_;refine hg ?_;exact RLe.ofEq rfl
end Go.Hp.T
namespace Go.Hp.T
open Go Go.RowKit Go.Slot Go.Hp Go.Slot.T
open Go.Proofs.Tryz (prog)
set_option maxRecDepth 100000
set_option maxHeartbeats 4000000
def bs16:List Bd:=[⟨⟨#[97]⟩,qF (some ((6:Int):Rat))⟩,⟨⟨#[98]⟩,qF (some ((4000:Int):Rat))⟩,⟨⟨#[122]⟩,qF (some ((0:Int):Rat))⟩]
def ms16:List Tb:=[⟨⟨#[103,114,105,100]⟩,⟨#[103]⟩,[⟨0,5⟩,⟨10,7⟩]⟩]
theorem x18:CallsD Gs prog 60 [] (.one (.sl 5 (bs16.map Bd.C))):=by
 refine CallsD.run [] Go.Proofs.Tryz.func60 rfl rfl rfl ?_;simp only [Go.Proofs.Tryz.f60];refine hgR ?_
 repeat' ((first | refine hfk ?_ ?_<;>intros | refine hik ?_ | with_reducible first | refine y5m (pInt 6 (by decide)) ?_ | refine vtc (pInt 6 (by decide)) ?_ | refine y5m (pInt 4000 (by decide)) ?_ | refine vtc (pInt 4000 (by decide)) ?_ | refine y5m (pInt 0 (by decide)) ?_ | refine vtc (pInt 0 (by decide)) ?_)<;>refine hgS ?_)
 all_goals exact RLe.ofEq rfl
theorem x5b:CallsD Gs prog 61 [] (.one (.sl 3 (ms16.map Tb.C))):=by
 refine CallsD.run [] Go.Proofs.Tryz.func61 rfl rfl rfl ?_;simp only [Go.Proofs.Tryz.f61];refine hgR ?_
 repeat' ((first | refine hfk ?_ ?_<;>intros | refine hik ?_)<;>refine hgS ?_)
 all_goals exact RLe.ofEq rfl
theorem wmc:∀ b∈bs16,b.name.size<=1073741824/\b.v.sz<=4:=by
 intro b hb
 have hb':b=⟨⟨#[97]⟩,qF (some ((6:Int):Rat))⟩\/b=⟨⟨#[98]⟩,qF (some ((4000:Int):Rat))⟩\/b=⟨⟨#[122]⟩,qF (some ((0:Int):Rat))⟩:=by simpa [bs16] using hb
 rcases hb' with rfl | rfl | rfl
 . exact ⟨by decide,wkd (by decide)⟩
 . exact ⟨by decide,wkd (by decide)⟩
 . exact ⟨by decide,wkd (by decide)⟩
theorem cV16 (x:Ex) (hx:x.Sm):CallsD Gs prog 11 [.agg (exC x),.one (.sl 5 (bs16.map Bd.C)),.one (.sl 3 (ms16.map Tb.C))] (rsR (valF x bs16 ms16)):=
 yqj x bs16 ms16 hx (by decide) (by decide) (fun b hb=>⟨(wmc b hb).1,by have:=(wmc b hb).2;omega⟩) (fun t ht=>by
  cases List.mem_singleton.1 ht
  exact ⟨by decide,by decide,by decide⟩)
theorem qz16 (x:Ex):qz (valF x bs16 ms16).1.v<=67108864:=Nat.le_trans (v3a (B:=4300) (Nat.le_refl _) (fun b hb=>by have:=(wmc b hb).2;omega)) (by decide)
theorem CallsD.v9k {Γ:List (Nat×List Cell)} {P:Program} {f:FuncId} {args args':List AV} {res:AV} (h:CallsD Γ P f args' res) (hle:LeS args args'):CallsD Γ P f args res:=⟨h.1,fun M w vs hM hg hr=>h.2 M w vs hM hg (RdBL.le hle hr)⟩
theorem ym8 {Γ:List (Nat×List Cell)} (a:Rs) (ha:qz a.v<=67108864):CallsD Γ prog 13 [.agg (rsC a),.agg (rsZ false false)] (.one (cB (decide (a=Rs.zero)))):=
 CallsD.v9k (z2o a Rs.zero ha (by decide)) (.cons (.refl _) (.cons rsLe .nil))
theorem z3d (s:ByteArray) (x:Ex) (hp:CallsD Gs prog 59 [.one (cS s)] (parR x)) (hx:x.Sm):CallsD Gs prog 28 [.one (cS s)] (rsR (valF x bs16 ms16)):=by
 have h1:=cV16 x hx;generalize valF x bs16 ms16=r at h1 ⊢;refine CallsD.run [] Go.Proofs.Tryz.func28 rfl rfl rfl ?_;simp only [Go.Proofs.Tryz.f28];refine hgR ?_
 repeat' ((first | refine hfk ?_ ?_<;>intros | refine hik ?_ | with_reducible first | refine y5m (hp) ?_ | refine vtc (hp) ?_ | refine y5m (x18) ?_ | refine vtc (x18) ?_ | refine y5m (x5b) ?_ | refine vtc (x5b) ?_ | refine y5m (h1) ?_ | refine vtc (h1) ?_)<;>refine hgS ?_)
 all_goals (refine RLe.ofEq ?_;conv=>simp only [Bool.and_true,Bool.true_and,Bool.and_false,Bool.false_and,Bool.or_true,Bool.true_or,Bool.or_false,Bool.false_or,Bool.not_true,Bool.not_false,decide_true,decide_false,not_true_eq_false,not_false_eq_true,x9k,if_true,if_false,Bool.and_self,Bool.or_self,cond_true,cond_false,List.length_map,ne_eq,Int.reduceEq,Int.reduceLT,Int.reduceLE, *]);first | exact trivial | rfl
theorem w3x (s:ByteArray) (x:Ex) (p q:Int) (hq:0<q) (hi:inI p) (hj:inI q) (hp:CallsD Gs prog 59 [.one (cS s)] (parR x)) (hx:x.Sm) (e:valF x bs16 ms16=(⟨false,false,some (Rat.divInt p q)⟩,0)):CallsD Gs prog 29 [.one (cS s),.one (cI p),.one (cI q)] (.one (cB true)):=by
 have h1:=z3d s x hp hx;have h3:=qz16 x;rw [e] at h1 h3;obtain ⟨n,rfl⟩:∃ n:Nat,q=n:=⟨q.toNat,by omega⟩;have h2:=s5Of (Γ:=Gs) p n hi hj (by omega);have h4:=z2o (Γ:=Gs) ⟨false,false,some (Rat.divInt p n)⟩ ⟨false,false,some (Rat.divInt p n)⟩ h3 h3;rw [decide_eq_true rfl] at h4;have h2:CallsD Gs prog 45 [.one (cI p),.one (cI n)] (.tup [.agg (qC (some (Rat.divInt p n))),.one (cI 0)]):=h2;refine CallsD.run [] Go.Proofs.Tryz.func29 rfl rfl rfl ?_;simp only [Go.Proofs.Tryz.f29];refine hgR ?_
 repeat' ((first | refine hfk ?_ ?_<;>intros | refine hik ?_ | with_reducible first | refine y5m (h1) ?_ | refine vtc (h1) ?_ | refine y5m (h2) ?_ | refine vtc (h2) ?_ | refine y5m (h4) ?_ | refine vtc (h4) ?_)<;>refine hgS ?_)
 all_goals (refine RLe.ofEq ?_;conv=>simp only [Bool.and_true,Bool.true_and,Bool.and_false,Bool.false_and,Bool.or_true,Bool.true_or,Bool.or_false,Bool.false_or,Bool.not_true,Bool.not_false,decide_true,decide_false,not_true_eq_false,not_false_eq_true,x9k,if_true,if_false,Bool.and_self,Bool.or_self,cond_true,cond_false,List.length_map,ne_eq,Int.reduceEq,Int.reduceLT,Int.reduceLE, *]);first | exact trivial | rfl
theorem xa4 (s:ByteArray) (x:Ex) (n:Int) (hp:CallsD Gs prog 59 [.one (cS s)] (parR x)) (hx:x.Sm) (e:valF x bs16 ms16=(Rs.zero,n)):CallsD Gs prog 30 [.one (cS s),.one (cI n)] (.one (cB true)):=by
 have h1:=z3d s x hp hx;rw [e] at h1;have h4:=ym8 (Γ:=Gs) Rs.zero (by decide);rw [decide_eq_true rfl] at h4;refine CallsD.run [] Go.Proofs.Tryz.func30 rfl rfl rfl ?_;simp only [Go.Proofs.Tryz.f30];refine hgR ?_
 repeat' ((first | refine hfk ?_ ?_<;>intros | refine hik ?_ | with_reducible first | refine y5m (h1) ?_ | refine vtc (h1) ?_ | refine y5m (h4) ?_ | refine vtc (h4) ?_)<;>refine hgS ?_)
 all_goals first
  | (exfalso;omega)
  | (refine RLe.ofEq ?_;conv=>simp only [Bool.and_true,Bool.true_and,Bool.and_false,Bool.false_and,Bool.or_true,Bool.true_or,Bool.or_false,Bool.false_or,Bool.not_true,Bool.not_false,decide_true,decide_false,not_true_eq_false,not_false_eq_true,x9k,if_true,if_false,Bool.and_self,Bool.or_self,cond_true,cond_false,List.length_map,ne_eq,Int.reduceEq,Int.reduceLT,Int.reduceLE, *]);first | exact trivial | rfl
end Go.Hp.T
namespace Go.Hp.T
open Go Go.RowKit Go.Slot Go.Hp
open Go.Proofs.Tryz (prog)
set_option maxRecDepth 100000
theorem par0:CallsD Gs prog 59 [xol sx0] (parR ex0):=
 CallsD.uzE 5 (cs:=[(.raw (.int .i64 12)),(.raw (.int .i64 0)),(.raw (.string ⟨⟨[]⟩⟩)),(.raw (.string ⟨⟨[]⟩⟩)),(.sl 5 [[(.raw (.int .i64 1)),(.raw (.int .i64 0)),(.raw (.string ⟨⟨[]⟩⟩)),(.raw (.string ⟨⟨[98]⟩⟩)),.zc],[(.raw (.int .i64 0)),(.raw (.int .i64 5)),(.raw (.string ⟨⟨[107,103]⟩⟩)),(.raw (.string ⟨⟨[]⟩⟩)),.zc]])]) (CallsD.fv (N:=1000) (n:=60) OkD.none (by kernel_rfl)) (by kernel_rfl)
theorem par1:CallsD Gs prog 59 [xol sx1] (parR ex1):=
 CallsD.uzE 5 (cs:=[(.raw (.int .i64 6)),(.raw (.int .i64 0)),(.raw (.string ⟨⟨[]⟩⟩)),(.raw (.string ⟨⟨[]⟩⟩)),(.sl 5 [[(.raw (.int .i64 1)),(.raw (.int .i64 0)),(.raw (.string ⟨⟨[]⟩⟩)),(.raw (.string ⟨⟨[97]⟩⟩)),.zc],[(.raw (.int .i64 0)),(.raw (.int .i64 2)),(.raw (.string ⟨⟨[]⟩⟩)),(.raw (.string ⟨⟨[]⟩⟩)),.zc]])]) (CallsD.fv (N:=1000) (n:=60) OkD.none (by kernel_rfl)) (by kernel_rfl)
theorem par2:CallsD Gs prog 59 [xol sx2] (parR ex2):=
 CallsD.uzE 5 (cs:=[(.raw (.int .i64 9)),(.raw (.int .i64 0)),(.raw (.string ⟨⟨[]⟩⟩)),(.raw (.string ⟨⟨[]⟩⟩)),(.sl 5 [[(.raw (.int .i64 7)),(.raw (.int .i64 0)),(.raw (.string ⟨⟨[]⟩⟩)),(.raw (.string ⟨⟨[]⟩⟩)),(.sl 5 [[(.raw (.int .i64 1)),(.raw (.int .i64 0)),(.raw (.string ⟨⟨[]⟩⟩)),(.raw (.string ⟨⟨[97]⟩⟩)),.zc],[(.raw (.int .i64 1)),(.raw (.int .i64 0)),(.raw (.string ⟨⟨[]⟩⟩)),(.raw (.string ⟨⟨[122]⟩⟩)),.zc]])],[(.raw (.int .i64 0)),(.raw (.int .i64 4)),(.raw (.string ⟨⟨[]⟩⟩)),(.raw (.string ⟨⟨[]⟩⟩)),.zc]])]) (CallsD.fv (N:=1000) (n:=60) OkD.none (by kernel_rfl)) (by kernel_rfl)
theorem par3:CallsD Gs prog 59 [xol sx3] (parR ex3):=
 CallsD.uzE 5 (cs:=[(.raw (.int .i64 2)),(.raw (.int .i64 0)),(.raw (.string ⟨⟨[]⟩⟩)),(.raw (.string ⟨⟨[103,114,105,100]⟩⟩)),(.sl 5 [[(.raw (.int .i64 1)),(.raw (.int .i64 0)),(.raw (.string ⟨⟨[]⟩⟩)),(.raw (.string ⟨⟨[97]⟩⟩)),.zc]])]) (CallsD.fv (N:=1000) (n:=60) OkD.none (by kernel_rfl)) (by kernel_rfl)
theorem par4:CallsD Gs prog 59 [xol sx4] (parR ex4):=
 CallsD.uzE 5 (cs:=[(.raw (.int .i64 2)),(.raw (.int .i64 0)),(.raw (.string ⟨⟨[]⟩⟩)),(.raw (.string ⟨⟨[103,114,105,100]⟩⟩)),(.sl 5 [[(.raw (.int .i64 7)),(.raw (.int .i64 0)),(.raw (.string ⟨⟨[]⟩⟩)),(.raw (.string ⟨⟨[]⟩⟩)),(.sl 5 [[(.raw (.int .i64 0)),(.raw (.int .i64 0)),(.raw (.string ⟨⟨[]⟩⟩)),(.raw (.string ⟨⟨[]⟩⟩)),.zc],[(.raw (.int .i64 1)),(.raw (.int .i64 0)),(.raw (.string ⟨⟨[]⟩⟩)),(.raw (.string ⟨⟨[97]⟩⟩)),.zc]])]])]) (CallsD.fv (N:=1000) (n:=60) OkD.none (by kernel_rfl)) (by kernel_rfl)
theorem par5:CallsD Gs prog 59 [xol sx5] (parR ex5):=
 CallsD.uzE 5 (cs:=[(.raw (.int .i64 9)),(.raw (.int .i64 0)),(.raw (.string ⟨⟨[]⟩⟩)),(.raw (.string ⟨⟨[]⟩⟩)),(.sl 5 [[(.raw (.int .i64 1)),(.raw (.int .i64 0)),(.raw (.string ⟨⟨[]⟩⟩)),(.raw (.string ⟨⟨[97]⟩⟩)),.zc],[(.raw (.int .i64 1)),(.raw (.int .i64 0)),(.raw (.string ⟨⟨[]⟩⟩)),(.raw (.string ⟨⟨[122]⟩⟩)),.zc]])]) (CallsD.fv (N:=1000) (n:=60) OkD.none (by kernel_rfl)) (by kernel_rfl)
theorem par6:CallsD Gs prog 59 [xol sx6] (parR ex6):=
 CallsD.uzE 5 (cs:=[(.raw (.int .i64 5)),(.raw (.int .i64 0)),(.raw (.string ⟨⟨[]⟩⟩)),(.raw (.string ⟨⟨[]⟩⟩)),(.sl 5 [[(.raw (.int .i64 13)),(.raw (.int .i64 0)),(.raw (.string ⟨⟨[]⟩⟩)),(.raw (.string ⟨⟨[]⟩⟩)),(.sl 5 [[(.raw (.int .i64 1)),(.raw (.int .i64 0)),(.raw (.string ⟨⟨[]⟩⟩)),(.raw (.string ⟨⟨[122]⟩⟩)),.zc],[(.raw (.int .i64 0)),(.raw (.int .i64 0)),(.raw (.string ⟨⟨[]⟩⟩)),(.raw (.string ⟨⟨[]⟩⟩)),.zc]])],[(.raw (.int .i64 1)),(.raw (.int .i64 0)),(.raw (.string ⟨⟨[]⟩⟩)),(.raw (.string ⟨⟨[97]⟩⟩)),.zc],[(.raw (.int .i64 9)),(.raw (.int .i64 0)),(.raw (.string ⟨⟨[]⟩⟩)),(.raw (.string ⟨⟨[]⟩⟩)),(.sl 5 [[(.raw (.int .i64 1)),(.raw (.int .i64 0)),(.raw (.string ⟨⟨[]⟩⟩)),(.raw (.string ⟨⟨[97]⟩⟩)),.zc],[(.raw (.int .i64 1)),(.raw (.int .i64 0)),(.raw (.string ⟨⟨[]⟩⟩)),(.raw (.string ⟨⟨[122]⟩⟩)),.zc]])]])]) (CallsD.fv (N:=1000) (n:=60) OkD.none (by kernel_rfl)) (by kernel_rfl)
theorem par7:CallsD Gs prog 59 [xol sx7] (parR ex7):=
 CallsD.uzE 5 (cs:=[(.raw (.int .i64 6)),(.raw (.int .i64 0)),(.raw (.string ⟨⟨[]⟩⟩)),(.raw (.string ⟨⟨[]⟩⟩)),(.sl 5 [[(.raw (.int .i64 9)),(.raw (.int .i64 0)),(.raw (.string ⟨⟨[]⟩⟩)),(.raw (.string ⟨⟨[]⟩⟩)),(.sl 5 [[(.raw (.int .i64 0)),(.raw (.int .i64 1)),(.raw (.string ⟨⟨[]⟩⟩)),(.raw (.string ⟨⟨[]⟩⟩)),.zc],[(.raw (.int .i64 1)),(.raw (.int .i64 0)),(.raw (.string ⟨⟨[]⟩⟩)),(.raw (.string ⟨⟨[122]⟩⟩)),.zc]])],[(.raw (.int .i64 14)),(.raw (.int .i64 0)),(.raw (.string ⟨⟨[]⟩⟩)),(.raw (.string ⟨⟨[]⟩⟩)),(.sl 5 [[(.raw (.int .i64 1)),(.raw (.int .i64 0)),(.raw (.string ⟨⟨[]⟩⟩)),(.raw (.string ⟨⟨[97]⟩⟩)),.zc],[(.raw (.int .i64 1)),(.raw (.int .i64 0)),(.raw (.string ⟨⟨[]⟩⟩)),(.raw (.string ⟨⟨[97]⟩⟩)),.zc]])]])]) (CallsD.fv (N:=1000) (n:=60) OkD.none (by kernel_rfl)) (by kernel_rfl)
theorem par8:CallsD Gs prog 59 [xol sx8] (parR ex8):=
 CallsD.uzE 5 (cs:=[(.raw (.int .i64 6)),(.raw (.int .i64 0)),(.raw (.string ⟨⟨[]⟩⟩)),(.raw (.string ⟨⟨[]⟩⟩)),(.sl 5 [[(.raw (.int .i64 14)),(.raw (.int .i64 0)),(.raw (.string ⟨⟨[]⟩⟩)),(.raw (.string ⟨⟨[]⟩⟩)),(.sl 5 [[(.raw (.int .i64 1)),(.raw (.int .i64 0)),(.raw (.string ⟨⟨[]⟩⟩)),(.raw (.string ⟨⟨[97]⟩⟩)),.zc],[(.raw (.int .i64 1)),(.raw (.int .i64 0)),(.raw (.string ⟨⟨[]⟩⟩)),(.raw (.string ⟨⟨[97]⟩⟩)),.zc]])],[(.raw (.int .i64 9)),(.raw (.int .i64 0)),(.raw (.string ⟨⟨[]⟩⟩)),(.raw (.string ⟨⟨[]⟩⟩)),(.sl 5 [[(.raw (.int .i64 0)),(.raw (.int .i64 1)),(.raw (.string ⟨⟨[]⟩⟩)),(.raw (.string ⟨⟨[]⟩⟩)),.zc],[(.raw (.int .i64 1)),(.raw (.int .i64 0)),(.raw (.string ⟨⟨[]⟩⟩)),(.raw (.string ⟨⟨[122]⟩⟩)),.zc]])]])]) (CallsD.fv (N:=1000) (n:=60) OkD.none (by kernel_rfl)) (by kernel_rfl)
theorem par9:CallsD Gs prog 59 [xol sx9] (parR ex9):=
 CallsD.uzE 5 (cs:=[(.raw (.int .i64 1)),(.raw (.int .i64 0)),(.raw (.string ⟨⟨[]⟩⟩)),(.raw (.string ⟨⟨[99]⟩⟩)),.zc]) (CallsD.fv (N:=1000) (n:=60) OkD.none (by kernel_rfl)) (by kernel_rfl)
theorem zev:CallsD Gs prog 59 [xol sx10] (parR ex10):=
 CallsD.uzE 5 (cs:=[(.raw (.int .i64 0)),(.raw (.int .i64 5)),(.raw (.string ⟨⟨[107,120]⟩⟩)),(.raw (.string ⟨⟨[]⟩⟩)),.zc]) (CallsD.fv (N:=1000) (n:=60) OkD.none (by kernel_rfl)) (by kernel_rfl)
theorem v9q:CallsD Gs prog 59 [xol sx11] (parR ex11):=
 CallsD.uzE 5 (cs:=[(.raw (.int .i64 5)),(.raw (.int .i64 0)),(.raw (.string ⟨⟨[]⟩⟩)),(.raw (.string ⟨⟨[]⟩⟩)),(.sl 5 [[(.raw (.int .i64 1)),(.raw (.int .i64 0)),(.raw (.string ⟨⟨[]⟩⟩)),(.raw (.string ⟨⟨[97]⟩⟩)),.zc],[(.raw (.int .i64 1)),(.raw (.int .i64 0)),(.raw (.string ⟨⟨[]⟩⟩)),(.raw (.string ⟨⟨[99]⟩⟩)),.zc],[(.raw (.int .i64 1)),(.raw (.int .i64 0)),(.raw (.string ⟨⟨[]⟩⟩)),(.raw (.string ⟨⟨[99]⟩⟩)),.zc]])]) (CallsD.fv (N:=1000) (n:=60) OkD.none (by kernel_rfl)) (by kernel_rfl)
theorem w66:CallsD Gs prog 59 [xol sx12] (parR ex12):=
 CallsD.uzE 5 (cs:=[(.raw (.int .i64 3)),(.raw (.int .i64 0)),(.raw (.string ⟨⟨[]⟩⟩)),(.raw (.string ⟨⟨[102]⟩⟩)),(.sl 5 [[(.raw (.int .i64 1)),(.raw (.int .i64 0)),(.raw (.string ⟨⟨[]⟩⟩)),(.raw (.string ⟨⟨[97]⟩⟩)),.zc]])]) (CallsD.fv (N:=1000) (n:=60) OkD.none (by kernel_rfl)) (by kernel_rfl)
end Go.Hp.T
namespace Go.Hp.T
open Go Go.RowKit Go.Slot Go.Hp Go.Slot.T
open Go.Proofs.Tryz (prog)
set_option maxRecDepth 100000
set_option maxHeartbeats 4000000
mutual
def Ex.smB:Ex->Bool
 | .mk _ _ u s l=>Nat.ble l.length 1073741824&&Nat.ble u.size 1073741824&&Nat.ble s.size 1073741824&&Ex.smBL l
def Ex.smBL:List Ex->Bool
 | []=>true
 | x::l=>Ex.smB x&&Ex.smBL l
end
theorem Ex.zt4:∀ l:List Ex,Ex.smBL l=l.all Ex.smB
 | []=>by rw [Ex.smBL];rfl
 | x::l=>by rw [Ex.smBL,Ex.zt4 l];rfl
theorem Ex.Sm.of:∀ x:Ex,x.smB=true->x.Sm:=by
 refine Ex.ind ?_;intro x ih h
 cases x with
 | mk o n u s l=>
  rw [Ex.smB,Ex.zt4] at h;simp only [Bool.and_eq_true,Nat.ble_eq,List.all_eq_true] at h;obtain ⟨⟨⟨h1,h2⟩,h3⟩,h4⟩:=h;exact .mk _ h1 h2 h3 (fun y hy=>ih y hy (h4 y hy))
def ze0 (a b:Rs×Int):Bool:=a.1.t==b.1.t&&a.1.i==b.1.i&&decide (a.1.v.map (·.num)=b.1.v.map (·.num))&&decide (a.1.v.map (·.den)=b.1.v.map (·.den))&&decide (a.2=b.2)
theorem zaq {a b:Rs×Int} (h:ze0 a b=true):a=b:=by
 obtain ⟨⟨t,i,v⟩,e⟩:=a;obtain ⟨⟨t',i',v'⟩,e'⟩:=b;unfold ze0 at h;simp only [Bool.and_eq_true,beq_iff_eq,decide_eq_true_eq] at h;obtain ⟨⟨⟨⟨rfl,rfl⟩,h1⟩,h2⟩,rfl⟩:=h
 have:v=v':=by
  cases v<;>cases v'<;>simp at h1 h2
  . rfl
  . rw [Rat.ext h1 h2]
 rw [this]
theorem tn0:CallsD Gs prog 28 [.one (cS ⟨⟨[98,32,60,32,53,32,34,107,103,34]⟩⟩)] (rsR (⟨true,true,none⟩,0)):=by
 have h:=z3d ⟨⟨sx0⟩⟩ ex0 par0 (Ex.Sm.of _ (by kernel_rfl));rw [show valF ex0 bs16 ms16=(⟨true,true,none⟩,0) from zaq (by kernel_rfl)] at h;exact h
theorem tn1:CallsD Gs prog 29 [.one (cS ⟨⟨[97,32,43,32,50]⟩⟩),.one (cI 8),.one (cI 1)] (.one (cB true)):=w3x ⟨⟨sx1⟩⟩ ex1 8 1 (by decide) (by decide) (by decide) par1 (Ex.Sm.of _ (by kernel_rfl)) (zaq (by kernel_rfl))
theorem tn2:CallsD Gs prog 29 [.one (cS ⟨⟨[40,97,32,45,32,122,41,32,47,32,52]⟩⟩),.one (cI 3),.one (cI 2)] (.one (cB true)):=w3x ⟨⟨sx2⟩⟩ ex2 3 2 (by decide) (by decide) (by decide) par2 (Ex.Sm.of _ (by kernel_rfl)) (zaq (by kernel_rfl))
theorem tn3:CallsD Gs prog 29 [.one (cS ⟨⟨[108,111,111,107,40,103,114,105,100,44,32,97,41]⟩⟩),.one (cI 5),.one (cI 1)] (.one (cB true)):=w3x ⟨⟨sx3⟩⟩ ex3 5 1 (by decide) (by decide) (by decide) par3 (Ex.Sm.of _ (by kernel_rfl)) (zaq (by kernel_rfl))
theorem tn4:CallsD Gs prog 30 [.one (cS ⟨⟨[108,111,111,107,40,103,114,105,100,44,32,48,32,45,32,97,41]⟩⟩),.one (cI 4)] (.one (cB true)):=xa4 ⟨⟨sx4⟩⟩ ex4 4 par4 (Ex.Sm.of _ (by kernel_rfl)) (zaq (by kernel_rfl))
theorem tn5:CallsD Gs prog 30 [.one (cS ⟨⟨[97,32,47,32,122]⟩⟩),.one (cI 15)] (.one (cB true)):=xa4 ⟨⟨sx5⟩⟩ ex5 15 par5 (Ex.Sm.of _ (by kernel_rfl)) (zaq (by kernel_rfl))
theorem tn6:CallsD Gs prog 29 [.one (cS ⟨⟨[105,102,32,40,122,32,61,32,48,41,32,116,104,101,110,32,97,32,101,108,115,101,32,40,97,32,47,32,122,41]⟩⟩),.one (cI 6),.one (cI 1)] (.one (cB true)):=w3x ⟨⟨sx6⟩⟩ ex6 6 1 (by decide) (by decide) (by decide) par6 (Ex.Sm.of _ (by kernel_rfl)) (zaq (by kernel_rfl))
theorem tn7:CallsD Gs prog 30 [.one (cS ⟨⟨[40,49,32,47,32,122,41,32,43,32,40,97,32,97,110,100,32,97,41]⟩⟩),.one (cI 15)] (.one (cB true)):=xa4 ⟨⟨sx7⟩⟩ ex7 15 par7 (Ex.Sm.of _ (by kernel_rfl)) (zaq (by kernel_rfl))
theorem tn8:CallsD Gs prog 30 [.one (cS ⟨⟨[40,97,32,97,110,100,32,97,41,32,43,32,40,49,32,47,32,122,41]⟩⟩),.one (cI 13)] (.one (cB true)):=xa4 ⟨⟨sx8⟩⟩ ex8 13 par8 (Ex.Sm.of _ (by kernel_rfl)) (zaq (by kernel_rfl))
theorem tn9:CallsD Gs prog 30 [.one (cS ⟨⟨[99]⟩⟩),.one (cI 11)] (.one (cB true)):=xa4 ⟨⟨sx9⟩⟩ ex9 11 par9 (Ex.Sm.of _ (by kernel_rfl)) (zaq (by kernel_rfl))
theorem tn10:CallsD Gs prog 30 [.one (cS ⟨⟨[53,32,34,107,120,34]⟩⟩),.one (cI 14)] (.one (cB true)):=xa4 ⟨⟨sx10⟩⟩ ex10 14 zev (Ex.Sm.of _ (by kernel_rfl)) (zaq (by kernel_rfl))
theorem tn11:CallsD Gs prog 30 [.one (cS ⟨⟨[105,102,32,97,32,116,104,101,110,32,99,32,101,108,115,101,32,99]⟩⟩),.one (cI 13)] (.one (cB true)):=xa4 ⟨⟨sx11⟩⟩ ex11 13 v9q (Ex.Sm.of _ (by kernel_rfl)) (zaq (by kernel_rfl))
theorem tn12:CallsD Gs prog 30 [.one (cS ⟨⟨[102,40,97,41]⟩⟩),.one (cI 2)] (.one (cB true)):=xa4 ⟨⟨sx12⟩⟩ ex12 2 w66 (Ex.Sm.of _ (by kernel_rfl)) (zaq (by kernel_rfl))
theorem wkt:CallsD Gs prog 9 [] (.one (cB true)):=by
 refine CallsD.run [] Go.Proofs.Tryz.func9 rfl rfl rfl ?_;simp only [Go.Proofs.Tryz.f9];refine hgR ?_
 repeat' ((first | refine hfk ?_ ?_<;>intros | refine hik ?_ | with_reducible first | refine y5m (tn0) ?_ | refine vtc (tn0) ?_ | refine y5m (tn1) ?_ | refine vtc (tn1) ?_ | refine y5m (tn2) ?_ | refine vtc (tn2) ?_ | refine y5m (tn3) ?_ | refine vtc (tn3) ?_ | refine y5m (tn4) ?_ | refine vtc (tn4) ?_ | refine y5m (tn5) ?_ | refine vtc (tn5) ?_ | refine y5m (tn6) ?_ | refine vtc (tn6) ?_ | refine y5m (tn7) ?_ | refine vtc (tn7) ?_ | refine y5m (tn8) ?_ | refine vtc (tn8) ?_ | refine y5m (tn9) ?_ | refine vtc (tn9) ?_ | refine y5m (tn10) ?_ | refine vtc (tn10) ?_ | refine y5m (tn11) ?_ | refine vtc (tn11) ?_ | refine y5m (tn12) ?_ | refine vtc (tn12) ?_)<;>refine hgS ?_)
 all_goals (refine RLe.ofEq ?_;conv=>simp only [Bool.and_true,Bool.true_and,Bool.and_false,Bool.false_and,Bool.or_true,Bool.true_or,Bool.or_false,Bool.false_or,Bool.not_true,Bool.not_false,decide_true,decide_false,not_true_eq_false,not_false_eq_true,x9k,if_true,if_false,Bool.and_self,Bool.or_self,cond_true,cond_false,List.length_map,ne_eq,Int.reduceEq,Int.reduceLT,Int.reduceLE, *]);first | exact trivial | rfl
end Go.Hp.T
namespace Go.Hp.T
open Go Go.RowKit Go.Slot Go.Hp Go.Slot.T
open Go.Proofs.Tryz (prog)
set_option maxRecDepth 10000
set_option maxHeartbeats 4000000
variable {Γ:List (Nat×List Cell)}
end Go.Hp.T
namespace Go.Hp.T
open Go Go.RowKit Go.Slot Go.Hp
set_option maxRecDepth 10000
end Go.Hp.T
namespace Go.Hp.T
open Go Go.RowKit Go.Slot Go.Hp Go.Slot.T
open Go.Proofs.Tryz (prog)
set_option maxRecDepth 10000
set_option maxHeartbeats 4000000
variable {Γ:List (Nat×List Cell)}
end Go.Hp.T
namespace Go.Hp.T
open Go Go.RowKit Go.Slot Go.Hp Go.Slot.T
open Go.Proofs.Tryz (prog)
set_option maxRecDepth 10000
set_option maxHeartbeats 4000000
structure Ar16 (x:Ex) (bs:List Bd) (ms:List Tb):Prop where
 x:x.Sm
 b:bs.length<=1048576
 m:ms.length<=1048576
 bs:∀ b∈bs,b.Sm
 ms:∀ t∈ms,t.Sm
theorem vh0 {x:Ex} {bs:List Bd} {ms:List Tb} (h:vxr x bs ms=true):(∀ b∈bs,b.v.sz<=4)/\bs.length<=12:=by
 unfold vxr at h;simp only [Bool.and_eq_true,decide_eq_true_eq] at h
 have hl:bs.length<=12:=by omega
 refine ⟨fun b hb=>?_,hl⟩
 have:=h.2.1
 rw [List.take_of_length_le (by omega),List.all_eq_true] at this
 have:=this b hb
 unfold xfb at this;simp only [Bool.and_eq_true,decide_eq_true_eq] at this;exact this.2
theorem Ar16.of {x:Ex} {bs:List Bd} {ms:List Tb} (h:Ar16 x bs ms) (hf:vxr x bs ms=true) {Γ:List (Nat×List Cell)}:CallsD Γ prog 11 [.agg (exC x),.one (.sl 5 (bs.map Bd.C)),.one (.sl 3 (ms.map Tb.C))] (rsR (valF x bs ms)):=
 yqj x bs ms h.x (by have:=h.b;omega) (by have:=h.m;omega) (fun b hb=>⟨(h.bs b hb).n,Nat.le_trans ((vh0 hf).1 b hb) (by decide)⟩) h.ms
theorem zc5 {x y:Ex} {bs:List Bd} {ms:List Tb} (hf:vxr y bs ms=true):qz (valF x bs ms).1.v<=67108864:=
 Nat.le_trans (v3a (B:=4300) (by decide) (fun b hb=>by have:=(vh0 hf).1 b hb;omega)) (by decide)
end Go.Hp.T
namespace Go.Hp.T
open Go Go.RowKit Go.Slot Go.Hp Go.Slot.T
open Go.Proofs.Tryz (prog)
set_option maxRecDepth 10000
set_option maxHeartbeats 4000000
variable {Γ:List (Nat×List Cell)}
mutual
def Ex.repl (nm:ByteArray) (y:Ex):Ex->Ex
 | .mk o n u s l=>bif decide (o=1)&&seq s nm then y else .mk o n u s (Ex.y19 nm y l)
def Ex.y19 (nm:ByteArray) (y:Ex):List Ex->List Ex
 | []=>[]
 | z::l=>Ex.repl nm y z::Ex.y19 nm y l
end
theorem Ex.z5e (nm:ByteArray) (y:Ex):∀ l:List Ex,Ex.y19 nm y l=l.map (Ex.repl nm y)
 | []=>by rw [Ex.y19];rfl
 | z::l=>by rw [Ex.y19,Ex.z5e nm y l];rfl
theorem Ex.z6l (nm:ByteArray) (y x:Ex):Ex.repl nm y x=bif decide (x.op=1)&&seq x.name nm then y else .mk x.op x.n x.unit x.name (x.args.map (Ex.repl nm y)):=by cases x;rw [Ex.repl,Ex.z5e];rfl
theorem n0:((0:Nat):Int)=0:=rfl
theorem CallsD.nil5 {f:FuncId} {args:List AV} {a b c d:Cell} (h:CallsD Γ prog f args (.agg [a,b,c,d,.raw (.slice none 0 0)])):CallsD Γ prog f args (.agg [a,b,c,d,.sl 5 []]):=
 ⟨h.1,fun M w vs hM hg hr=>(h.2 M w vs hM hg hr).mono (fun _ _ ⟨v,h1,h2,h3,h4⟩=>by
  obtain ⟨ws,hw,hrd⟩:=h3
  match ws,hrd with
  | [v1,v2,v3,v4,v5],⟨r1,r2,r3,r4,r5,r6⟩=>
   refine ⟨v,h1,h2,⟨_,hw,r1,r2,r3,r4,?_,r6⟩,fun hh=>by cases hh⟩
   cases r5
   exact RdC.zcSl 5)⟩
def rpB (nm:ByteArray) (y x:Ex):Nat->List SB
 | 0=>[.box ((exC x).map .dat) (some 24),.box ((exC y).map .dat) (some 24),.box [.dat (cI 0),.dat (cI 0),.dat (cS ⟨⟨[]⟩⟩),.dat (cS ⟨⟨[]⟩⟩),.dat .zc] (some 24),.box [.dat (cI x.op),.dat (cI x.n),.dat (cS x.unit),.dat (cS x.name),.dat (.raw (.slice none 0 0))] (some 24)]
 | n+1=>[.box ((exC x).map .dat) (some 24),.box ((exC y).map .dat) (some 24),.box [.dat (cI 0),.dat (cI 0),.dat (cS ⟨⟨[]⟩⟩),.dat (cS ⟨⟨[]⟩⟩),.dat .zc] (some 24),.box [.dat (cI x.op),.dat (cI x.n),.dat (cS x.unit),.dat (cS x.name),.sl 4 5 0 (n+1)] (some 24),.arr (.sl 5 ((x.args.take (n+1)).map (Ex.cells∘Ex.repl nm y))) 0 (some 24)]
end Go.Hp.T
namespace Go.Hp.T
open Go Go.RowKit Go.Slot Go.Hp
set_option maxRecDepth 10000
theorem yxq {x:Ex} (h:z3f x=true) (ho:x.op=1):x.args=[]:=by
 unfold z3f at h;rw [ho] at h;simp at h;exact h.2.2
theorem yl0 (nm:ByteArray) (y:Ex) (hy:y.wqc=false):∀ x:Ex,x.shaped=true->(Ex.repl nm y x).wqc=x.wqc:=by
 refine Ex.ind (fun x ih hx=>?_);rw [Ex.yaj,Bool.and_eq_true,List.all_eq_true] at hx;rw [Ex.z6l]
 cases hc:(decide (x.op=1)&&seq x.name nm) with
 | true=>
  rw [Bool.and_eq_true,decide_eq_true_iff] at hc;rw [Ex.zs3 x,yxq hx.1 hc.1,hc.1];simpa using hy
 | false=>
  rw [cond_false,Ex.zs3,Ex.zs3 x]
  congr 1
  show (x.args.map (Ex.repl nm y)).any Ex.wqc=_;rw [List.any_map];refine Bool.eq_iff_iff.2 ?_;simp only [List.any_eq_true,Function.comp];exact ⟨fun ⟨z,h1,h2⟩=>⟨z,h1,by rw [<-ih z h1 (hx.2 z h1)];exact h2⟩,fun ⟨z,h1,h2⟩=>⟨z,h1,by rw [ih z h1 (hx.2 z h1)];exact h2⟩⟩
end Go.Hp.T
namespace Go.Hp.T
open Go Go.RowKit Go.Slot Go.Hp Go.Slot.T
open Go.Proofs.Tryz (prog)
set_option maxRecDepth 10000
set_option maxHeartbeats 4000000
variable {Γ:List (Nat×List Cell)}
theorem yx6 (nm:ByteArray) (y:Ex):∀ x:Ex,x.Sm->x.shaped=true->CallsD Γ prog 23 [.agg (exC x),.one (cS nm),.agg (exC y)] (.agg (exC (Ex.repl nm y x))):=by
 refine Ex.ind (fun x ih0 hx hsh=>?_);rw [Ex.yaj,Bool.and_eq_true,List.all_eq_true] at hsh
 have hone:x.op=1->x.args.length=0:=fun h=>by rw [yxq hsh.1 h];rfl
 have ih:∀ z∈x.args,z.Sm->CallsD Γ prog 23 [.agg (exC z),.one (cS nm),.agg (exC y)] (.agg (exC (Ex.repl nm y z))):=fun z hz h=>ih0 z hz h (hsh.2 z hz)
 clear ih0 hsh;have hl:=hx.len;by_cases hnil:x.args.length=0
 . have ha:x.args=[]:=List.eq_nil_of_length_eq_zero hnil;by_cases hc:(decide (x.op=1)&&seq x.name nm)=true
   . rw [Ex.z6l,hc];rw [Bool.and_eq_true] at hc;obtain ⟨hc1,hc2⟩:=hc;refine CallsD.run [] Go.Proofs.Tryz.func23 rfl rfl rfl ?_;simp only [Go.Proofs.Tryz.f23];refine hgR ?_;refine hgS ?_;exact RLe.ofEq rfl
   . have hc':=Bool.eq_false_iff.2 hc;rw [Ex.z6l,hc',ha];refine CallsD.nil5 ?_;clear hnil;refine CallsD.run [] Go.Proofs.Tryz.func23 rfl rfl rfl ?_;simp only [Go.Proofs.Tryz.f23];refine hgR ?_
     repeat' ((first | refine hfk ?_ ?_<;>intros | refine hik ?_)<;>refine hgS ?_)
     all_goals first
      | (exfalso;simp_all;done)
      | skip
     all_goals
      have hx2:cI 1=cI 1:=rfl
      try rw [show cI 1=cI x.op by simp [*]]
      first
       | (rename_i p q r;clear p q r)
       | skip
      refine wgj ?_
      conv=>simp (maxSteps:=2000000) (disch:=omega) only [go_sem,Nat.reduceAdd,Nat.reduceSub,Nat.reduceMul,Int.reduceToNat,Nat.reduceEqDiff,Nat.reduceBEq,Nat.reduceBneDiff,Nat.reduceLT,Int.reduceEq,Int.reduceLT,Int.reduceLE,Int.reduceNeg,Int.reduceAdd,Int.reduceSub,Int.reduceMul,ha,List.length_nil,n0]
      exact RLe.ofEq rfl
 . have hop:¬x.op=1:=fun h=>hnil (hone h)
   generalize hR:Ex.repl nm y x=R;refine CallsD.run [] Go.Proofs.Tryz.func23 rfl rfl rfl ?_;simp only [Go.Proofs.Tryz.f23];refine hgR ?_
   repeat' ((first | refine hfk ?_ ?_<;>intros | refine hik ?_)<;>refine hgS ?_)
   all_goals try (exfalso;omega)
   all_goals
    have hc:(decide (x.op=1)&&seq x.name nm)=false:=by simp [*]
    refine y31 [1,3,5,6,7] (fun n:Nat=>[(8,.one (.dat (cI n)))]) (rpB nm y x) (fun n=>n<=x.args.length) (fun n=>x.args.length-n) 0 (Nat.zero_le _) ?_ ?_
    . refine hg ?_;exact StH.same svl rfl
    intro n hn
    rcases n with _ | n
    . simp only [rpB];refine hg ?_
      repeat' ((first | refine hfk ?_ ?_<;>intros | refine hik ?_ | with_reducible first | refine y5m (ih _ (zkt (show 0<x.args.length by omega)) (hx.arg _ (zkt (show 0<x.args.length by omega)))) ?_ | refine vtc (ih _ (zkt (show 0<x.args.length by omega)) (hx.arg _ (zkt (show 0<x.args.length by omega)))) ?_)<;>refine hgS ?_)
      . refine ⟨1,by omega,by omega,StH.same svl ?_⟩
        have ht:(x.args.take (0+1)).map (Ex.cells∘Ex.repl nm y)=[exC (Ex.repl nm y (x.args.getD 0 default))]:=by
         rw [xm8 (by omega),List.take_zero];simp only [List.nil_append,List.map_cons,List.map_nil,Function.comp,Ex.yto]
        simp only [ht]
        try rfl
      . exfalso;omega
    . simp only [rpB]
      have hlen:(x.args.take (n+1)).length=n+1:=by rw [List.length_take];omega
      conv=>simp (maxSteps:=2000000) (disch:=omega) only [go_sem,Nat.reduceAdd,Nat.reduceSub,Nat.reduceMul,Int.reduceToNat,Nat.reduceEqDiff,Nat.reduceBEq,Nat.reduceBneDiff,Nat.reduceLT,Int.reduceEq,Int.reduceLT,Int.reduceLE,Int.reduceNeg,Int.reduceAdd,Int.reduceSub,Int.reduceMul,hlen]
      repeat' ((first | refine hfk ?_ ?_<;>intros | refine hik ?_ | with_reducible first | refine y5m (ih _ (zkt (show n+1<x.args.length by omega)) (hx.arg _ (zkt (show n+1<x.args.length by omega)))) ?_ | refine vtc (ih _ (zkt (show n+1<x.args.length by omega)) (hx.arg _ (zkt (show n+1<x.args.length by omega)))) ?_)<;>refine hgS ?_)
      . refine ⟨n+1+1,by omega,by omega,StH.back [1,3,5,6,7,8] 4 5 5 rfl rfl rfl rfl rfl (by kernel_rfl) (StH.same svl ?_)⟩
        have ht:(x.args.take (n+1+1)).map (Ex.cells∘Ex.repl nm y)=(x.args.take (n+1)).map (Ex.cells∘Ex.repl nm y)++[exC (Ex.repl nm y (x.args.getD (n+1) default))]:=by
         rw [xm8 (by omega)];simp only [List.map_append,List.map_cons,List.map_nil,Function.comp,Ex.yto]
        simp only [ht,List.length_append,List.length_map,List.length_singleton,hlen]
        try rfl
      . have e:x.args.take (n+1)=x.args:=List.take_of_length_le (by omega);exact RLe.ofEq (by rw [<-hR,Ex.z6l,hc,e,<-List.map_map];rfl)
end Go.Hp.T
namespace Go.Hp.T
open Go Go.RowKit Go.Slot Go.Hp
set_option maxRecDepth 10000
def tbad (V:List (ByteArray×Dm)) (t:Tb):Bool:=(y4u V t.name).isSome||decide (¬(wrt t.unit).2=0)||!wlo (fun s=>(wrt s).2) t||isWord t.name
section
variable {α:Type} {bad:α->Bool} {nm:α->ByteArray} {vl:α->Dm}
theorem vjx (s:ByteArray):∀ l:List α,(∀ v∈l,seq s (nm v)=false)->y4u (l.map fun v=>(nm v,vl v)) s=none
 | [],_=>rfl
 | v::l,h=>by
  rw [List.map_cons,y4u,h v (by simp),cond_false];exact vjx s l (fun w hw=>h w (by simp [hw]))
theorem x8o {s:ByteArray}:∀{l:List α},y4u (l.map fun v=>(nm v,vl v)) s=none->∀ v∈l,seq s (nm v)=false
 | [],_,v,hv=>by cases hv
 | w::l,h,v,hv=>by
  rw [List.map_cons,y4u] at h
  cases hs:seq s (nm w) with
  | true=>rw [hs] at h;cases h
  | false=>
   rw [hs,cond_false] at h
   rcases List.mem_cons.1 hv with rfl | hv
   . exact hs
   . exact x8o h v hv
end
structure vm2 (vs:List Vr) (ms:List Tb):Prop where
 v:∀ v∈vs,(!isName v.name||isWord v.name||!wpm v.d)=false
 vp:vs.Pairwise (fun a b=>seq b.name a.name=false)
 t:∀ t∈ms,tbad (vs.map fun v=>(v.name,v.d)) t=false
 tp:ms.Pairwise (fun a b=>seq b.name a.name=false)
theorem vcc {vs vs':List Vr} {t:Tb} (hsub:∀ v∈vs',v∈vs) (h:tbad (vs.map fun v=>(v.name,v.d)) t=false):tbad (vs'.map fun v=>(v.name,v.d)) t=false:=by
 unfold tbad at h ⊢;simp only [Bool.or_eq_false_iff] at h ⊢;refine ⟨⟨⟨?_,h.1.1.2⟩,h.1.2⟩,h.2⟩
 have h1:y4u (vs.map fun v=>(v.name,v.d)) t.name=none:=by
  cases hl:y4u (vs.map fun v=>(v.name,v.d)) t.name with
  | none=>rfl
  | some d=>rw [hl] at h;exact absurd h.1.1.1 (by simp)
 rw [vjx t.name vs' (fun v hv=>x8o h1 v (hsub v hv))];rfl
theorem vm2.less {vs vs':List Vr} {ms ms':List Tb} (h:vm2 vs ms) (hv:vs'.Sublist vs) (ht:ms'.Sublist ms):vm2 vs' ms':=
 ⟨fun v hv'=>h.v v (hv.subset hv'),h.vp.sublist hv,fun t ht'=>vcc (fun _ hv'=>hv.subset hv') (h.t t (ht.subset ht')),h.tp.sublist ht⟩
end Go.Hp.T
