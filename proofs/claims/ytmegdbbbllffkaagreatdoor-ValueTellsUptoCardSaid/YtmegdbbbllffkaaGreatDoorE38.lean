/- The proof, part E38: Gf, Da, Qpa, Qpb, Qpc, Qpd, Qpe, Qpf, Qpg, Qph, Qpi, Qpj, Qpk, Qpl, Qpm, Dc, Xc, Xg. -/
import Derived.Test.YtmegdbbbllffkaaGreatDoorE37
import Derived.Test.YtmegdbbbllffkaaGreatDoorE26
import Derived.Test.YtmegdbbbllffkaaGreatDoorE36
import Derived.Test.YtmegdbbbllffkaaGreatDoorE35
namespace Go.Hp.T
open Go Go.RowKit Go.Slot Go.Hp Go.Slot.T
open Go.Proofs.Tryz (prog)
set_option maxRecDepth 10000
set_option maxHeartbeats 4000000
variable {Γ:List (Nat×List Cell)}
theorem z0ar (f:FuncId) (l:List SV):z0y (.clo f l)=l.flatMap vp6:=rfl
attribute [go_sem] z0ar
theorem xaz (V:Vq) (T:Vt) (a c d:SB) (b:Bool):StH Γ [] [SV.tup [.agg [.mp 1,.mp 2],.one (.dat (cB b))]] [a,mQ V,mB T,c,d] [SV.tup [.agg [.mp 0,.mp 1],.one (.dat (cB b))]] [mQ V,mB T]:=by
 have e1:swL 0 1 [a,mQ V,mB T,c,d]=[mQ V,swSB 0 1 a,mB T,swSB 0 1 c,swSB 0 1 d]:=by
  show [swSB 0 1 (mQ V),swSB 0 1 a,swSB 0 1 (mB T),swSB 0 1 c,swSB 0 1 d]=_;rw [vp2,vcy]
 have e2:swL 1 2 [mQ V,swSB 0 1 a,mB T,swSB 0 1 c,swSB 0 1 d]=[mQ V,mB T,swSB 1 2 (swSB 0 1 a),swSB 1 2 (swSB 0 1 c),swSB 1 2 (swSB 0 1 d)]:=by
  show [swSB 1 2 (mQ V),swSB 1 2 (mB T),swSB 1 2 (swSB 0 1 a),swSB 1 2 (swSB 0 1 c),swSB 1 2 (swSB 0 1 d)]=_;rw [vp2,vcy]
 have h1:=StH.xn1 (Γ:=Γ) (e:=[]) (I:=[SV.tup [.agg [.mp 1,.mp 2],.one (.dat (cB b))]]) (J:=[a,mQ V,mB T,c,d]) (i:=0) (j:=1) (by decide) (by decide) (by simp) (by simp);have h2:=StH.xn1 (Γ:=Γ) (e:=[]) (I:=[SV.tup [.agg [.mp 0,.mp 2],.one (.dat (cB b))]]) (J:=[mQ V,swSB 0 1 a,mB T,swSB 0 1 c,swSB 0 1 d]) (i:=1) (j:=2) (by decide) (by decide) (by simp) (by simp)
 have h3:=StH.cutB (Γ:=Γ) (e:=[]) (I:=[SV.tup [.agg [.mp 0,.mp 1],.one (.dat (cB b))]]) (J:=[mQ V,mB T,swSB 1 2 (swSB 0 1 a),swSB 1 2 (swSB 0 1 c),swSB 1 2 (swSB 0 1 d)]) 2 (by decide) (by
  unfold x2g;show (_&&([mQ V,mB T].all fun x=>(z0y x).all fun b=>Nat.blt b 2))=true
  simp only [List.all_cons,yce,wor,List.all_nil];rfl)
 rw [e1] at h1;rw [e2] at h2;exact h1.trans (h2.trans h3)
def entB:Option (Vq×Vt)->List SB
 | none=>[]
 | some p=>[mQ p.1,mB p.2]
def entR:Option (Vq×Vt)->SV
 | none=>.tup [.agg [.any,.any],.one (.dat (cB false))]
 | some _=>.tup [.agg [.mp 0,.mp 1],.one (.dat (cB true))]
theorem z06r (bs:List Bd) (ms:List Tb) (hb:bs.length<=1073741824) (hm:ms.length<=1073741824) (hbs:∀ b∈bs,b.name.size<=1073741824/\b.v.sz<=268435456) (hms:∀ t∈ms,t.Sm) :
 vfe Γ prog 33 [] [.one (.dat (.sl 5 (bs.map Bd.C))),.one (.dat (.sl 3 (ms.map Tb.C)))] (entB (entF bs ms)) (entR (entF bs ms)):=by
 refine vfe.run [(2,[.clo])] Go.Proofs.Tryz.func33 rfl rfl ?_;simp only [Go.Proofs.Tryz.f33];refine hgR ?_;refine y55 [0,1,4,6,7,16,17] (fun p:Nat×Vq=>[(18,.one (.dat (cI p.1)))]) (fun p=>[.box [.dat (.raw (.map none)),.dat (.raw (.map none))] (some 79),mQ p.2,mB [],scB,.clo 64 [.one (.ptr 3 0)]])
  (fun p=>p.1<=bs.length/\rB [] bs=rB p.2 (bs.drop p.1)) (fun p=>bs.length-p.1) (0,[]) ⟨Nat.zero_le _,rfl⟩ ?_ ?_
 . refine hg ?_;exact StH.same svl rfl
 rintro ⟨i,V⟩ ⟨h1,h2⟩;simp only at h1 h2;refine hg ?_;refine vnx (fun hlt _=>?_) (fun hlt _=>?_)
 . have hlt':i<bs.length:=by omega
   have hy:=hbs _ (w4t hlt');rw [xqz hlt'] at h2
   have hbad:rB [] bs=none->entF bs ms=none:=fun h=>by unfold entF entG;rw [show gE Bd.name (fun b=>decide b.v.ok) (fun b=>b.v.val) (fun _=>false) [] bs=none from h]
   refine hg ?_;refine xwg (z3l V [] (bs.getD i default).name hy.1 _ _ _) ?_
   have h2':rB [] bs=bif ((ycr V (bs.getD i default).name).isSome||(ycr ([]:Vt) (bs.getD i default).name).isSome||!isName (bs.getD i default).name||isWord (bs.getD i default).name)||!decide (bs.getD i default).v.ok then none else rB (updF V (bs.getD i default).name (bs.getD i default).v.val) (bs.drop (i+1)):=h2
   clear h2;generalize ((ycr V (bs.getD i default).name).isSome||(ycr ([]:Vt) (bs.getD i default).name).isSome||!isName (bs.getD i default).name||isWord (bs.getD i default).name)=X at *;generalize bs.getD i default=b at *;obtain ⟨nm,v⟩:=b;simp only at hy h2';by_cases hok:v.ok
   . obtain ⟨q,rfl⟩:=xp2 hok;have hr:CallsD Γ prog 26 [.agg (qC (some q))] (.one (cB true)):=wi6 (some q) hy.2;rw [decide_eq_true hok,show (qF (some q)).val=q from Fc.w2h q] at h2';clear hok
     cases X with
     | true=>
      rw [hbad h2'];refine hg ?_
      repeat' ((first | refine hfk ?_ ?_<;>intros | refine hik ?_)<;>refine hgS ?_)
      exact wvc
     | false=>
      refine hg ?_
      repeat' ((first | refine hfk ?_ ?_<;>intros | refine hik ?_ | with_reducible first | refine v6l (hr) ?_ | refine vgi (hr) ?_)<;>refine hgS ?_)
      refine ⟨(i+1,updF V nm q),⟨by dsimp only;omega,by first | exact h2' | rfl⟩,by dsimp only;omega,?_⟩;refine StH.cutN [0,1,4,6,7,16,17,18] 5 rfl ?_ ?_
      . refine hg ?_;exact trivial
      exact StH.same svl rfl
   . have hr:CallsD Γ prog 26 [.agg [.raw (.int .i64 v.s),.ints .i64 v.L,.raw (.int .i64 v.t),.ints .i64 v.M]] (.one (cB false)):=by
      have:=xau (Γ:=Γ) v hy.2
      rw [decide_eq_false hok] at this;exact this
     rw [hbad (by rw [h2',decide_eq_false hok];cases X<;>rfl)];clear hbad h2' hok
     cases X with
     | true=>
      refine hg ?_
      repeat' ((first | refine hfk ?_ ?_<;>intros | refine hik ?_)<;>refine hgS ?_)
      exact wvc
     | false=>
      refine hg ?_
      repeat' ((first | refine hfk ?_ ?_<;>intros | refine hik ?_ | with_reducible first | refine v6l (hr) ?_ | refine vgi (hr) ?_)<;>refine hgS ?_)
      exact wvc
 . have hV:rB [] bs=some V:=by rw [h2,List.drop_eq_nil_of_le (by omega)];rfl
   clear h2 h1 hlt hbs
   have hbad:rTb V [] ms=none->entF bs ms=none:=fun h=>by
    unfold entF entG;rw [show gE Bd.name (fun b=>decide b.v.ok) (fun b=>b.v.val) (fun _=>false) [] bs=some V from hV];show Option.map _ (rTb V [] ms)=none;rw [h];rfl
   have hgood:∀ T,rTb V [] ms=some T->entF bs ms=some (V,T):=fun T h=>by
    unfold entF entG;rw [show gE Bd.name (fun b=>decide b.v.ok) (fun b=>b.v.val) (fun _=>false) [] bs=some V from hV];show Option.map _ (rTb V [] ms)=_;rw [h];rfl
   clear hV;refine hg ?_;refine y55 [4,6,7,41,42] (fun p:Nat×Vt=>[(43,.one (.dat (cI p.1)))]) (fun p=>[.box [.dat (.raw (.map none)),.dat (.raw (.map none))] (some 79),mQ V,mB p.2,scB,.clo 64 [.one (.ptr 3 0)]])
    (fun p=>p.1<=ms.length/\rTb V [] ms=rTb V p.2 (ms.drop p.1)) (fun p=>ms.length-p.1) (0,[]) ⟨Nat.zero_le _,rfl⟩ ?_ ?_
   . refine hg ?_;exact StH.same svl rfl
   rintro ⟨j,T⟩ ⟨h1,h2⟩;simp only at h1 h2;refine hg ?_;refine vnx (fun hlt _=>?_) (fun hlt _=>?_)
   . have hlt':j<ms.length:=by omega
     have hy:=hms _ (w4t hlt');rw [xqz hlt'] at h2;have hr:=vv4 (Γ:=Γ) _ hy.n hy.u hy.r;refine hg ?_;refine xwg (z3l V T (ms.getD j default).name hy.n _ _ _) ?_
     have h3:rTb V [] ms=bif ((ycr T (ms.getD j default).name).isSome||(ycr V (ms.getD j default).name).isSome||!isName (ms.getD j default).name||isWord (ms.getD j default).name)||!zi4 (fun s=>(zte s).2) (ms.getD j default) then none else rTb V (updF T (ms.getD j default).name (ms.getD j default)) (ms.drop (j+1)):=h2
     have h2':rTb V [] ms=bif ((ycr V (ms.getD j default).name).isSome||(ycr T (ms.getD j default).name).isSome||!isName (ms.getD j default).name||isWord (ms.getD j default).name)||!zi4 (fun s=>(zte s).2) (ms.getD j default) then none else rTb V (updF T (ms.getD j default).name (ms.getD j default)) (ms.drop (j+1)):=by
      rw [h3,Bool.or_comm (ycr T (ms.getD j default).name).isSome]
     clear h3;clear h2 hy;generalize ((ycr V (ms.getD j default).name).isSome||(ycr T (ms.getD j default).name).isSome||!isName (ms.getD j default).name||isWord (ms.getD j default).name)=X at *;generalize zi4 (fun s=>(zte s).2) (ms.getD j default)=Y at *
     cases X with
     | true=>
      rw [hbad h2'];refine hg ?_
      repeat' ((first | refine hfk ?_ ?_<;>intros | refine hik ?_)<;>refine hgS ?_)
      exact wvc
     | false=>cases Y with
      | false=>
       rw [hbad h2'];refine hg ?_
       repeat' ((first | refine hfk ?_ ?_<;>intros | refine hik ?_ | with_reducible first | refine v6l (hr) ?_ | refine vgi (hr) ?_)<;>refine hgS ?_)
       exact wvc
      | true=>
       refine hg ?_
       repeat' ((first | refine hfk ?_ ?_<;>intros | refine hik ?_ | with_reducible first | refine v6l (hr) ?_ | refine vgi (hr) ?_)<;>refine hgS ?_)
       refine ⟨(j+1,updF T (ms.getD j default).name (ms.getD j default)),⟨by dsimp only;omega,by first | exact h2' | rfl⟩,by dsimp only;omega,?_⟩;refine StH.cutN [4,6,7,41,42,43] 5 rfl ?_ ?_
       . refine hg ?_;exact trivial
       exact StH.same svl rfl
   . have hT:rTb V [] ms=some T:=by rw [h2,List.drop_eq_nil_of_le (by omega)];rfl
     rw [hgood T hT];clear h2 h1 hlt hbad hgood hT;refine hg ?_;exact xaz V T _ _ _ true
theorem vpt (x:Ex) (bs:List Bd) (ms:List Tb) (hx:x.Sm) (hb:bs.length<=1073741824) (hm:ms.length<=1073741824) (hbs:∀ b∈bs,b.name.size<=1073741824/\b.v.sz<=330000) (hms:∀ t∈ms,t.Sm) :
 CallsD Γ prog 11 [.agg (exC x),.one (.sl 5 (bs.map Bd.C)),.one (.sl 3 (ms.map Tb.C))] (rsR (valF x bs ms)):=by
 have hr:=z06r (Γ:=Γ) bs ms hb hm (fun b h=>⟨(hbs b h).1,Nat.le_trans (hbs b h).2 (by decide)⟩) hms;have c1:=xz2 (Γ:=Γ) x hx;have c2:=xny (Γ:=Γ) x hx
 cases hr1:xub x with
 | false=>
  rw [hr1] at c1;rw [show valF x bs ms=(⟨false,false,none⟩,2) by unfold valF;rw [hr1];rfl];refine CallsD.run [] Go.Proofs.Tryz.func11 rfl rfl rfl ?_;simp only [Go.Proofs.Tryz.f11];refine hgR ?_
  repeat' ((first | refine hfk ?_ ?_<;>intros | refine hik ?_ | with_reducible first | refine v6l (c1) ?_ | refine vgi (c1) ?_)<;>refine hgS ?_)
  exact rsEq rfl
 | true=>cases hc1:x.xi4 with
  | true=>
   rw [hr1] at c1;rw [hc1] at c2;rw [show valF x bs ms=(⟨false,false,none⟩,2) by unfold valF;rw [hr1,hc1];rfl];refine CallsD.run [] Go.Proofs.Tryz.func11 rfl rfl rfl ?_;simp only [Go.Proofs.Tryz.f11];refine hgR ?_
   repeat' ((first | refine hfk ?_ ?_<;>intros | refine hik ?_ | with_reducible first | refine v6l (c1) ?_ | refine vgi (c1) ?_ | refine v6l (c2) ?_ | refine vgi (c2) ?_)<;>refine hgS ?_)
   exact rsEq rfl
  | false=>
   rw [hr1] at c1;rw [hc1] at c2
   have hsh:x.shaped=true:=by unfold xub at hr1;rw [Bool.and_eq_true] at hr1;exact hr1.2
   cases hrd:entF bs ms with
   | none=>
    rw [hrd] at hr;rw [show valF x bs ms=(⟨false,false,none⟩,1) by unfold valF;rw [hr1,hc1,hrd];rfl]
    have hr2:∀ a b:SB,vfe Γ prog 33 [a,b] [.one (.dat (.sl 5 (bs.map Bd.C))),.one (.dat (.sl 3 (ms.map Tb.C)))] [a,b] (.tup [.agg [.any,.any],.one (.dat (cB false))]):=fun a b=>vfe.at [] (J:=[a,b]) hr (by decide) rfl rfl rfl
    refine CallsD.run [] Go.Proofs.Tryz.func11 rfl rfl rfl ?_;simp only [Go.Proofs.Tryz.f11];refine hgR ?_
    repeat' ((first | refine hfk ?_ ?_<;>intros | refine hik ?_ | with_reducible first | refine v6l (c1) ?_ | refine vgi (c1) ?_ | refine v6l (c2) ?_ | refine vgi (c2) ?_)<;>refine hgS ?_)
    refine xc5 (hr2 _ _) rfl ?_;refine hg ?_
    repeat' ((first | refine hfk ?_ ?_<;>intros | refine hik ?_)<;>refine hgS ?_)
    exact rsEq rfl
   | some p=>
    obtain ⟨V,T⟩:=p;rw [hrd] at hr;rw [show valF x bs ms=x.cal V T by unfold valF;rw [hr1,hc1,hrd];rfl]
    have hr2:∀ a b:SB,vfe Γ prog 33 [a,b] [.one (.dat (.sl 5 (bs.map Bd.C))),.one (.dat (.sl 3 (ms.map Tb.C)))] [a,b,mQ V,mB T] (.tup [.agg [.mp 2,.mp 3],.one (.dat (cB true))]):=fun a b=>by
     have h:=vfe.at [] (J:=[a,b]) hr (by decide) rfl rfl rfl
     have e:putR [] [a,b] (entB (some (V,T)))=[a,b,mQ V,mB T]:=by
      show [a,b,rnSB _ (mQ V),rnSB _ (mB T)]=_;rw [yi4,z14r]
     rw [e] at h;exact h
    have hnd:=zvr hr1;have hB:(335000:Nat)*x.nd<=67108864:=Nat.le_trans (Nat.mul_le_mul_left _ hnd) (by decide);have hc:=z10r (Γ:=Γ) (B:=335000) (by decide) V T (x98 hrd (fun b h=>by have:=(hbs b h).2;omega)) (wed hrd hms) x hx hsh hc1 hB;refine CallsD.run [] Go.Proofs.Tryz.func11 rfl rfl rfl ?_;simp only [Go.Proofs.Tryz.f11];refine hgR ?_
    repeat' ((first | refine hfk ?_ ?_<;>intros | refine hik ?_ | with_reducible first | refine v6l (c1) ?_ | refine vgi (c1) ?_ | refine v6l (c2) ?_ | refine vgi (c2) ?_)<;>refine hgS ?_)
    refine xc5 (hr2 _ _) rfl ?_;refine hg ?_;refine xwg (vfe.ro [2,3] hc (zcx V T) (by decide) rfl rfl) ?_;refine hg ?_;exact RLe.ofEq rfl
end Go.Hp.T
namespace Go.Hp.T
open Go Go.RowKit Go.Slot Go.Hp Go.Slot.T
open Go.Proofs.Tryz (prog)
set_option maxRecDepth 100000
set_option maxHeartbeats 4000000
variable {Γ:List (Nat×List Cell)}
def bs16:List Bd:=[⟨⟨#[97]⟩,qF (some ((6:Int):Rat))⟩,⟨⟨#[98]⟩,qF (some ((4000:Int):Rat))⟩,⟨⟨#[122]⟩,qF (some ((0:Int):Rat))⟩]
def ms16:List Tb:=[⟨⟨#[103,114,105,100]⟩,⟨#[103]⟩,[⟨0,5⟩,⟨10,7⟩]⟩]
theorem xbo:CallsD Gs prog 60 [] (.one (.sl 5 (bs16.map Bd.C))):=by
 refine CallsD.run [] Go.Proofs.Tryz.func60 rfl rfl rfl ?_;simp only [Go.Proofs.Tryz.f60];refine hgR ?_
 repeat' ((first | refine hfk ?_ ?_<;>intros | refine hik ?_ | with_reducible first | refine v6l (pInt 6 (by decide)) ?_ | refine vgi (pInt 6 (by decide)) ?_ | refine v6l (pInt 4000 (by decide)) ?_ | refine vgi (pInt 4000 (by decide)) ?_ | refine v6l (pInt 0 (by decide)) ?_ | refine vgi (pInt 0 (by decide)) ?_)<;>refine hgS ?_)
 all_goals exact RLe.ofEq rfl
theorem wwk:CallsD Gs prog 61 [] (.one (.sl 3 (ms16.map Tb.C))):=by
 refine CallsD.run [] Go.Proofs.Tryz.func61 rfl rfl rfl ?_;simp only [Go.Proofs.Tryz.f61];refine hgR ?_
 repeat' ((first | refine hfk ?_ ?_<;>intros | refine hik ?_)<;>refine hgS ?_)
 all_goals exact RLe.ofEq rfl
theorem wwp:∀ b∈bs16,b.name.size<=1073741824/\b.v.sz<=4:=by
 intro b hb
 have hb':b=⟨⟨#[97]⟩,qF (some ((6:Int):Rat))⟩\/b=⟨⟨#[98]⟩,qF (some ((4000:Int):Rat))⟩\/b=⟨⟨#[122]⟩,qF (some ((0:Int):Rat))⟩:=by simpa [bs16] using hb
 rcases hb' with rfl | rfl | rfl
 . exact ⟨by decide,wtn (by decide)⟩
 . exact ⟨by decide,wtn (by decide)⟩
 . exact ⟨by decide,wtn (by decide)⟩
theorem cV16 (x:Ex) (hx:x.Sm):CallsD Gs prog 11 [.agg (exC x),.one (.sl 5 (bs16.map Bd.C)),.one (.sl 3 (ms16.map Tb.C))] (rsR (valF x bs16 ms16)):=
 vpt x bs16 ms16 hx (by decide) (by decide) (fun b hb=>⟨(wwp b hb).1,by have:=(wwp b hb).2;omega⟩) (fun t ht=>by
  cases List.mem_singleton.1 ht
  exact ⟨by decide,by decide,by decide⟩)
theorem qz16 (x:Ex):qz (valF x bs16 ms16).1.v<=67108864:=Nat.le_trans (z03r (B:=4300) (Nat.le_refl _) (fun b hb=>by have:=(wwp b hb).2;omega)) (by decide)
theorem CallsD.ws4 {P:Program} {f:FuncId} {args args':List AV} {res:AV} (h:CallsD Γ P f args' res) (hle:LeS args args'):CallsD Γ P f args res:=⟨h.1,fun M w vs hM hg hr=>h.2 M w vs hM hg (RdBL.le hle hr)⟩
theorem z11r (a:Rs) (ha:qz a.v<=67108864):CallsD Γ prog 13 [.agg (rsC a),.agg (rsZ false false)] (.one (cB (decide (a=Rs.zero)))):=
 CallsD.ws4 (x2q a Rs.zero ha (by decide)) (.cons (.refl _) (.cons rsLe .nil))
theorem xe0 (s:ByteArray) (x:Ex) (hp:CallsD Gs prog 59 [.one (cS s)] (parR x)) (hx:x.Sm):CallsD Gs prog 28 [.one (cS s)] (rsR (valF x bs16 ms16)):=by
 have h1:=cV16 x hx;generalize valF x bs16 ms16=r at h1 ⊢;refine CallsD.run [] Go.Proofs.Tryz.func28 rfl rfl rfl ?_;simp only [Go.Proofs.Tryz.f28];refine hgR ?_
 repeat' ((first | refine hfk ?_ ?_<;>intros | refine hik ?_ | with_reducible first | refine v6l (hp) ?_ | refine vgi (hp) ?_ | refine v6l (xbo) ?_ | refine vgi (xbo) ?_ | refine v6l (wwk) ?_ | refine vgi (wwk) ?_ | refine v6l (h1) ?_ | refine vgi (h1) ?_)<;>refine hgS ?_)
 all_goals refine lfE ?_;first | exact trivial | rfl
theorem w7e (s:ByteArray) (x:Ex) (p q:Int) (hq:0<q) (hi:inI p) (hj:inI q) (hp:CallsD Gs prog 59 [.one (cS s)] (parR x)) (hx:x.Sm) (e:valF x bs16 ms16=(⟨false,false,some (Rat.divInt p q)⟩,0)):CallsD Gs prog 29 [.one (cS s),.one (cI p),.one (cI q)] (.one (cB true)):=by
 have h1:=xe0 s x hp hx;have h3:=qz16 x;rw [e] at h1 h3;obtain ⟨n,rfl⟩:∃ n:Nat,q=n:=⟨q.toNat,by omega⟩;have h2:=s5Of (Γ:=Gs) p n hi hj (by omega);have h4:=x2q (Γ:=Gs) ⟨false,false,some (Rat.divInt p n)⟩ ⟨false,false,some (Rat.divInt p n)⟩ h3 h3;rw [decide_eq_true rfl] at h4;have h2:CallsD Gs prog 45 [.one (cI p),.one (cI n)] (.tup [.agg (qC (some (Rat.divInt p n))),.one (cI 0)]):=h2;refine CallsD.run [] Go.Proofs.Tryz.func29 rfl rfl rfl ?_;simp only [Go.Proofs.Tryz.f29];refine hgR ?_
 repeat' ((first | refine hfk ?_ ?_<;>intros | refine hik ?_ | with_reducible first | refine v6l (h1) ?_ | refine vgi (h1) ?_ | refine v6l (h2) ?_ | refine vgi (h2) ?_ | refine v6l (h4) ?_ | refine vgi (h4) ?_)<;>refine hgS ?_)
 all_goals refine lfE ?_;first | exact trivial | rfl
theorem z17r (s:ByteArray) (x:Ex) (n:Int) (hp:CallsD Gs prog 59 [.one (cS s)] (parR x)) (hx:x.Sm) (e:valF x bs16 ms16=(Rs.zero,n)):CallsD Gs prog 30 [.one (cS s),.one (cI n)] (.one (cB true)):=by
 have h1:=xe0 s x hp hx;rw [e] at h1;have h4:=z11r (Γ:=Gs) Rs.zero (by decide);rw [decide_eq_true rfl] at h4;refine CallsD.run [] Go.Proofs.Tryz.func30 rfl rfl rfl ?_;simp only [Go.Proofs.Tryz.f30];refine hgR ?_
 repeat' ((first | refine hfk ?_ ?_<;>intros | refine hik ?_ | with_reducible first | refine v6l (h1) ?_ | refine vgi (h1) ?_ | refine v6l (h4) ?_ | refine vgi (h4) ?_)<;>refine hgS ?_)
 all_goals first
  | (exfalso;omega)
  | refine lfE ?_;first | exact trivial | rfl
end Go.Hp.T
namespace Go.Hp.T
open Go Go.RowKit Go.Slot Go.Hp
open Go.Proofs.Tryz (prog)
set_option maxRecDepth 100000
theorem par0:CallsD Gs prog 59 [wa2 sx0] (parR ex0):=
 CallsD.uzE 5 (cs:=[cI 12,cI 0,zS,zS,(.sl 5 [[cI 1,cI 0,zS,cS ⟨⟨[98]⟩⟩,.zc],[cI 0,cI 5,cS ⟨⟨[107,103]⟩⟩,zS,.zc]])]) (CallsD.fv (N:=1000) (n:=60) OkD.none (by kernel_rfl)) (by kernel_rfl)
theorem par1:CallsD Gs prog 59 [wa2 sx1] (parR ex1):=
 CallsD.uzE 5 (cs:=[cI 6,cI 0,zS,zS,(.sl 5 [[cI 1,cI 0,zS,cS ⟨⟨[97]⟩⟩,.zc],[cI 0,cI 2,zS,zS,.zc]])]) (CallsD.fv (N:=1000) (n:=60) OkD.none (by kernel_rfl)) (by kernel_rfl)
theorem par2:CallsD Gs prog 59 [wa2 sx2] (parR ex2):=
 CallsD.uzE 5 (cs:=[cI 9,cI 0,zS,zS,(.sl 5 [[cI 7,cI 0,zS,zS,(.sl 5 [[cI 1,cI 0,zS,cS ⟨⟨[97]⟩⟩,.zc],[cI 1,cI 0,zS,cS ⟨⟨[122]⟩⟩,.zc]])],[cI 0,cI 4,zS,zS,.zc]])]) (CallsD.fv (N:=1000) (n:=60) OkD.none (by kernel_rfl)) (by kernel_rfl)
theorem par3:CallsD Gs prog 59 [wa2 sx3] (parR ex3):=
 CallsD.uzE 5 (cs:=[cI 2,cI 0,zS,cS ⟨⟨[103,114,105,100]⟩⟩,(.sl 5 [[cI 1,cI 0,zS,cS ⟨⟨[97]⟩⟩,.zc]])]) (CallsD.fv (N:=1000) (n:=60) OkD.none (by kernel_rfl)) (by kernel_rfl)
theorem par4:CallsD Gs prog 59 [wa2 sx4] (parR ex4):=
 CallsD.uzE 5 (cs:=[cI 2,cI 0,zS,cS ⟨⟨[103,114,105,100]⟩⟩,(.sl 5 [[cI 7,cI 0,zS,zS,(.sl 5 [[cI 0,cI 0,zS,zS,.zc],[cI 1,cI 0,zS,cS ⟨⟨[97]⟩⟩,.zc]])]])]) (CallsD.fv (N:=1000) (n:=60) OkD.none (by kernel_rfl)) (by kernel_rfl)
theorem par5:CallsD Gs prog 59 [wa2 sx5] (parR ex5):=
 CallsD.uzE 5 (cs:=[cI 9,cI 0,zS,zS,(.sl 5 [[cI 1,cI 0,zS,cS ⟨⟨[97]⟩⟩,.zc],[cI 1,cI 0,zS,cS ⟨⟨[122]⟩⟩,.zc]])]) (CallsD.fv (N:=1000) (n:=60) OkD.none (by kernel_rfl)) (by kernel_rfl)
theorem par6:CallsD Gs prog 59 [wa2 sx6] (parR ex6):=
 CallsD.uzE 5 (cs:=[cI 5,cI 0,zS,zS,(.sl 5 [[cI 13,cI 0,zS,zS,(.sl 5 [[cI 1,cI 0,zS,cS ⟨⟨[122]⟩⟩,.zc],[cI 0,cI 0,zS,zS,.zc]])],[cI 1,cI 0,zS,cS ⟨⟨[97]⟩⟩,.zc],[cI 9,cI 0,zS,zS,(.sl 5 [[cI 1,cI 0,zS,cS ⟨⟨[97]⟩⟩,.zc],[cI 1,cI 0,zS,cS ⟨⟨[122]⟩⟩,.zc]])]])]) (CallsD.fv (N:=1000) (n:=60) OkD.none (by kernel_rfl)) (by kernel_rfl)
theorem par7:CallsD Gs prog 59 [wa2 sx7] (parR ex7):=
 CallsD.uzE 5 (cs:=[cI 6,cI 0,zS,zS,(.sl 5 [[cI 9,cI 0,zS,zS,(.sl 5 [[cI 0,cI 1,zS,zS,.zc],[cI 1,cI 0,zS,cS ⟨⟨[122]⟩⟩,.zc]])],[cI 14,cI 0,zS,zS,(.sl 5 [[cI 1,cI 0,zS,cS ⟨⟨[97]⟩⟩,.zc],[cI 1,cI 0,zS,cS ⟨⟨[97]⟩⟩,.zc]])]])]) (CallsD.fv (N:=1000) (n:=60) OkD.none (by kernel_rfl)) (by kernel_rfl)
theorem par8:CallsD Gs prog 59 [wa2 sx8] (parR ex8):=
 CallsD.uzE 5 (cs:=[cI 6,cI 0,zS,zS,(.sl 5 [[cI 14,cI 0,zS,zS,(.sl 5 [[cI 1,cI 0,zS,cS ⟨⟨[97]⟩⟩,.zc],[cI 1,cI 0,zS,cS ⟨⟨[97]⟩⟩,.zc]])],[cI 9,cI 0,zS,zS,(.sl 5 [[cI 0,cI 1,zS,zS,.zc],[cI 1,cI 0,zS,cS ⟨⟨[122]⟩⟩,.zc]])]])]) (CallsD.fv (N:=1000) (n:=60) OkD.none (by kernel_rfl)) (by kernel_rfl)
theorem par9:CallsD Gs prog 59 [wa2 sx9] (parR ex9):=
 CallsD.uzE 5 (cs:=[cI 1,cI 0,zS,cS ⟨⟨[99]⟩⟩,.zc]) (CallsD.fv (N:=1000) (n:=60) OkD.none (by kernel_rfl)) (by kernel_rfl)
theorem ycv:CallsD Gs prog 59 [wa2 sx10] (parR ex10):=
 CallsD.uzE 5 (cs:=[cI 0,cI 5,cS ⟨⟨[107,120]⟩⟩,zS,.zc]) (CallsD.fv (N:=1000) (n:=60) OkD.none (by kernel_rfl)) (by kernel_rfl)
theorem vnf:CallsD Gs prog 59 [wa2 sx11] (parR ex11):=
 CallsD.uzE 5 (cs:=[cI 5,cI 0,zS,zS,(.sl 5 [[cI 1,cI 0,zS,cS ⟨⟨[97]⟩⟩,.zc],[cI 1,cI 0,zS,cS ⟨⟨[99]⟩⟩,.zc],[cI 1,cI 0,zS,cS ⟨⟨[99]⟩⟩,.zc]])]) (CallsD.fv (N:=1000) (n:=60) OkD.none (by kernel_rfl)) (by kernel_rfl)
theorem zkg:CallsD Gs prog 59 [wa2 sx12] (parR ex12):=
 CallsD.uzE 5 (cs:=[cI 3,cI 0,zS,cS ⟨⟨[102]⟩⟩,(.sl 5 [[cI 1,cI 0,zS,cS ⟨⟨[97]⟩⟩,.zc]])]) (CallsD.fv (N:=1000) (n:=60) OkD.none (by kernel_rfl)) (by kernel_rfl)
end Go.Hp.T
namespace Go.Hp.T
open Go Go.RowKit Go.Slot Go.Hp Go.Slot.T
open Go.Proofs.Tryz (prog)
set_option maxRecDepth 100000
set_option maxHeartbeats 4000000
mutual
def Ex.smB:Ex->Bool
 | .mk _ _ u s l=>Nat.ble l.length 1073741824&&Nat.ble u.size 1073741824&&Nat.ble s.size 1073741824&&Ex.smBL l
def Ex.smBL:List Ex->Bool
 | []=>true
 | x::l=>Ex.smB x&&Ex.smBL l
end
theorem Ex.zxs:∀ l:List Ex,Ex.smBL l=l.all Ex.smB
 | []=>by rw [Ex.smBL];rfl
 | x::l=>by rw [Ex.smBL,Ex.zxs l];rfl
theorem Ex.Sm.of:∀ x:Ex,x.smB=true->x.Sm:=by
 refine Ex.ind ?_;intro x ih h
 cases x with
 | mk o n u s l=>
  rw [Ex.smB,Ex.zxs] at h;simp only [Bool.and_eq_true,Nat.ble_eq,List.all_eq_true] at h;obtain ⟨⟨⟨h1,h2⟩,h3⟩,h4⟩:=h;exact .mk _ h1 h2 h3 (fun y hy=>ih y hy (h4 y hy))
def vz6 (a b:Rs×Int):Bool:=a.1.t==b.1.t&&a.1.i==b.1.i&&decide (a.1.v.map (·.num)=b.1.v.map (·.num))&&decide (a.1.v.map (·.den)=b.1.v.map (·.den))&&decide (a.2=b.2)
theorem zem {a b:Rs×Int} (h:vz6 a b=true):a=b:=by
 obtain ⟨⟨t,i,v⟩,e⟩:=a;obtain ⟨⟨t',i',v'⟩,e'⟩:=b;unfold vz6 at h;simp only [Bool.and_eq_true,beq_iff_eq,decide_eq_true_eq] at h;obtain ⟨⟨⟨⟨rfl,rfl⟩,h1⟩,h2⟩,rfl⟩:=h
 have:v=v':=by
  cases v<;>cases v'<;>simp at h1 h2
  . rfl
  . rw [Rat.ext h1 h2]
 rw [this]
theorem tn0:CallsD Gs prog 28 [.one (cS ⟨⟨[98,32,60,32,53,32,34,107,103,34]⟩⟩)] (rsR (⟨true,true,none⟩,0)):=by
 have h:=xe0 ⟨⟨sx0⟩⟩ ex0 par0 (Ex.Sm.of _ (by kernel_rfl));rw [show valF ex0 bs16 ms16=(⟨true,true,none⟩,0) from zem (by kernel_rfl)] at h;exact h
theorem tn1:CallsD Gs prog 29 [.one (cS ⟨⟨[97,32,43,32,50]⟩⟩),.one (cI 8),.one (cI 1)] (.one (cB true)):=w7e ⟨⟨sx1⟩⟩ ex1 8 1 (by decide) (by decide) (by decide) par1 (Ex.Sm.of _ (by kernel_rfl)) (zem (by kernel_rfl))
theorem tn2:CallsD Gs prog 29 [.one (cS ⟨⟨[40,97,32,45,32,122,41,32,47,32,52]⟩⟩),.one (cI 3),.one (cI 2)] (.one (cB true)):=w7e ⟨⟨sx2⟩⟩ ex2 3 2 (by decide) (by decide) (by decide) par2 (Ex.Sm.of _ (by kernel_rfl)) (zem (by kernel_rfl))
theorem tn3:CallsD Gs prog 29 [.one (cS ⟨⟨[108,111,111,107,40,103,114,105,100,44,32,97,41]⟩⟩),.one (cI 5),.one (cI 1)] (.one (cB true)):=w7e ⟨⟨sx3⟩⟩ ex3 5 1 (by decide) (by decide) (by decide) par3 (Ex.Sm.of _ (by kernel_rfl)) (zem (by kernel_rfl))
theorem tn4:CallsD Gs prog 30 [.one (cS ⟨⟨[108,111,111,107,40,103,114,105,100,44,32,48,32,45,32,97,41]⟩⟩),.one (cI 4)] (.one (cB true)):=z17r ⟨⟨sx4⟩⟩ ex4 4 par4 (Ex.Sm.of _ (by kernel_rfl)) (zem (by kernel_rfl))
theorem tn5:CallsD Gs prog 30 [.one (cS ⟨⟨[97,32,47,32,122]⟩⟩),.one (cI 15)] (.one (cB true)):=z17r ⟨⟨sx5⟩⟩ ex5 15 par5 (Ex.Sm.of _ (by kernel_rfl)) (zem (by kernel_rfl))
theorem tn6:CallsD Gs prog 29 [.one (cS ⟨⟨[105,102,32,40,122,32,61,32,48,41,32,116,104,101,110,32,97,32,101,108,115,101,32,40,97,32,47,32,122,41]⟩⟩),.one (cI 6),.one (cI 1)] (.one (cB true)):=w7e ⟨⟨sx6⟩⟩ ex6 6 1 (by decide) (by decide) (by decide) par6 (Ex.Sm.of _ (by kernel_rfl)) (zem (by kernel_rfl))
theorem tn7:CallsD Gs prog 30 [.one (cS ⟨⟨[40,49,32,47,32,122,41,32,43,32,40,97,32,97,110,100,32,97,41]⟩⟩),.one (cI 15)] (.one (cB true)):=z17r ⟨⟨sx7⟩⟩ ex7 15 par7 (Ex.Sm.of _ (by kernel_rfl)) (zem (by kernel_rfl))
theorem tn8:CallsD Gs prog 30 [.one (cS ⟨⟨[40,97,32,97,110,100,32,97,41,32,43,32,40,49,32,47,32,122,41]⟩⟩),.one (cI 13)] (.one (cB true)):=z17r ⟨⟨sx8⟩⟩ ex8 13 par8 (Ex.Sm.of _ (by kernel_rfl)) (zem (by kernel_rfl))
theorem tn9:CallsD Gs prog 30 [.one (cS ⟨⟨[99]⟩⟩),.one (cI 11)] (.one (cB true)):=z17r ⟨⟨sx9⟩⟩ ex9 11 par9 (Ex.Sm.of _ (by kernel_rfl)) (zem (by kernel_rfl))
theorem tn10:CallsD Gs prog 30 [.one (cS ⟨⟨[53,32,34,107,120,34]⟩⟩),.one (cI 14)] (.one (cB true)):=z17r ⟨⟨sx10⟩⟩ ex10 14 ycv (Ex.Sm.of _ (by kernel_rfl)) (zem (by kernel_rfl))
theorem tn11:CallsD Gs prog 30 [.one (cS ⟨⟨[105,102,32,97,32,116,104,101,110,32,99,32,101,108,115,101,32,99]⟩⟩),.one (cI 13)] (.one (cB true)):=z17r ⟨⟨sx11⟩⟩ ex11 13 vnf (Ex.Sm.of _ (by kernel_rfl)) (zem (by kernel_rfl))
theorem tn12:CallsD Gs prog 30 [.one (cS ⟨⟨[102,40,97,41]⟩⟩),.one (cI 2)] (.one (cB true)):=z17r ⟨⟨sx12⟩⟩ ex12 2 zkg (Ex.Sm.of _ (by kernel_rfl)) (zem (by kernel_rfl))
theorem x4g:CallsD Gs prog 9 [] (.one (cB true)):=by
 refine CallsD.run [] Go.Proofs.Tryz.func9 rfl rfl rfl ?_;simp only [Go.Proofs.Tryz.f9];refine hgR ?_
 repeat' ((first | refine hfk ?_ ?_<;>intros | refine hik ?_ | with_reducible first | refine v6l (tn0) ?_ | refine vgi (tn0) ?_ | refine v6l (tn1) ?_ | refine vgi (tn1) ?_ | refine v6l (tn2) ?_ | refine vgi (tn2) ?_ | refine v6l (tn3) ?_ | refine vgi (tn3) ?_ | refine v6l (tn4) ?_ | refine vgi (tn4) ?_ | refine v6l (tn5) ?_ | refine vgi (tn5) ?_ | refine v6l (tn6) ?_ | refine vgi (tn6) ?_ | refine v6l (tn7) ?_ | refine vgi (tn7) ?_ | refine v6l (tn8) ?_ | refine vgi (tn8) ?_ | refine v6l (tn9) ?_ | refine vgi (tn9) ?_ | refine v6l (tn10) ?_ | refine vgi (tn10) ?_ | refine v6l (tn11) ?_ | refine vgi (tn11) ?_ | refine v6l (tn12) ?_ | refine vgi (tn12) ?_)<;>refine hgS ?_)
 all_goals refine lfE ?_;first | exact trivial | rfl
end Go.Hp.T
namespace Go.Hp.T
open Go Go.RowKit Go.Slot Go.Hp Go.Slot.T
open Go.Proofs.Tryz (prog)
set_option maxRecDepth 10000
set_option maxHeartbeats 4000000
variable {Γ:List (Nat×List Cell)}
variable {o:Int}
theorem wuu (v:Option Rat) (e:Int):CallsD Γ prog 79 [.agg (qC v),.one (cI e)] (rsR (numV v e)):=by
 refine CallsD.run [] Go.Proofs.Tryz.func79 rfl rfl rfl ?_;simp only [Go.Proofs.Tryz.f79];refine hgR ?_
 repeat' ((first | refine hfk ?_ ?_<;>intros | refine hik ?_)<;>refine hgS ?_)
 all_goals first
  | exact rsEq (by (refine bs2 @numV.eq_def @Rs.zero.eq_def ?_;try exact trivial))
  | refine lf1 @numV.eq_def ?_;first | exact trivial | rfl
theorem z07r (b:Bool):CallsD Γ prog 103 [.one (cB b)] (rsR (truV b)):=by
 refine CallsD.run [] Go.Proofs.Tryz.func103 rfl rfl rfl ?_;simp only [Go.Proofs.Tryz.f103];refine hgR ?_
 repeat' ((first | refine hfk ?_ ?_<;>intros | refine hik ?_)<;>refine hgS ?_)
 all_goals exact rsEq rfl
structure BdOk (bs:List Bd) (V:Vq):Prop where
 l:bs.length<=1073741824
 ok:∀ b∈bs,∃ q,b.v=qF (some q)
 v:∀ s,ycr V s=(fnd Bd.name bs s).map (fun b=>b.v.val)
theorem vfy (x:Ex) (bs:List Bd) (V:Vq) (hx:x.Sm) (hb:BdOk bs V) (h01:x.op=0\/x.op=1) (hn:inI x.n):CallsD Γ prog 75 [.agg (exC x),.one (.sl 5 (bs.map Bd.C))] (rsR (bif decide (x.op=0) then xoq x.n x.unit else y21 V x.name)):=by
 have hu:=hx.u
 rcases h01 with h0 | h1
 . rw [decide_eq_true h0,cond_true]
   rcases veq x.unit with ⟨u,h,hq⟩ | ⟨e,he,h⟩
   . have hr:=vbh (Γ:=Γ) hu h
     have e1:xoq x.n x.unit=(⟨false,false,mulO (some (x.n:Rat)) (some u.f)⟩,0):=by unfold xoq facO;rw [h];rfl
     have hz:=wtn hn;have hm:=pMul (Γ:=Γ) (some (x.n:Rat)) (some u.f) (by omega) (by show qs u.f<=_;omega);have ho:=pInt (Γ:=Γ) x.n hn;rw [e1];refine CallsD.run [] Go.Proofs.Tryz.func75 rfl rfl rfl ?_;simp only [Go.Proofs.Tryz.f75];refine hgR ?_
     repeat' ((first | refine hfk ?_ ?_<;>intros | refine hik ?_ | with_reducible first | refine v6l (hr) ?_ | refine vgi (hr) ?_ | refine v6l (ho) ?_ | refine vgi (ho) ?_ | refine v6l (hm) ?_ | refine vgi (hm) ?_)<;>refine hgS ?_)
     all_goals first
      | (exfalso;omega)
      | refine lfE ?_;first | exact trivial | rfl
   . have hr:=zeq (Γ:=Γ) x.unit hu;rw [h] at hr
     have e1:xoq x.n x.unit=(Rs.zero,14):=by unfold xoq;rw [h];simp only [decide_eq_true he,cond_true]
     rw [e1];refine CallsD.run [] Go.Proofs.Tryz.func75 rfl rfl rfl ?_;simp only [Go.Proofs.Tryz.f75];refine hgR ?_
     repeat' ((first | refine hfk ?_ ?_<;>intros | refine hik ?_ | with_reducible first | refine v6l (hr) ?_ | refine vgi (hr) ?_)<;>refine hgS ?_)
     all_goals first
      | (exfalso;omega)
      | exact rsEq rfl
 . have h0:¬x.op=0:=by omega
   rw [decide_eq_false h0,cond_false];generalize hR:y21 V x.name=R;have hl:=hb.l;refine CallsD.run [] Go.Proofs.Tryz.func75 rfl rfl rfl ?_;simp only [Go.Proofs.Tryz.f75];refine hgR ?_
   repeat' ((first | refine hfk ?_ ?_<;>intros | refine hik ?_)<;>refine hgS ?_)
   all_goals try (exfalso;omega)
   refine y55 [1,2,4] (fun n:Nat=>[(10,.one (.dat (cI n)))]) (fun _=>[.box ((exC x).map .dat) (some 24),.box ((rsZ false false).map .dat) (some 35)]) (fun n=>n<=bs.length/\∀ j,j<n->seq (bs.getD j default).name x.name=false) (fun n=>bs.length-n) 0 ⟨Nat.zero_le _,fun j hj=>by omega⟩ ?_ ?_
   . refine hg ?_;exact StH.same svl (by first | rfl | rw [h1])
   rintro n ⟨hn,hj⟩;refine hg ?_;refine vnx (fun hlt _=>?_) (fun hlt _=>?_)
   . obtain ⟨q,hq⟩:=hb.ok _ (w4t (show n<bs.length by omega))
     have hfound:=fun h=>wex (nm:=Bd.name) (s:=x.name) (show n<bs.length by omega) hj h
     have hnext:=fun h=>xf4 (p:=fun j=>seq (bs.getD j default).name x.name=false) hj h
     have hv:=hb.v x.name;clear hb hj;refine hg ?_
     repeat' ((first | refine hfk ?_ ?_<;>intros | refine hik ?_)<;>refine hgS ?_)
     . rename_i h
       have e:R=(⟨false,false,some q⟩,0):=by
        rw [<-hR];unfold y21;rw [hv,hfound h];show numV (some ((bs.getD n default).v.val+((0:Int):Rat))) 0=_;rw [hq];rw [show (qF (some q)).val=q from Fc.w2h q,show q+((0:Int):Rat)=q from Rat.add_zero q];rfl
       rw [e];exact RLe.ofEq rfl
     . rename_i h;exact ⟨n+1,⟨by omega,hnext h⟩,by omega,StH.same svl rfl⟩
   . have e:n=bs.length:=by omega
     subst e
     have e:R=(⟨false,false,none⟩,11):=by
      rw [<-hR];unfold y21;rw [hb.v,wtx hj];rfl
     rw [e];refine hg ?_;exact rsEq rfl
def v3b (o:Int) (l:List Rs):Rs×Int:=bif decide (o=4)||decide (o=14)||decide (o=15) then logV o l else ariV o (l.getD 0 default) (l.getD 1 default)
theorem wsn {l:List Rs} (h1:l.length=2) (ho:o=14\/o=15) (h:(l.getD 0 default).t=true) (h':(l.getD 1 default).t=true):logV o l=truV (bif decide (o=14) then (l.getD 0 default).i&&(l.getD 1 default).i else (l.getD 0 default).i||(l.getD 1 default).i):=by
 match l,h1 with
 | [a,b],_=>
  have q1:a.t=true:=h;have q2:b.t=true:=h';unfold logV
  rcases ho with rfl | rfl<;>simp [q1,q2]
theorem zwp {a b:Rs} (h:a.t=true\/b.t=true):ariV o a b=(Rs.zero,13):=by
 unfold ariV
 rcases h with h | h<;>rw [h]<;>simp
theorem xpo (o:Int) (va vb:Option Rat) (ia ib:Bool) (ho:o=6\/o=7\/o=8\/o=9\/o=10\/o=11\/o=12\/o=13) (ha:qz va<=67108864) (hb:qz vb<=67108864) (r:Rs×Int) (hr:r=ariV o ⟨false,ia,va⟩ ⟨false,ib,vb⟩):CallsD Γ prog 51 [.one (cI o),.one (.sl 6 [rsC ⟨false,ia,va⟩,rsC ⟨false,ib,vb⟩])] (rsR r):=by
 have c1:=pAdd (Γ:=Γ) va vb ha hb;have c2:=pSub (Γ:=Γ) va vb ha hb;have c3:=pMul (Γ:=Γ) va vb ha hb;have c4:=pDiv (Γ:=Γ) va vb ha hb;have c5:=pMin (Γ:=Γ) va vb ha hb;have c6:=pMax (Γ:=Γ) va vb ha hb;have c7:=pCmp (Γ:=Γ) va vb ha hb;have c8:=zpb va vb
 have hr:r=bif decide (o=6) then numV (addO va vb) (erO va vb) else bif decide (o=7) then numV (subO va vb) (erO va vb) else bif decide (o=8) then numV (mulO va vb) (erO va vb) else bif decide (o=9) then numV (divO va vb) (divE va vb) else bif decide (o=10) then numV (minO va vb) (erO va vb) else bif decide (o=11) then numV (maxO va vb) (erO va vb) else bif decide (o=12) then truV (decide (cmpO va vb<0)) else truV (decide (cmpO va vb=0)):=hr
 generalize addO va vb=v1 at *;generalize subO va vb=v2 at *;generalize mulO va vb=v3 at *;generalize divO va vb=v4 at *;generalize minO va vb=v5 at *;generalize maxO va vb=v6 at *;generalize cmpO va vb=v7 at *;generalize erO va vb=e1 at *;generalize divE va vb=e2 at *
 rcases ho with rfl | rfl | rfl | rfl | rfl | rfl | rfl | rfl
 all_goals
  simp only [Int.reduceEq,decide_true,decide_false,cond_true,cond_false] at hr;subst hr;refine CallsD.run [] Go.Proofs.Tryz.func51 rfl rfl rfl ?_;simp only [Go.Proofs.Tryz.f51];refine hgR ?_
  repeat' ((first | refine hfk ?_ ?_<;>intros | refine hik ?_ | with_reducible refine zum ?_ | with_reducible refine v3j ?_ | with_reducible first | refine v6l (c1) ?_ | refine vgi (c1) ?_ | refine v6l (c2) ?_ | refine vgi (c2) ?_ | refine v6l (c3) ?_ | refine vgi (c3) ?_ | refine v6l (c4) ?_ | refine vgi (c4) ?_ | refine v6l (c5) ?_ | refine vgi (c5) ?_ | refine v6l (c6) ?_ | refine vgi (c6) ?_ | refine v6l (c7) ?_ | refine vgi (c7) ?_ | refine v6l (wuu _ _) ?_ | refine vgi (wuu _ _) ?_ | refine v6l (z07r _) ?_ | refine vgi (z07r _) ?_)<;>refine hgS ?_)
  refine lfE ?_;first | exact trivial | rfl
theorem z09r (o:Int) (va vb:Option Rat) (ia ib:Bool) (ho:o=14\/o=15):CallsD Γ prog 51 [.one (cI o),.one (.sl 6 [rsC ⟨true,ia,va⟩,rsC ⟨true,ib,vb⟩])] (rsR (truV (bif decide (o=14) then ia&&ib else ia||ib))):=by
 rcases ho with rfl | rfl<;>cases ia
 all_goals
  refine CallsD.run [] Go.Proofs.Tryz.func51 rfl rfl rfl ?_;simp only [Go.Proofs.Tryz.f51];refine hgR ?_
  repeat' ((first | refine hfk ?_ ?_<;>intros | refine hik ?_ | with_reducible refine zum ?_ | with_reducible refine v3j ?_ | with_reducible first | refine v6l (z07r _) ?_ | refine vgi (z07r _) ?_)<;>refine hgS ?_)
  exact RLe.ofEq rfl
theorem wuq (va:Option Rat) (ia:Bool):CallsD Γ prog 51 [.one (cI 4),.one (.sl 6 [rsC ⟨true,ia,va⟩])] (rsR (truV (!ia))):=by
 cases ia
 all_goals
  refine CallsD.run [] Go.Proofs.Tryz.func51 rfl rfl rfl ?_;simp only [Go.Proofs.Tryz.f51];refine hgR ?_
  repeat' ((first | refine hfk ?_ ?_<;>intros | refine hik ?_ | with_reducible refine zum ?_ | with_reducible refine v3j ?_ | with_reducible first | refine v6l (z07r _) ?_ | refine vgi (z07r _) ?_)<;>refine hgS ?_)
  exact RLe.ofEq rfl
theorem wbv (va:Option Rat) (ia:Bool):CallsD Γ prog 51 [.one (cI 4),.one (.sl 6 [rsC ⟨false,ia,va⟩])] (rsR (⟨false,false,none⟩,13)):=by
 refine CallsD.run [] Go.Proofs.Tryz.func51 rfl rfl rfl ?_;simp only [Go.Proofs.Tryz.f51];refine hgR ?_
 repeat' ((first | refine hfk ?_ ?_<;>intros | refine hik ?_ | with_reducible refine zum ?_ | with_reducible refine v3j ?_)<;>refine hgS ?_)
 exact rsEq rfl
theorem wbe (o:Int) (a b:Rs) (h:(6<=o/\o<=13/\(a.t=true\/b.t=true))\/((o=14\/o=15)/\(a.t=false\/b.t=false))):CallsD Γ prog 51 [.one (cI o),.one (.sl 6 [rsC a,rsC b])] (rsR (⟨false,false,none⟩,13)):=by
 obtain ⟨ta,ia,va⟩:=a;obtain ⟨tb,ib,vb⟩:=b;simp only at h
 rcases h with ⟨h1,h2,h⟩ | ⟨h1,h⟩
 . have ho:o=6\/o=7\/o=8\/o=9\/o=10\/o=11\/o=12\/o=13:=by omega
   clear h1 h2
   cases ta
   . have h:tb=true:=by rcases h with h | h;cases h;exact h
     subst h
     rcases ho with rfl | rfl | rfl | rfl | rfl | rfl | rfl | rfl
     all_goals
      refine CallsD.run [] Go.Proofs.Tryz.func51 rfl rfl rfl ?_;simp only [Go.Proofs.Tryz.f51];refine hgR ?_
      repeat' ((first | refine hfk ?_ ?_<;>intros | refine hik ?_ | with_reducible refine zum ?_ | with_reducible refine v3j ?_)<;>refine hgS ?_)
      exact rsEq rfl
   . clear h
     rcases ho with rfl | rfl | rfl | rfl | rfl | rfl | rfl | rfl
     all_goals
      refine CallsD.run [] Go.Proofs.Tryz.func51 rfl rfl rfl ?_;simp only [Go.Proofs.Tryz.f51];refine hgR ?_
      repeat' ((first | refine hfk ?_ ?_<;>intros | refine hik ?_ | with_reducible refine zum ?_ | with_reducible refine v3j ?_)<;>refine hgS ?_)
      exact rsEq rfl
 . cases ta
   . rcases h1 with rfl | rfl
     all_goals
      refine CallsD.run [] Go.Proofs.Tryz.func51 rfl rfl rfl ?_;simp only [Go.Proofs.Tryz.f51];refine hgR ?_
      repeat' ((first | refine hfk ?_ ?_<;>intros | refine hik ?_ | with_reducible refine zum ?_ | with_reducible refine v3j ?_)<;>refine hgS ?_)
      exact rsEq rfl
   . have h:tb=false:=by rcases h with h | h;cases h;exact h
     subst h
     rcases h1 with rfl | rfl
     all_goals
      refine CallsD.run [] Go.Proofs.Tryz.func51 rfl rfl rfl ?_;simp only [Go.Proofs.Tryz.f51];refine hgR ?_
      repeat' ((first | refine hfk ?_ ?_<;>intros | refine hik ?_ | with_reducible refine zum ?_ | with_reducible refine v3j ?_)<;>refine hgS ?_)
      exact rsEq rfl
theorem x0l (o:Int) (l:List Rs) (hl:(o=4/\l.length=1)\/(6<=o/\o<=15/\l.length=2)) (hq:∀ r∈l,qz r.v<=67108864):CallsD Γ prog 51 [.one (cI o),.one (.sl 6 (l.map Rs.C))] (rsR (v3b o l)):=by
 rcases hl with ⟨rfl,h1⟩ | ⟨h6,h15,h2⟩
 . match l,h1 with
   | [⟨false,ia,va⟩],_=>exact wbv va ia
   | [⟨true,ia,va⟩],_=>
    rw [show v3b 4 [⟨true,ia,va⟩]=truV (!ia) by cases ia<;>rfl];exact wuq va ia
 . match l, h2 with
   | [a, b], _ =>
    have ha:=hq a (by simp);have hb:=hq b (by simp);by_cases ho:o=14\/o=15
    . have e1:v3b o [a,b]=logV o [a,b]:=by
       unfold v3b
       rcases ho with rfl | rfl<;>rfl
      by_cases hbad:a.t=false\/b.t=false
      . rw [e1,show logV o [a,b]=(⟨false,false,none⟩,13) by
         unfold logV
         rw [show [a,b].any (fun r=>!r.t)=true by rcases hbad with h | h<;>simp [h]];rfl]
        exact wbe o a b (.inr ⟨ho,hbad⟩)
      . have h1:a.t=true:=by cases h:a.t with
         | true=>rfl
         | false=>exact absurd (.inl h) hbad
        have h2:b.t=true:=by cases h:b.t with
         | true=>rfl
         | false=>exact absurd (.inr h) hbad
        rw [e1,wsn (l:=[a,b]) rfl ho h1 h2];obtain ⟨ta,ia,va⟩:=a;obtain ⟨tb,ib,vb⟩:=b;simp only at h1 h2;subst h1 h2;exact z09r o va vb ia ib ho
    . have e1:v3b o [a,b]=ariV o a b:=by
       unfold v3b;rw [show (decide (o=4)||decide (o=14)||decide (o=15))=false by simp only [Bool.or_eq_false_iff,decide_eq_false_iff_not];omega];rfl
      rw [e1];by_cases hbad:a.t=true\/b.t=true
      . rw [zwp hbad];exact wbe o a b (.inl ⟨h6,by omega,hbad⟩)
      . have h1:a.t=false:=by cases h:a.t with
         | false=>rfl
         | true=>exact absurd (.inl h) hbad
        have h2:b.t=false:=by cases h:b.t with
         | false=>rfl
         | true=>exact absurd (.inr h) hbad
        obtain ⟨ta,ia,va⟩:=a;obtain ⟨tb,ib,vb⟩:=b;simp only at h1 h2 ha hb;subst h1 h2;exact xpo o va vb ia ib (by omega) ha hb _ rfl
end Go.Hp.T
