/- The proof, part Q33: Nf, Gc, Gn, Gd, Gt. -/
import Derived.Test.YtmegdbbbllffkaaGreatQ32
import Derived.Test.YtmegdbbbllffkaaGreatQ25
namespace Go.Hp
open Go Go.RowKit Go.Slot
variable {P:Program} {Γ:List (Nat×List Cell)} {e:List SB}
theorem vfe.ro (φ:List Nat) {f:FuncId} {η ηs:List SB} {args:List SV} {res:SV} (h:vfe Γ P f ηs args ηs res) (hs:∀ r,ηs.map (rnSB r)=ηs) (hn:φ.Nodup) (hb:(φ.all fun j=>Nat.blt j η.length)=true) (hp:φ.map (fun j=>η[j]?)=ηs.map some) :
 vfe Γ P f η (args.map (yo9 (atR φ η.length))) η (rnSV (atR φ η.length) res):=by
 have hfix:∀(r:Nat->Nat) (x:SB),x∈ηs->rnSB r x=x:=fun r x hx=>by
  obtain ⟨i,hi,rfl⟩:=List.getElem_of_mem hx
  have:=congrArg (fun l=>l[i]?) (hs r)
  simp only [List.getElem?_map,List.getElem?_eq_getElem hi,Option.map_some] at this;exact Option.some.inj this
 have hb':∀ j∈φ,j<η.length:=fun j hj=>by simpa using List.all_eq_true.1 hb j hj
 have hp':φ.map (fun j=>η[j]?)=ηs.map (fun x=>some (rnSB (atR φ η.length) x)):=by
  rw [hp];exact List.map_congr_left (fun x hx=>by rw [hfix _ x hx])
 have hk:=yp3.of hp';have hc:=vfe.frame hn hb' hk (by rw [hk.1];exact Nat.le_refl _) h
 have hput:putR φ η ηs=η:=by
  apply List.ext_getElem?;intro i;by_cases hi2:i<η.length
  . by_cases hi:i∈φ
    . obtain ⟨k,hk2,rfl⟩:=List.getElem_of_mem hi
      have hkl:k<ηs.length:=by rw [hk.1];exact hk2
      have h1:=y6r (ηs':=ηs) hn hb' (List.getElem?_eq_getElem hkl);rw [v84 (List.getElem?_eq_getElem hk2),hfix _ _ (List.getElem_mem hkl)] at h1;rw [h1];have h2:=congrArg (fun l=>l[k]?) hp;simp only [List.getElem?_map,List.getElem?_eq_getElem hk2,List.getElem?_eq_getElem hkl,Option.map_some] at h2;exact (Option.some.inj h2).symm
    . exact xxa hi2 hi
  . rw [List.getElem?_eq_none (by rw [yvj,hk.1];omega),List.getElem?_eq_none (by omega)]
 rw [hput] at hc;exact hc
theorem StH.cutN {σ σ':List SV} {η η':List SB} (ks:List Nat) (m:Nat) (hm:Nat.ble e.length m=true) (h:x2g m (wue ks 0 σ) η=true) (hk:StH Γ e (wue ks 0 σ) (η.take m) σ' η'):StH Γ e σ η σ' η':=
 StH.trans (StH.only ks) (StH.trans (StH.cutB m (by simpa using hm) h) hk)
theorem StH.tup1 {l l':List SV} {η:List SB} (h:vma l l'):StH Γ e [.tup l] η [.tup l'] η:=fun E ρ a w hE hR=>⟨ρ,hR.hd,hR.hs,fun i x hi=>by
 cases i with
 | zero=>
  simp only [List.getElem?_cons_zero,Option.some.injEq] at hi;subst hi;obtain ⟨vs,hv,hr⟩:=hR.slot 0 (.tup l) rfl;exact ⟨vs,hv,SRL.le h hr⟩
 | succ i=>simp at hi,hR.went⟩
theorem vg8 {a b:Nat}:Nat.blt a b=decide (a<b):=by
 by_cases h:a<b
 . rw [decide_eq_true h];simpa using h
 . rw [decide_eq_false h]
   cases hh:Nat.blt a b with
   | false=>rfl
   | true=>exact absurd (by simpa using hh) h
end Go.Hp
namespace Go.Hp.T
open Go Go.RowKit Go.Slot Go.Hp Go.Slot.T
open Go.Proofs.Tryz (prog)
set_option maxRecDepth 10000
set_option maxHeartbeats 4000000
variable {Γ:List (Nat×List Cell)}
theorem zli (l:List (ByteArray×Dm)):z0y (.map (envE l))=[]:=by
 show (envE l).flatMap (fun p=>vp6 p.2)=[]
 induction l with
 | nil=>rfl
 | cons p l ih=>show vp6 _++(envE l).flatMap _=[];rw [ih];rfl
theorem x5y (i j:Nat) (l:List (ByteArray×Dm)):swSB i j (.map (envE l))=.map (envE l):=by
 have:(envE l).map (fun p=>(p.1,wmz i j p.2))=envE l:=by
  induction l with
  | nil=>rfl
  | cons p l ih=>show _::(envE l).map _=_;rw [ih];rfl
 show SB.map _=_;rw [this]
theorem wvc {η:List SB} {h1 h2:HC}:StH Γ [] [SV.tup [.agg [h1,h2],.one (.dat (cB false))]] η [SV.tup [.agg [.any,.any],.one (.dat (cB false))]] []:=
 StH.trans (StH.tup1 (l':=[.agg [.any,.any],.one (.dat (cB false))]) (.cons (.agg (.cons (.any _) (.cons (.any _) .nil))) (.cons (.refl _) .nil))) (by
  have:=StH.cutB (Γ:=Γ) (e:=[]) (σ:=[SV.tup [.agg [.any,.any],.one (.dat (cB false))]]) (η:=η) 0 (Nat.le_refl _) (by unfold x2g;rfl)
  exact this)
theorem ysm (l:List HC) (T:Option TypeId):z0y (.box l T)=l.flatMap yj9:=rfl
theorem zsq (c:Cell) (k:Nat) (T:Option TypeId):z0y (.arr c k T)=[]:=rfl
theorem v2a:z0y .dead=[]:=rfl
attribute [go_sem] x2g vp6 yj9 zli ysm zsq v2a vg8 List.flatMap_cons List.flatMap_nil List.all_append
attribute [go_sem 20000] x5y xn1
def rV (V:List (ByteArray×Dm)):List Vr->Option (List (ByteArray×Dm))
 | []=>some V
 | v::l=>bif !isName v.name||isWord v.name||!zmf v.d then none else rV (updF V v.name v.d) l
def rT (V T:List (ByteArray×Dm)):List Tb->Option (List (ByteArray×Dm))
 | []=>some T
 | t::l=>bif (ycr V t.name).isSome||decide (¬(zth t.unit).2=0)||!zi4 (fun s=>(zth s).2) t||isWord t.name then none else rT V (updF T t.name (dmO (zth t.unit).1)) l
def yk9 (vs:List Vr) (ms:List Tb):Option (List (ByteArray×Dm)×List (ByteArray×Dm)):=match rV [] vs with
 | none=>none
 | some V=>match rT V [] ms with
  | none=>none
  | some T=>bif decide ((V.length:Int)=vs.length)&&decide ((T.length:Int)=ms.length) then some (V,T) else none
def z1w:Option (List (ByteArray×Dm)×List (ByteArray×Dm))->List SB
 | none=>[]
 | some p=>[mE p.1,mE p.2]
def vek:Option (List (ByteArray×Dm)×List (ByteArray×Dm))->SV
 | none=>.tup [.agg [.any,.any],.one (.dat (cB false))]
 | some _=>.tup [.agg [.mp 0,.mp 1],.one (.dat (cB true))]
theorem w7v (V T:List (ByteArray×Dm)) (a d:SB) (b:Bool):StH Γ [] [SV.tup [.agg [.mp 1,.mp 2],.one (.dat (cB b))]] [a,mE V,mE T,d] [SV.tup [.agg [.mp 0,.mp 1],.one (.dat (cB b))]] [mE V,mE T]:=by
 have e1:swL 0 1 [a,mE V,mE T,d]=[mE V,swSB 0 1 a,mE T,swSB 0 1 d]:=by
  show [swSB 0 1 (mE V),swSB 0 1 a,swSB 0 1 (mE T),swSB 0 1 d]=_;rw [x5y,x5y]
 have e2:swL 1 2 [mE V,swSB 0 1 a,mE T,swSB 0 1 d]=[mE V,mE T,swSB 1 2 (swSB 0 1 a),swSB 1 2 (swSB 0 1 d)]:=by
  show [swSB 1 2 (mE V),swSB 1 2 (mE T),swSB 1 2 (swSB 0 1 a),swSB 1 2 (swSB 0 1 d)]=_;rw [x5y,x5y]
 have h1:=StH.xn2 (Γ:=Γ) (e:=[]) (σ:=[SV.tup [.agg [.mp 1,.mp 2],.one (.dat (cB b))]]) (η:=[a,mE V,mE T,d]) (i:=0) (j:=1) (by decide) (by decide) (by simp) (by simp);have h2:=StH.xn2 (Γ:=Γ) (e:=[]) (σ:=[SV.tup [.agg [.mp 0,.mp 2],.one (.dat (cB b))]]) (η:=[mE V,swSB 0 1 a,mE T,swSB 0 1 d]) (i:=1) (j:=2) (by decide) (by decide) (by simp) (by simp)
 have h3:=StH.cutB (Γ:=Γ) (e:=[]) (σ:=[SV.tup [.agg [.mp 0,.mp 1],.one (.dat (cB b))]]) (η:=[mE V,mE T,swSB 1 2 (swSB 0 1 a),swSB 1 2 (swSB 0 1 d)]) 2 (by decide) (by
  unfold x2g;show (_&&([mE V,mE T].all fun x=>(z0y x).all fun b=>Nat.blt b 2))=true
  simp only [List.all_cons,zli,List.all_nil];rfl)
 rw [e1] at h1;rw [e2] at h2;exact h1.trans (h2.trans h3)
structure Tb.Sm (t:Tb):Prop where
 n:t.name.size<=1073741824
 u:t.unit.size<=1073741824
 r:t.rows.length<=1073741824
theorem y7k (vs:List Vr) (ms:List Tb) (hv:vs.length<=1073741824) (hm:ms.length<=1073741824) (hvn:∀ v∈vs,v.name.size<=1073741824) (hms:∀ t∈ms,t.Sm) :
 vfe Γ prog 47 [] [.one (.dat (.sl 7 (vs.map Vr.C))),.one (.dat (.sl 3 (ms.map Tb.C)))] (z1w (yk9 vs ms)) (vek (yk9 vs ms)):=by
 refine vfe.run [] Go.Proofs.Tryz.func47 rfl rfl ?_;simp only [Go.Proofs.Tryz.f47];refine hgR ?_;refine y55 [0,1,4,6,18,19] (fun p:Nat×List (ByteArray×Dm)=>[(20,.one (.dat (cI p.1)))]) (fun p=>[.box [.dat (.raw (.map none)),.dat (.raw (.map none))] (some 103),mE p.2,mE [],.box [.mp 1,.mp 2] (some 103)])
  (fun p=>p.1<=vs.length/\rV [] vs=rV p.2 (vs.drop p.1)) (fun p=>vs.length-p.1) (0,[]) ⟨Nat.zero_le _,rfl⟩ ?_ ?_
 . refine hg ?_;exact StH.same svl rfl
 rintro ⟨i,V⟩ ⟨h1,h2⟩;simp only at h1 h2;refine hg ?_;refine vnx (fun hlt _=>?_) (fun hlt _=>?_)
 . have hlt' : i < vs.length := by omega
   have hy:=hvn _ (w4t hlt');rw [xqz hlt',rV] at h2;refine hg ?_
   have bad:rV [] vs=none->yk9 vs ms=none:=fun h=>by unfold yk9;rw [h]
   repeat' ((first | refine hfk ?_ ?_<;>intros | refine hik ?_ | with_reducible first | refine v6l (vv6 _ (by omega)) ?_ | refine vgi (vv6 _ (by omega)) ?_ | refine v6l (v7c _) ?_ | refine vgi (v7c _) ?_ | refine v6l (ygx _) ?_ | refine vgi (ygx _) ?_)<;>refine hgS ?_)
   all_goals first
    | (rw [bad (by rw [h2];(refine bsE ?_;try exact trivial))];exact wvc)
    | (refine ⟨(i+1,updF V (vs.getD i default).name (vs.getD i default).d),⟨by dsimp only;omega,rfl⟩,by dsimp only;omega,?_⟩
       refine StH.cutN [0,1,4,6,18,19,20] 4 rfl ?_ ?_
       . refine hg ?_;exact trivial
       exact StH.same svl rfl)
 . have hV:rV [] vs=some V:=by rw [h2,List.drop_eq_nil_of_le (by omega)];rfl
   clear h2 h1 hlt
   have bad:rT V [] ms=none->yk9 vs ms=none:=fun h=>by unfold yk9;rw [hV];simp only [h]
   refine hg ?_;refine y55 [0,1,4,6,47,48] (fun p:Nat×List (ByteArray×Dm)=>[(49,.one (.dat (cI p.1)))]) (fun p=>[.box [.dat (.raw (.map none)),.dat (.raw (.map none))] (some 103),mE V,mE p.2,.box [.mp 1,.mp 2] (some 103)])
    (fun p=>p.1<=ms.length/\rT V [] ms=rT V p.2 (ms.drop p.1)) (fun p=>ms.length-p.1) (0,[]) ⟨Nat.zero_le _,rfl⟩ ?_ ?_
   . refine hg ?_;exact StH.same svl rfl
   rintro ⟨j,T⟩ ⟨h1,h2⟩;simp only at h1 h2;refine hg ?_;refine vnx (fun hlt _=>?_) (fun hlt _=>?_)
   . have hlt':j<ms.length:=by omega
     have hy:=hms _ (w4t hlt');rw [xqz hlt',rT] at h2;refine hg ?_;refine v6l (vqa _ hy.u) ?_
     cases hl:ycr V (ms.getD j default).name with
     | none =>
      rw [hl] at h2;refine hg1 @hl ?_
      repeat' ((first | refine hfk ?_ ?_<;>intros | refine hik ?_ | with_reducible first | refine v6l (vv4 _ hy.n hy.u hy.r) ?_ | refine vgi (vv4 _ hy.n hy.u hy.r) ?_ | refine v6l (v7c _) ?_ | refine vgi (v7c _) ?_)<;>refine hgS ?_)
      all_goals first
       | (rw [bad (by rw [h2];((conv=>simp only [Bool.and_true,Bool.true_and,Bool.and_false,Bool.false_and,Bool.or_true,Bool.true_or,Bool.or_false,Bool.false_or,Bool.not_true,Bool.not_false,decide_true,decide_false,not_true_eq_false,not_false_eq_true,wgp,if_true,if_false,Bool.and_self,Bool.or_self,cond_true,cond_false,List.length_map,ne_eq,Int.reduceEq,Int.reduceLT,Int.reduceLE, *,Option.isSome])<;>try exact trivial))];exact wvc)
       | (refine ⟨(j+1,updF T (ms.getD j default).name (dmO (zth (ms.getD j default).unit).1)),⟨by dsimp only;omega,by (try rw [h2]);((conv=>simp only [Bool.and_true,Bool.true_and,Bool.and_false,Bool.false_and,Bool.or_true,Bool.true_or,Bool.or_false,Bool.false_or,Bool.not_true,Bool.not_false,decide_true,decide_false,not_true_eq_false,not_false_eq_true,wgp,if_true,if_false,Bool.and_self,Bool.or_self,cond_true,cond_false,List.length_map,ne_eq,Int.reduceEq,Int.reduceLT,Int.reduceLE, *,Option.isSome])<;>try exact trivial)⟩,by dsimp only;omega,?_⟩
          refine StH.cutN [0,1,4,6,47,48,49] 4 rfl ?_ ?_
          . refine hg ?_;exact trivial
          exact StH.same svl rfl)
     | some d=>
      rw [hl] at h2;refine hg1 @hl ?_
      repeat' ((first | refine hfk ?_ ?_<;>intros | refine hik ?_ | with_reducible first | refine v6l (vv4 _ hy.n hy.u hy.r) ?_ | refine vgi (vv4 _ hy.n hy.u hy.r) ?_ | refine v6l (v7c _) ?_ | refine vgi (v7c _) ?_)<;>refine hgS ?_)
      all_goals
       rw [bad (by rw [h2];((conv=>simp only [Bool.and_true,Bool.true_and,Bool.and_false,Bool.false_and,Bool.or_true,Bool.true_or,Bool.or_false,Bool.false_or,Bool.not_true,Bool.not_false,decide_true,decide_false,not_true_eq_false,not_false_eq_true,wgp,if_true,if_false,Bool.and_self,Bool.or_self,cond_true,cond_false,List.length_map,ne_eq,Int.reduceEq,Int.reduceLT,Int.reduceLE, *,Option.isSome])<;>try exact trivial))];exact wvc
   . have hT:rT V [] ms=some T:=by rw [h2,List.drop_eq_nil_of_le (by omega)];rfl
     clear h2 h1 hlt bad;refine hg ?_
     repeat' ((first | refine hfk ?_ ?_<;>intros | refine hik ?_)<;>refine hgS ?_)
     . rename_i hlv hld;by_cases hlt:(T.length:Int)=ms.length
       . have e:yk9 vs ms=some (V,T):=by unfold yk9;rw [hV];simp only [hT];rw [decide_eq_true hlt,hld];rfl
         rw [e,decide_eq_true hlt];exact w7v V T _ _ true
       . have e:yk9 vs ms=none:=by unfold yk9;rw [hV];simp only [hT];rw [decide_eq_false hlt,Bool.and_false];rfl
         rw [e,decide_eq_false hlt];exact wvc
     . rename_i hlv hld
       have e:yk9 vs ms=none:=by unfold yk9;rw [hV];simp only [hT];rw [hld];rfl
       rw [e];exact wvc
def ofF (x:Ex) (vs:List Vr) (ms:List Tb):Ty×Int:=bif !xub x||x.xi4 then (Ty.zero,2) else match yk9 vs ms with
 | none=>(Ty.zero,1)
 | some p=>x.ty p.1 p.2
theorem yf0 (x:Ex) (vs:List Vr) (ms:List Tb) (hx:x.Sm) (hv:vs.length<=1073741824) (hm:ms.length<=1073741824) (hvn:∀ v∈vs,v.name.size<=1073741824) (hms:∀ t∈ms,t.Sm) :
 CallsD Γ prog 19 [.agg (exC x),.one (.sl 7 (vs.map Vr.C)),.one (.sl 3 (ms.map Tb.C))] (tyR (ofF x vs ms)):=by
 have hr:=y7k (Γ:=Γ) vs ms hv hm hvn hms;refine CallsD.run [] Go.Proofs.Tryz.func19 rfl rfl rfl ?_;simp only [Go.Proofs.Tryz.f19];refine hgR ?_
 repeat' ((first | refine hfk ?_ ?_<;>intros | refine hik ?_ | with_reducible first | refine v6l (xz2 x hx) ?_ | refine vgi (xz2 x hx) ?_ | refine v6l (zfm x hx) ?_ | refine vgi (zfm x hx) ?_)<;>refine hgS ?_)
 . refine lf1 @ofF.eq_def ?_;first | exact trivial | rfl
 . rename_i hr1 hc1
   have hsh:x.shaped=true:=by unfold xub at hr1;rw [Bool.and_eq_true] at hr1;exact hr1.2
   cases hrd:yk9 vs ms with
   | none=>
    rw [hrd] at hr
    have hr2:∀ a b:SB,vfe Γ prog 47 [a,b] [.one (.dat (.sl 7 (vs.map Vr.C))),.one (.dat (.sl 3 (ms.map Tb.C)))] [a,b] (.tup [.agg [.any,.any],.one (.dat (cB false))]):=fun a b=>vfe.at [] (η:=[a,b]) hr (by decide) rfl rfl rfl
    refine xc5 (hr2 _ _) rfl ?_;refine hg ?_
    repeat' ((first | refine hfk ?_ ?_<;>intros | refine hik ?_)<;>refine hgS ?_)
    exact RLe.ofEq (by simp only [ofF,hr1,hc1,hrd];rfl)
   | some p=>
    obtain ⟨V,T⟩:=p;rw [hrd] at hr
    have hr2:∀ a b:SB,vfe Γ prog 47 [a,b] [.one (.dat (.sl 7 (vs.map Vr.C))),.one (.dat (.sl 3 (ms.map Tb.C)))] [a,b,mE V,mE T] (.tup [.agg [.mp 2,.mp 3],.one (.dat (cB true))]):=fun a b=>by
     have h:=vfe.at [] (η:=[a,b]) hr (by decide) rfl rfl rfl
     have e:putR [] [a,b] (z1w (some (V,T)))=[a,b,mE V,mE T]:=by
      show [a,b,rnSB _ (mE V),rnSB _ (mE T)]=_;rw [xn1,xn1]
     rw [e] at h;exact h
    refine xc5 (hr2 _ _) rfl ?_;refine hg ?_;refine xwg (vfe.ro [2,3] (cOf V T x hx hsh hc1) (w1l V T) (by decide) rfl rfl) ?_;refine hg ?_;exact RLe.ofEq (by simp only [ofF,hr1,hc1,hrd];rfl)
 . refine lf1 @ofF.eq_def ?_;first | exact trivial | rfl
end Go.Hp.T
namespace Go.Hp.T
open Go Go.RowKit Go.Slot Go.Hp Go.Slot.T
open Go.Proofs.Tryz (prog)
set_option maxRecDepth 10000
set_option maxHeartbeats 4000000
variable {Γ:List (Nat×List Cell)}
structure Rs where
 t:Bool
 i:Bool
 v:Option Rat
deriving DecidableEq
def Rs.zero:Rs:=⟨false,false,none⟩
instance:Inhabited Rs:=⟨Rs.zero⟩
def Rs.C (x:Rs):List Cell:=cB x.t::cB x.i::qC x.v
abbrev rsC (x:Rs):List Cell:=[cB x.t,cB x.i,.raw (.int .i64 (qF x.v).s),.ints .i64 (qF x.v).L,.raw (.int .i64 (qF x.v).t),.ints .i64 (qF x.v).M]
theorem Rs.C_eq (x:Rs):x.C=rsC x:=rfl
attribute [go_sem] Rs.C_eq
abbrev rsR (r:Rs×Int):AV:=.tup [.agg (rsC r.1),.one (cI r.2)]
abbrev rsS (r:Rs×Int):SV:=.tup [.agg ((rsC r.1).map .dat),.one (.dat (cI r.2))]
abbrev rsZ (t i:Bool):List Cell:=[cB t,cB i,cI 0,.zc,cI 0,.zc]
theorem rsLe {t i:Bool}:AV.Le (.agg (rsZ t i)) (.agg (rsC ⟨t,i,none⟩)):=.agg (.cons (.refl _) (.cons (.refl _) (.cons (.refl _) (.cons (.ysc _) (.cons (.refl _) (.cons (.ysc _) .nil))))))
theorem rsEq {t i:Bool} {e:Int} {r:Rs×Int} (h:r=(⟨t,i,none⟩,e)):RLe (.tup [.agg (rsZ t i),.one (cI e)]) (rsR r):=by
 subst h;exact .tup (.cons rsLe (.cons (.refl _) .nil))
theorem StH.rsZ {e:List SB} {σ':List SV} {η:List SB} {t i:Bool} {n:Int} (h:StH Γ e [rsS (⟨t,i,none⟩,n)] η σ' e):StH Γ e [SV.tup [.agg ((T.rsZ t i).map .dat),.one (.dat (cI n))]] η σ' e:=
 StH.trans (StH.tup1 (l':=[.agg ((rsC ⟨t,i,none⟩).map .dat),.one (.dat (cI n))]) (.cons (.agg (.cons (.refl _) (.cons (.refl _) (.cons (.refl _) (.cons (.dat (.ysc _)) (.cons (.refl _) (.cons (.dat (.ysc _)) .nil))))))) (.cons (.refl _) .nil))) h
def numV (v:Option Rat) (e:Int):Rs×Int:=bif decide (¬e=0) then (Rs.zero,e) else (⟨false,false,v⟩,0)
def truV (b:Bool):Rs×Int:=(⟨true,b,none⟩,0)
def logV (o:Int) (l:List Rs):Rs×Int:=bif l.any (fun r=>!r.t) then (Rs.zero,13) else
 bif decide (o=14) then truV (l.all (·.i)) else bif decide (o=15) then truV (l.any (·.i)) else truV (!l.all (·.i))
def ariV (o:Int) (a b:Rs):Rs×Int:=bif a.t||b.t then (Rs.zero,13) else
 bif decide (o=6) then numV (addO a.v b.v) (erO a.v b.v) else
 bif decide (o=7) then numV (subO a.v b.v) (erO a.v b.v) else
 bif decide (o=8) then numV (mulO a.v b.v) (erO a.v b.v) else
 bif decide (o=9) then numV (divO a.v b.v) (divE a.v b.v) else
 bif decide (o=10) then numV (minO a.v b.v) (erO a.v b.v) else
 bif decide (o=11) then numV (maxO a.v b.v) (erO a.v b.v) else
 bif decide (o=12) then truV (decide (cmpO a.v b.v<0)) else truV (decide (cmpO a.v b.v=0))
theorem w3m (v:Option Rat) (e:Int):CallsD Γ prog 84 [.agg (qC v),.one (cI e)] (rsR (numV v e)):=by
 refine CallsD.run [] Go.Proofs.Tryz.func84 rfl rfl rfl ?_;simp only [Go.Proofs.Tryz.f84];refine hgR ?_
 repeat' ((first | refine hfk ?_ ?_<;>intros | refine hik ?_)<;>refine hgS ?_)
 all_goals first
  | exact rsEq (by (refine bs2 @numV.eq_def @Rs.zero.eq_def ?_;try exact trivial))
  | refine lf1 @numV.eq_def ?_;first | exact trivial | rfl
theorem yln (b:Bool):CallsD Γ prog 138 [.one (cB b)] (rsR (truV b)):=by
 refine CallsD.run [] Go.Proofs.Tryz.func138 rfl rfl rfl ?_;simp only [Go.Proofs.Tryz.f138];refine hgR ?_
 repeat' ((first | refine hfk ?_ ?_<;>intros | refine hik ?_)<;>refine hgS ?_)
 all_goals exact rsEq rfl
theorem x5u (o:Int) (a b:Rs) (ha:qz a.v<=67108864) (hb:qz b.v<=67108864):CallsD Γ prog 90 [.one (cI o),.agg (rsC a),.agg (rsC b)] (rsR (ariV o a b)):=by
 have hcr:=zpb a.v b.v;refine CallsD.run [] Go.Proofs.Tryz.func90 rfl rfl rfl ?_;simp only [Go.Proofs.Tryz.f90];refine hgR ?_
 repeat' ((first | refine hfk ?_ ?_<;>intros | refine hik ?_ | with_reducible first | refine v6l (oAdd _ _ ha hb) ?_ | refine vgi (oAdd _ _ ha hb) ?_ | refine v6l (oSub _ _ ha hb) ?_ | refine vgi (oSub _ _ ha hb) ?_ | refine v6l (oMul _ _ ha hb) ?_ | refine vgi (oMul _ _ ha hb) ?_ | refine v6l (oDiv _ _ ha hb) ?_ | refine vgi (oDiv _ _ ha hb) ?_ | refine v6l (oMin _ _ ha hb) ?_ | refine vgi (oMin _ _ ha hb) ?_ | refine v6l (oMax _ _ ha hb) ?_ | refine vgi (oMax _ _ ha hb) ?_ | refine v6l (oCmp _ _ ha hb) ?_ | refine vgi (oCmp _ _ ha hb) ?_ | refine v6l (w3m _ _) ?_ | refine vgi (w3m _ _) ?_ | refine v6l (yln _) ?_ | refine vgi (yln _) ?_)<;>refine hgS ?_)
 all_goals first
  | exact rsEq (by (refine bs2 @ariV.eq_def @Rs.zero.eq_def ?_;try exact trivial))
  | refine lf1 @ariV.eq_def ?_;first | exact trivial | rfl
theorem xqu:∀ x:Ex,x.Sm->CallsD Γ prog 49 [.agg (exC x)] (.one (cB x.xi4)):=by
 refine Ex.ind (fun x ih hx=>?_);have hl:=hx.len;have hc:CallsD Γ prog 75 [.one (.sl 5 (x.args.map Ex.cells)),fN 49] (.one (cB (x.args.any Ex.xi4))):=ynb x.args _ _ hl (fun y hy=>ih y hy (hx.arg y hy));refine CallsD.run [] Go.Proofs.Tryz.func49 rfl rfl rfl ?_;simp only [Go.Proofs.Tryz.f49];refine hgR ?_
 repeat' ((first | refine hfk ?_ ?_<;>intros | refine hik ?_ | with_reducible first | refine v6l (hc) ?_ | refine vgi (hc) ?_)<;>refine hgS ?_)
 all_goals refine RLe.ofEq ?_
 all_goals rw [Ex.wd9]
 all_goals (refine bsE ?_;try exact trivial)
end Go.Hp.T
namespace Go.Hp.T
open Go Go.RowKit Go.Slot Go.Hp
set_option maxRecDepth 10000
theorem vw8 (s:ByteArray):seq s s=true:=by rw [z9f];exact decide_eq_true rfl
theorem xjh {a b:ByteArray} (h:seq a b=true):a=b:=by rw [z9f] at h;exact of_decide_eq_true h
theorem z6i {a b:ByteArray} (h:a≠b):seq a b=false:=by rw [z9f];exact decide_eq_false h
theorem wkt {α:Type} (s:ByteArray) (v:α) (t:ByteArray):∀ l:List (ByteArray×α),ycr (updF l s v) t=bif seq t s then some v else ycr l t
 | []=>rfl
 | p::l=>by
  have ih:=wkt s v t l;rw [updF]
  cases h:seq s p.1 with
  | true=>
   have e:s=p.1:=xjh h;rw [cond_true]
   show (bif seq t s then some v else ycr l t)=bif seq t s then some v else (bif seq t p.1 then some p.2 else ycr l t)
   rw [<-e];cases seq t s<;>rfl
  | false=>
   rw [cond_false]
   show (bif seq t p.1 then some p.2 else ycr (updF l s v) t)=bif seq t s then some v else (bif seq t p.1 then some p.2 else ycr l t)
   rw [ih]
   cases h1:seq t p.1 with
   | false=>rfl
   | true=>cases h2:seq t s with
    | false=>rfl
    | true=>
     have e1:t=p.1:=xjh h1;have e2:t=s:=xjh h2;rw [<-e1,e2,vw8] at h
     cases h
section
variable {α β:Type} (nm:β->ByteArray) (ok:β->Bool) (val:β->α) (out:ByteArray->Bool)
def gE (V:List (ByteArray×α)):List β->Option (List (ByteArray×α))
 | []=>some V
 | b::l=>bif (ycr V (nm b)).isSome||out (nm b)||!isName (nm b)||isWord (nm b)||!ok b then none else gE (updF V (nm b) (val b)) l
def fnd (l:List β) (s:ByteArray):Option β:=l.find? (fun b=>seq s (nm b))
end
section
variable {α β:Type} {nm:β->ByteArray} {ok:β->Bool} {val:β->α} {out:ByteArray->Bool}
theorem vt7 (s:ByteArray):fnd nm [] s=none:=rfl
theorem yik (b:β) (l:List β) (s:ByteArray):fnd nm (b::l) s=bif seq s (nm b) then some b else fnd nm l s:=by
 unfold fnd;rw [List.find?_cons];cases seq s (nm b)<;>rfl
theorem wm9 {l:List β} {s:ByteArray}:fnd nm l s=none↔s∉l.map nm:=by
 induction l with
 | nil=>simp [vt7]
 | cons b l ih=>
  rw [yik,List.map_cons,List.mem_cons,not_or]
  cases h:seq s (nm b) with
  | true=>rw [cond_true];exact ⟨fun h=>(by cases h),fun h2=>absurd (xjh h) h2.1⟩
  | false=>
   rw [cond_false,ih];exact ⟨fun h2=>⟨fun e=>(by rw [e,vw8] at h;cases h),h2⟩,fun h2=>h2.2⟩
theorem wud {l:List β} {s:ByteArray} {b:β} (h:fnd nm l s=some b):b∈l/\s=nm b:=by
 unfold fnd at h;have h1:=List.find?_some h;exact ⟨List.mem_of_find?_eq_some h,xjh h1⟩
theorem vu0 {l:List β} {s:ByteArray}:(fnd nm l s).isSome=true↔s∈l.map nm:=by
 cases h:fnd nm l s with
 | none=>exact ⟨fun h=>(by cases h),fun hm=>absurd hm (wm9.1 h)⟩
 | some b=>
  have:=wud h
  exact ⟨fun _=>(by rw [this.2];exact List.mem_map_of_mem this.1),fun _=>rfl⟩
def zwc (nm:β->ByteArray) (ok:β->Bool) (out:ByteArray->Bool) (V:List (ByteArray×α)) (b:β):Prop:=ok b=true/\isNamed (nm b)=true/\out (nm b)=false/\ycr V (nm b)=none
theorem wab {V:List (ByteArray×α)} {b:β}:((ycr V (nm b)).isSome||out (nm b)||!isName (nm b)||isWord (nm b)||!ok b)=false↔zwc nm ok out V b:=by
 unfold zwc isNamed
 cases ycr V (nm b)<;>cases out (nm b)<;>cases isName (nm b)<;>cases isWord (nm b)<;>cases ok b<;>simp
theorem ypf:∀{l:List β} {V W:List (ByteArray×α)},gE nm ok val out V l=some W->(∀ b∈l,zwc nm ok out V b)/\(l.map nm).Nodup/\∀ s,ycr W s=(match fnd nm l s with
 | some b=>some (val b)
 | none=>ycr V s)
 | [],V,W,h=>by
  rw [gE] at h;cases h;exact ⟨fun b hb=>by (cases hb),List.nodup_nil,fun s=>rfl⟩
 | b::l,V,W,h=>by
  rw [gE] at h
  cases hc:((ycr V (nm b)).isSome||out (nm b)||!isName (nm b)||isWord (nm b)||!ok b) with
  | true=>rw [hc] at h;cases h
  | false=>
   rw [hc,cond_false] at h;have hb:=wab.1 hc;obtain ⟨h1,h2,h3⟩:=ypf h
   have hnot:∀ c∈l,nm c≠nm b:=fun c hc' e=>by
    have:=(h1 c hc').2.2.2
    rw [e,wkt,vw8] at this
    cases this
   refine ⟨fun c hc'=>?_,?_,fun s=>?_⟩
   . rcases List.mem_cons.1 hc' with rfl | hc'
     . exact hb
     . obtain ⟨q1,q2,q3,q4⟩:=h1 c hc';rw [wkt,z6i (hnot c hc')] at q4;exact ⟨q1,q2,q3,q4⟩
   . rw [List.map_cons,List.nodup_cons];refine ⟨fun hm=>?_,h2⟩;obtain ⟨c,hc1,hc2⟩:=List.mem_map.1 hm;exact hnot c hc1 hc2
   . rw [h3 s, yik]
     cases hs:seq s (nm b) with
     | true=>
      have e:=xjh hs
      have:fnd nm l s=none:=wm9.2 (fun hm=>by
       obtain ⟨c,hc1,hc2⟩:=List.mem_map.1 hm
       exact hnot c hc1 (by rw [hc2,e]))
      rw [this];simp only [cond_true];rw [wkt,hs];rfl
     | false=>
      rw [cond_false]
      cases fnd nm l s with
      | some c=>rfl
      | none=>simp only;rw [wkt,hs];rfl
theorem z3y:∀{l:List β} {V:List (ByteArray×α)},(∀ b∈l,zwc nm ok out V b)->(l.map nm).Nodup->∃ W,gE nm ok val out V l=some W
 | [],V,_,_=>⟨V,rfl⟩
 | b::l,V,h,hn=>by
  rw [List.map_cons,List.nodup_cons] at hn;rw [gE,wab.2 (h b (by simp)),cond_false];refine z3y (fun c hc=>?_) hn.2;obtain ⟨q1,q2,q3,q4⟩:=h c (by simp [hc]);refine ⟨q1,q2,q3,?_⟩;rw [wkt,z6i (fun e=>hn.1 (by rw [<-e];exact List.mem_map_of_mem hc))];exact q4
end
section
variable {α β:Type} (nm:β->ByteArray) (ok:β->Bool) (val:β->α) (tok:Tb->Bool)
def entG (bs:List β) (ms:List Tb):Option (List (ByteArray×α)×List (ByteArray×Tb)):=match gE nm ok val (fun _=>false) [] bs with
 | none=>none
 | some V=>(gE Tb.name tok id (fun s=>(ycr V s).isSome) [] ms).map fun T=>(V,T)
def xfk (l:List ByteArray):Prop:=(∀ s∈l,isNamed s=true)/\l.Nodup
instance (l:List ByteArray):Decidable (xfk l):=inferInstanceAs (Decidable (_/\_))
end
section
variable {α β:Type} {nm:β->ByteArray} {ok:β->Bool} {val:β->α} {tok:Tb->Bool}
theorem y36 {bs:List β} {ms:List Tb} {V:List (ByteArray×α)} {T:List (ByteArray×Tb)} (h:entG nm ok val tok bs ms=some (V,T)) :
 (∀ b∈bs,ok b=true)/\(∀ t∈ms,tok t=true)/\xfk (bs.map nm++ms.map Tb.name)/\(∀ s,ycr V s=(fnd nm bs s).map val)/\(∀ s,ycr T s=fnd Tb.name ms s):=by
 unfold entG at h
 cases h1:gE nm ok val (fun _=>false) [] bs with
 | none=>rw [h1] at h;cases h
 | some W=>
  rw [h1] at h;simp only at h
  cases h2:gE Tb.name tok id (fun s=>(ycr W s).isSome) [] ms with
  | none=>rw [h2] at h;cases h
  | some U=>
   rw [h2] at h
   cases h;obtain ⟨a1,a2,a3⟩:=ypf h1;obtain ⟨b1,b2,b3⟩:=ypf h2
   have hV:∀ s,ycr V s=(fnd nm bs s).map val:=fun s=>by rw [a3 s];cases fnd nm bs s<;>rfl
   refine ⟨fun b hb=>(a1 b hb).1,fun t ht=>(b1 t ht).1,⟨fun s hs=>?_,?_⟩,hV,fun s=>by rw [b3 s];cases fnd Tb.name ms s<;>rfl⟩
   . rcases List.mem_append.1 hs with hs | hs
     . obtain ⟨b,hb,rfl⟩:=List.mem_map.1 hs;exact (a1 b hb).2.1
     . obtain ⟨t,ht,rfl⟩:=List.mem_map.1 hs;exact (b1 t ht).2.1
   . rw [List.nodup_append];refine ⟨a2,b2,fun x hx y hy e=>?_⟩;subst e;obtain ⟨t,ht,rfl⟩:=List.mem_map.1 hy
     have:=(b1 t ht).2.2.1
     simp only [hV,Option.isSome_map] at this;rw [vu0.2 hx] at this
     cases this
theorem w1q {bs:List β} {ms:List Tb} (h1:∀ b∈bs,ok b=true) (h2:∀ t∈ms,tok t=true) (h3:xfk (bs.map nm++ms.map Tb.name)):∃ p,entG nm ok val tok bs ms=some p:=by
 obtain ⟨h3,h4⟩:=h3;rw [List.nodup_append] at h4;obtain ⟨n1,n2,n3⟩:=h4;obtain ⟨V,hV⟩:=z3y (val:=val) (V:=([]:List (ByteArray×α))) (out:=fun _=>false) (ok:=ok) (nm:=nm) (fun b hb=>⟨h1 b hb,h3 _ (by simp only [List.mem_append];exact .inl (List.mem_map_of_mem hb)),rfl,rfl⟩) n1
 have hlV:∀ s,ycr V s=(fnd nm bs s).map val:=fun s=>by rw [(ypf hV).2.2 s];cases fnd nm bs s<;>rfl
 obtain ⟨T,hT⟩:=z3y (val:=id) (V:=([]:List (ByteArray×Tb))) (out:=fun s=>(ycr V s).isSome) (ok:=tok) (nm:=Tb.name) (l:=ms) (fun t ht=>⟨h2 t ht,h3 _ (by simp only [List.mem_append];exact .inr (List.mem_map_of_mem ht)),by
  simp only [hlV,Option.isSome_map];rw [Bool.eq_false_iff]
  exact fun hm=>n3 _ (vu0.1 hm) _ (List.mem_map_of_mem ht) rfl,rfl⟩) n2
 exact ⟨(V,T),by unfold entG;rw [hV];simp only [hT];rfl⟩
theorem xbc {bs:List β} {ms:List Tb}:(entG nm ok val tok bs ms).isSome=(bs.all ok&&ms.all tok&&decide (xfk (bs.map nm++ms.map Tb.name))):=by
 cases h:entG nm ok val tok bs ms with
 | some p=>
  obtain ⟨V,T⟩:=p;obtain ⟨h1,h2,h3,_,_⟩:=y36 h;rw [decide_eq_true h3,List.all_eq_true.2 h1,List.all_eq_true.2 h2];rfl
 | none=>
  cases h4:(bs.all ok&&ms.all tok&&decide (xfk (bs.map nm++ms.map Tb.name))) with
  | false=>rfl
  | true=>
   simp only [Bool.and_eq_true,List.all_eq_true,decide_eq_true_eq] at h4;obtain ⟨p,hp⟩:=w1q (val:=val) h4.1.1 h4.1.2 h4.2;rw [h] at hp;cases hp
end
end Go.Hp.T
namespace Go.Hp.T
open Go Go.RowKit Go.Slot Go.Hp Go.Slot.T
set_option maxRecDepth 10000
set_option maxHeartbeats 4000000
structure Bd where
 name:ByteArray
 v:Fc
instance:Inhabited Bd:=⟨⟨⟨#[]⟩,Fc.zero⟩⟩
def Bd.C (x:Bd):List Cell:=[cS x.name,.raw (.int .i64 x.v.s),.ints .i64 x.v.L,.raw (.int .i64 x.v.t),.ints .i64 x.v.M]
abbrev bdC (x:Bd):List Cell:=[cS x.name,.raw (.int .i64 x.v.s),.ints .i64 x.v.L,.raw (.int .i64 x.v.t),.ints .i64 x.v.M]
theorem Bd.C_eq (x:Bd):x.C=bdC x:=rfl
attribute [go_sem] Bd.C_eq
abbrev Vq:=List (ByteArray×Rat)
abbrev Vt:=List (ByteArray×Tb)
def envQ (l:Vq):List (Value×SV):=envM (fun q=>.agg ((qC (some q)).map .dat)) l
def envB (l:Vt):List (Value×SV):=envM (fun t=>.agg ((tbC t).map .dat)) l
theorem wx1 {T:Vq} {s:ByteArray}:zgw (envQ T) (.string s)=some ((ycr T s).map fun q=>.agg ((qC (some q)).map .dat)):=vi5
theorem x96 {T:Vt} {s:ByteArray}:zgw (envB T) (.string s)=some ((ycr T s).map fun t=>.agg ((tbC t).map .dat)):=vi5
theorem xdt {T:Vq} {s:ByteArray} {q:Rat}:updM (envQ T) (.string s) (.agg [.dat (.raw (.int .i64 (qF (some q)).s)),.dat (.ints .i64 (qF (some q)).L),.dat (.raw (.int .i64 (qF (some q)).t)),.dat (.ints .i64 (qF (some q)).M)])=some (envQ (updF T s q)):=z6j (C:=fun q=>.agg ((qC (some q)).map .dat))
theorem v2x {T:Vt} {s:ByteArray} {t:Tb}:updM (envB T) (.string s) (.agg [.dat (cS t.name),.dat (cS t.unit),.dat (.sl 2 (t.rows.map Rw.C))])=some (envB (updF T s t)):=z6j (C:=fun t=>.agg ((tbC t).map .dat))
attribute [go_sem] wx1 x96 xdt v2x
abbrev tbOk (t:Tb):Bool:=zi4 (fun s=>(zth s).2) t
abbrev rB (V:Vq) (l:List Bd):Option Vq:=gE Bd.name (fun b=>decide b.v.ok) (fun b=>b.v.val) (fun _=>false) V l
abbrev rTb (V:Vq) (T:Vt) (l:List Tb):Option Vt:=gE Tb.name tbOk id (fun s=>(ycr V s).isSome) T l
abbrev entF (bs:List Bd) (ms:List Tb):Option (Vq×Vt):=entG Bd.name (fun b=>decide b.v.ok) (fun b=>b.v.val) tbOk bs ms
def v43 (n:Int) (u:ByteArray):Rs×Int:=bif decide (¬(zth u).2=0) then (Rs.zero,14) else numV (mulO (some (n:Rat)) (facO u)) (erO (some (n:Rat)) (facO u))
def ztc (V:Vq) (s:ByteArray):Rs×Int:=match ycr V s with
 | none=>(Rs.zero,11)
 | some q=>numV (addO (some q) (some ((0:Int):Rat))) 0
def woh (T:Vt) (s:ByteArray) (k:Rs):Rs×Int:=match ycr T s with
 | none=>(Rs.zero,11)
 | some t=>bif k.t then (Rs.zero,13) else numV (wyo t k.v).1 (wyo t k.v).2
def chV (rs:List (Rs×Int)):Rs×Int:=bif decide (¬(rs.getD 0 default).2=0) then (Rs.zero,(rs.getD 0 default).2) else
 bif !(rs.getD 0 default).1.t then (Rs.zero,13) else bif (rs.getD 0 default).1.i then rs.getD 1 default else rs.getD 2 default
def seqV:List (Rs×Int)->Int ⊕ List Rs
 | []=>.inr []
 | (r,e)::l=>bif decide (¬e=0) then .inl e else match seqV l with
  | .inl e=>.inl e
  | .inr rs=>.inr (r::rs)
def opV (T:Vt) (o:Int) (s:ByteArray) (rs:List Rs):Rs×Int:=bif decide (o=2) then woh T s (rs.getD 0 default) else
 bif decide (o=4)||decide (o=14)||decide (o=15) then logV o rs else ariV o (rs.getD 0 default) (rs.getD 1 default)
def xem (T:Vt) (o:Int) (s:ByteArray) (q:Int ⊕ List Rs):Rs×Int:=match q with
 | .inl e=>(Rs.zero,e)
 | .inr rs=>opV T o s rs
mutual
def Ex.cal (V:Vq) (T:Vt):Ex->Rs×Int
 | .mk o n u s l=>bif decide (o=0) then v43 n u else bif decide (o=1) then ztc V s else
  bif decide (o=5) then chV (Ex.calA V T l) else xem T o s (seqV (Ex.calA V T l))
def Ex.calA (V:Vq) (T:Vt):List Ex->List (Rs×Int)
 | []=>[]
 | y::l=>Ex.cal V T y::Ex.calA V T l
end
theorem Ex.x97 (V:Vq) (T:Vt):∀ l:List Ex,Ex.calA V T l=l.map (Ex.cal V T)
 | []=>by rw [Ex.calA];rfl
 | y::l=>by rw [Ex.calA,Ex.x97 V T l];rfl
theorem Ex.vwm (V:Vq) (T:Vt) (x:Ex):x.cal V T=bif decide (x.op=0) then v43 x.n x.unit else bif decide (x.op=1) then ztc V x.name else
 bif decide (x.op=5) then chV (x.args.map (Ex.cal V T)) else xem T x.op x.name (seqV (x.args.map (Ex.cal V T))):=by cases x;rw [Ex.cal,Ex.x97];rfl
def valF (x:Ex) (bs:List Bd) (ms:List Tb):Rs×Int:=bif !xub x||x.xi4 then (Rs.zero,2) else match entF bs ms with
 | none=>(Rs.zero,1)
 | some p=>x.cal p.1 p.2
mutual
def Ex.nd:Ex->Nat
 | .mk _ _ _ _ l=>Ex.ndL l+1
def Ex.ndL:List Ex->Nat
 | []=>0
 | y::l=>Ex.nd y+Ex.ndL l
end
theorem Ex.yuy (x:Ex):x.nd=Ex.ndL x.args+1:=by cases x;rw [Ex.nd];rfl
theorem Ex.xks:∀{l:List Ex} {y:Ex},y∈l->y.nd<=Ex.ndL l
 | z::l,y,h=>by
  rw [Ex.ndL]
  rcases List.mem_cons.1 h with rfl | h
  . omega
  . have:=Ex.xks h;omega
theorem Ex.nd2 {l:List Ex} (h:2<=l.length):(l.getD 0 default).nd+(l.getD 1 default).nd<=Ex.ndL l:=by
 match l,h with
 | a::b::l,_=>rw [Ex.ndL,Ex.ndL];simp only [List.getD_cons_zero,List.getD_cons_succ];omega
theorem Ex.wfy:∀(x:Ex) (n lv k:Int),x.cnt n lv=(true,k)->k=n+x.nd:=by
 have hL:∀ l:List Ex,(∀ y∈l,∀(n lv k:Int),y.cnt n lv=(true,k)->k=n+y.nd)->∀ n lv k:Int,Ex.cntL l n lv=(true,k)->k=n+Ex.ndL l:=by
  intro l
  induction l with
  | nil=>intro _ n lv k h;rw [Ex.cntL] at h;cases h;rw [Ex.ndL];omega
  | cons y l ih=>
   intro hy n lv k h;rw [Ex.cntL] at h;split at h
   . cases h
   . rename_i m hm;have h1:=hy y (by simp) _ _ _ hm;have h2:=ih (fun z hz=>hy z (by simp [hz])) _ _ _ h;rw [Ex.ndL];omega
 refine Ex.ind (fun x ih n lv k h=>?_);rw [Ex.vrw] at h;by_cases h1:200<n+1
 . simp [h1] at h
 . by_cases h2:20<lv
   . simp [h2] at h
   . simp only [h1,h2,decide_false,Bool.or_self,cond_false] at h
     have:=hL x.args ih _ _ _ h
     rw [Ex.yuy];omega
theorem wl8 {x:Ex} (h:xub x=true):x.nd<=200:=by
 unfold xub at h;rw [Bool.and_eq_true] at h
 have h1:x.cnt 0 1=(true,(x.cnt 0 1).2):=by rw [<-h.1]
 have h2:=Ex.wfy _ _ _ _ h1;have h3:=Ex.v24 _ _ _ _ h1;omega
theorem ypx (v:Option Rat) (e:Int):qz (numV v e).1.v<=qz v:=by
 unfold numV
 cases decide (¬e=0) with
 | true=>exact Nat.zero_le _
 | false=>exact Nat.le_refl _
theorem zo6 {c:Bool} {a b:Rs×Int} {n:Nat} (h1:qz a.1.v<=n) (h2:qz b.1.v<=n):qz (bif c then a else b).1.v<=n:=by cases c<;>assumption
theorem ynk (o:Int) (l:List Rs):qz (logV o l).1.v<=0:=
 zo6 (Nat.le_refl _) (zo6 (Nat.le_refl _) (zo6 (Nat.le_refl _) (Nat.le_refl _)))
theorem y1o (o:Int) (a b:Rs):qz (ariV o a b).1.v<=qz a.v+qz b.v+1:=by
 have h1:=zwk a.v b.v;have h2:=we9 a.v b.v;have h3:=ylo a.v b.v;have h4:=wwn a.v b.v;have h5:=ygs a.v b.v;have h6:=vbu a.v b.v
 have n:∀(v:Option Rat) (e:Int),qz v<=qz a.v+qz b.v+1->qz (numV v e).1.v<=qz a.v+qz b.v+1:=fun v e h=>Nat.le_trans (ypx v e) h
 exact zo6 (Nat.zero_le _) (zo6 (n _ _ h1) (zo6 (n _ _ h2) (zo6 (n _ _ (by omega)) (zo6 (n _ _ h4) (zo6 (n _ _ (by omega)) (zo6 (n _ _ (by omega)) (zo6 (Nat.zero_le _) (Nat.zero_le _))))))))
theorem v9j (t:Tb) {n:Int} (h:inI n):qz (zxd t n)<=4204:=by
 have h1:=ylo (some (n:Rat)) (facO t.unit);have h2:=wtn h;have h3:=yzw t.unit;unfold zxd;omega
theorem xbu (t:Tb) (v:Option Rat):qz (wyo t v).1<=4204:=by
 unfold wyo
 cases ht:zi4 (fun s=>(zth s).2) t with
 | false=>exact Nat.zero_le _
 | true=>
  cases v with
  | none=>exact Nat.zero_le _
  | some q=>
   simp only [Bool.not_true,cond_false];by_cases h0:aft q t.rows=0
   . rw [decide_eq_true h0];exact Nat.zero_le _
   . rw [decide_eq_false h0];obtain ⟨_,_,hl,hrows⟩:=yun ht;have hle:=xds q t.rows;have hn:=wju (hrows (aft q t.rows-1) (by omega)).2.1;exact v9j t (by unfold inI;omega)
def Vsm (B:Nat) (V:Vq):Prop:=∀ s q,ycr V s=some q->qs q+10<=B
theorem zta {x:Ex} (h:yxn x=true) (h0:x.op=0):0<=x.n/\x.n<=1099511627776:=by
 unfold yxn at h;rw [decide_eq_true h0] at h;simp only [cond_true,Bool.and_eq_true,decide_eq_true_eq] at h;omega
theorem v8j : ∀ {l : List (Rs × Int)} {rs : List Rs}, seqV l = .inr rs → rs.length = l.length ∧ ∀ i, i < l.length → l.getD i default = (rs.getD i default, 0)
 | [],rs,h=>by rw [seqV] at h;cases h;exact ⟨rfl,fun i hi=>by simp at hi⟩
 | (r, e) :: l, rs, h => by
  rw [seqV] at h;by_cases he:e=0
  . subst he;simp only [not_true_eq_false,decide_false,cond_false] at h
    cases hs:seqV l with
    | inl e=>rw [hs] at h;cases h
    | inr r2=>
     rw [hs] at h;cases h;obtain ⟨h1,h2⟩:=v8j hs;refine ⟨by simp [h1],fun i hi=>?_⟩
     cases i with
     | zero=>rfl
     | succ i=>simpa using h2 i (by simpa using hi)
  . rw [decide_eq_true he] at h;cases h
theorem v6n {V:Vq} {T:Vt} {B:Nat} (hB:4300<=B) (hV:Vsm B V):∀ x:Ex,x.shaped=true->x.xi4=false->qz (x.cal V T).1.v<=B*x.nd:=by
 refine Ex.ind (fun x ih hsh hcl=>?_);rw [Ex.xg3,Bool.and_eq_true,List.all_eq_true] at hsh;rw [Ex.wd9,Bool.or_eq_false_iff,decide_eq_false_iff_not,List.any_eq_false] at hcl;obtain ⟨hnode,hargs⟩:=hsh;have hnd:=Ex.yuy x;have h1:B<=B*x.nd:=Nat.le_mul_of_pos_right _ (by omega)
 have hmem:∀ i,i<x.args.length->qz (((x.args.map (Ex.cal V T)).getD i default)).1.v<=B*(x.args.getD i default).nd:=fun i hi=>by
  have hm:=w4t hi;rw [getD_map hi];exact ih _ hm (hargs _ hm) (by simpa using hcl.2 _ hm)
 have hle:∀ i,i<x.args.length->B*(x.args.getD i default).nd<=B*x.nd:=fun i hi=>Nat.mul_le_mul_left _ (by have:=Ex.xks (w4t hi);omega)
 rw [Ex.vwm];by_cases h0:x.op=0
 . rw [decide_eq_true h0,cond_true];have hn:=zta hnode h0;unfold v43
   cases decide (¬(zth x.unit).2=0) with
   | true=>exact Nat.zero_le _
   | false=>
    have:=ypx (mulO (some (x.n:Rat)) (facO x.unit)) (erO (some (x.n:Rat)) (facO x.unit))
    have h2:=ylo (some (x.n:Rat)) (facO x.unit);have h3:=wtn (n:=x.n) (by unfold inI;omega);have h4:=yzw x.unit;rw [cond_false];omega
 rw [decide_eq_false h0,cond_false];by_cases h01:x.op=1
 . rw [decide_eq_true h01,cond_true];unfold ztc
   cases hl:ycr V x.name with
   | none=>exact Nat.zero_le _
   | some q=>
    have:=hV _ _ hl
    have h2:=ypx (addO (some q) (some ((0:Int):Rat))) 0;have h3:=zwk (some q) (some ((0:Int):Rat));have h4:=wtn (n:=0) (by decide);simp only;have h5:qz (some q)=qs q:=rfl;omega
 rw [decide_eq_false h01,cond_false]
 have hne:x.args.length≠0:=fun h=>by
  unfold yxn at hnode;rw [decide_eq_false h0,decide_eq_false h01,h] at hnode;simp at hnode
 obtain ⟨hl2,hl3⟩:=x6z hnode hcl.1 hne;by_cases h5:x.op=5
 . rw [decide_eq_true h5, cond_true];have hl:=hl3 h5;unfold chV
   cases decide (¬((x.args.map (Ex.cal V T)).getD 0 default).2=0) with
   | true=>exact Nat.zero_le _
   | false=>
    cases ((x.args.map (Ex.cal V T)).getD 0 default).1.t with
    | false=>exact Nat.zero_le _
    | true=>
     cases ((x.args.map (Ex.cal V T)).getD 0 default).1.i with
     | true=>exact Nat.le_trans (hmem 1 (by omega)) (hle 1 (by omega))
     | false=>exact Nat.le_trans (hmem 2 (by omega)) (hle 2 (by omega))
 rw [decide_eq_false h5,cond_false]
 cases hs:seqV (x.args.map (Ex.cal V T)) with
 | inl e=>exact Nat.zero_le _
 | inr rs=>
  obtain ⟨hlen,hget⟩:=v8j hs;rw [List.length_map] at hlen hget;show qz (opV T x.op x.name rs).1.v<=_;unfold opV;by_cases h2:x.op=2
  . rw [decide_eq_true h2, cond_true];unfold woh
    cases ycr T x.name with
    | none=>exact Nat.zero_le _
    | some t=>
     simp only
     cases (rs.getD 0 default).t with
     | true=>exact Nat.zero_le _
     | false=>
      have h3:=ypx (wyo t (rs.getD 0 default).v).1 (wyo t (rs.getD 0 default).v).2;have h4:=xbu t (rs.getD 0 default).v;rw [cond_false];omega
  rw [decide_eq_false h2,cond_false]
  cases hlg:decide (x.op=4)||decide (x.op=14)||decide (x.op=15) with
  | true=>exact Nat.le_trans (ynk _ _) (Nat.zero_le _)
  | false=>
   rw [cond_false]
   have h4:x.op≠4:=fun h=>by rw [decide_eq_true h] at hlg;simp at hlg
   have hl:=hl2 h2 h4;have ha:=y1o x.op (rs.getD 0 default) (rs.getD 1 default);have m0:=hmem 0 (by omega);have m1:=hmem 1 (by omega);rw [hget 0 (by omega)] at m0;rw [hget 1 (by omega)] at m1;have hn2:=Ex.nd2 hl;have hd:=Nat.mul_add B (x.args.getD 0 default).nd (x.args.getD 1 default).nd;have he:B*((x.args.getD 0 default).nd+(x.args.getD 1 default).nd+1)<=B*x.nd:=Nat.mul_le_mul_left _ (by omega);rw [Nat.mul_add,hd] at he;simp only at m0 m1;omega
theorem y2d {B:Nat} {bs:List Bd} {ms:List Tb} {V:Vq} {T:Vt} (h:entF bs ms=some (V,T)) (hb:∀ b∈bs,b.v.sz+10<=B):Vsm B V:=fun s q hq=>by
 obtain ⟨h1,_,_,h4,_⟩:=y36 h;rw [h4 s] at hq
 cases hf:fnd Bd.name bs s with
 | none=>rw [hf] at hq;cases hq
 | some b=>
  rw [hf] at hq;cases hq;have hm:=(wud hf).1;have e:=Fc.ylb (of_decide_eq_true (h1 b hm));have h2:=hb b hm;rw [e] at h2;exact h2
theorem xhm {bs:List Bd} {ms:List Tb} {V:Vq} {T:Vt} (h:entF bs ms=some (V,T)) (hb:∀ t∈ms,t.Sm):∀ s t,ycr T s=some t->t.Sm/\tbOk t=true:=fun s t ht=>by
 obtain ⟨_,h2,_,_,h5⟩:=y36 h;rw [h5 s] at ht;have hm:=(wud ht).1;exact ⟨hb t hm,h2 t hm⟩
end Go.Hp.T
namespace Go.Hp.T
open Go Go.RowKit Go.Slot Go.Hp
set_option maxRecDepth 10000
theorem nc0:((0:Nat):Int)=0:=rfl
theorem nc1:((1:Nat):Int)=1:=rfl
theorem nc2:((2:Nat):Int)=2:=rfl
theorem nc3:((3:Nat):Int)=3:=rfl
attribute [go_sem] decide_true decide_false nc0 nc1 nc2 nc3
theorem z3r {x:Ex} (h:yxn x=true) (hne:x.args.length≠0):2<=x.op/\x.op<=15:=by
 unfold yxn at h;by_cases a0:x.op=0
 . rw [decide_eq_true a0,cond_true] at h;simp only [Bool.and_eq_true,decide_eq_true_eq] at h;omega
 rw [decide_eq_false a0,cond_false] at h
 cases hb:(decide (¬x.n=0)||decide (¬x.unit.size=0)) with
 | true=>rw [hb,cond_true] at h;cases h
 | false=>
 rw [hb,cond_false] at h;by_cases a1:x.op=1
 . rw [decide_eq_true a1,cond_true] at h;simp only [Bool.and_eq_true,decide_eq_true_eq] at h;omega
 rw [decide_eq_false a1,cond_false] at h;by_cases a2:x.op=2
 . omega
 by_cases a3:x.op=3
 . omega
 by_cases a4:x.op=4
 . omega
 by_cases a5:x.op=5
 . omega
 rw [decide_eq_false a2,decide_eq_false a3,decide_eq_false a4,decide_eq_false a5] at h;simp only [cond_false] at h;by_cases a6:x.op=10\/x.op=11
 . omega
 rw [decide_eq_false (fun h=>a6 (.inl h)),decide_eq_false (fun h=>a6 (.inr h))] at h;simp only [Bool.or_self,cond_false,Bool.and_eq_true] at h
 have:=h.1.1
 unfold isOp at this;simp only [Bool.or_eq_true,decide_eq_true_eq] at this;omega
end Go.Hp.T
