/- The proof, part Y35: Nf, Vk, Qa. -/
import Derived.Test.YtjhbbadljohadaaGreatDoorY34
import Derived.Test.YtjhbbadljohadaaGreatDoorY13
import Derived.Test.YtjhbbadljohadaaGreatDoorY14
import Derived.Test.YtjhbbadljohadaaGreatDoorY29
import Derived.Test.YtjhbbadljohadaaGreatDoorRows
import Derived.Deep.DeepHandedRow
import Derived.LaidMore
import Derived.MakeChecks
import Derived.ProofKit
namespace Go.Hp
open Go Go.RowKit Go.Slot
variable {P:Program} {Γ:List (Nat×List Cell)} {e:List SB}
theorem zaa.ro (φ:List Nat) {f:FuncId} {η ηs:List SB} {args:List SV} {res:SV} (h:zaa Γ P f ηs args ηs res) (hs:∀ r,ηs.map (rnSB r)=ηs) (hn:φ.Nodup) (hb:(φ.all fun j=>Nat.blt j η.length)=true) (hp:φ.map (fun j=>η[j]?)=ηs.map some) :
 zaa Γ P f η (args.map (zk2 (atR φ η.length))) η (rnSV (atR φ η.length) res):=by
 have hfix:∀(r:Nat->Nat) (x:SB),x∈ηs->rnSB r x=x:=fun r x hx=>by
  obtain ⟨i,hi,rfl⟩:=List.getElem_of_mem hx
  have:=congrArg (fun l=>l[i]?) (hs r)
  simp only [List.getElem?_map,List.getElem?_eq_getElem hi,Option.map_some] at this
  exact Option.some.inj this
 have hb':∀ j∈φ,j<η.length:=fun j hj=>by simpa using List.all_eq_true.1 hb j hj
 have hp':φ.map (fun j=>η[j]?)=ηs.map (fun x=>some (rnSB (atR φ η.length) x)):=by
  rw [hp]
  exact List.map_congr_left (fun x hx=>by rw [hfix _ x hx])
 have hk:=zv2.of hp'
 have hc:=zaa.frame hn hb' hk (by rw [hk.1];exact Nat.le_refl _) h
 have hput:putR φ η ηs=η:=by
  apply List.ext_getElem?
  intro i
  by_cases hi2:i<η.length
  · by_cases hi:i∈φ
    · obtain ⟨k,hk2,rfl⟩:=List.getElem_of_mem hi
      have hkl:k<ηs.length:=by rw [hk.1];exact hk2
      have h1:=zsw (ηs':=ηs) hn hb' (List.getElem?_eq_getElem hkl)
      rw [zn1 (List.getElem?_eq_getElem hk2),hfix _ _ (List.getElem_mem hkl)] at h1
      rw [h1]
      have h2:=congrArg (fun l=>l[k]?) hp
      simp only [List.getElem?_map,List.getElem?_eq_getElem hk2,List.getElem?_eq_getElem hkl,Option.map_some] at h2
      exact (Option.some.inj h2).symm
    · exact zny hi2 hi
  · rw [List.getElem?_eq_none (by rw [zt0,hk.1];omega),List.getElem?_eq_none (by omega)]
 rw [hput] at hc
 exact hc
theorem StH.cutN {σ σ':List SV} {η η':List SB} (ks:List Nat) (m:Nat) (hm:Nat.ble e.length m=true) (h:zur m (zeo ks 0 σ) η=true) (hk:StH Γ e (zeo ks 0 σ) (η.take m) σ' η'):StH Γ e σ η σ' η':=
 StH.trans (StH.only ks) (StH.trans (StH.cutB m (by simpa using hm) h) hk)
theorem StH.tup1 {l l':List SV} {η:List SB} (h:zhy l l'):StH Γ e [.tup l] η [.tup l'] η:=fun E ρ a w hE hR=>⟨ρ,hR.hd,hR.hs,fun i x hi=>by
 cases i with
 | zero=>
  simp only [List.getElem?_cons_zero,Option.some.injEq] at hi
  subst hi
  obtain ⟨vs,hv,hr⟩:=hR.slot 0 (.tup l) rfl
  exact ⟨vs,hv,SRL.le h hr⟩
 | succ i=>simp at hi,hR.went⟩
theorem yja {a b:Nat}:Nat.blt a b=decide (a<b):=by
 by_cases h:a<b
 · rw [decide_eq_true h];simpa using h
 · rw [decide_eq_false h]
   cases hh:Nat.blt a b with
   | false=>rfl
   | true=>exact absurd (by simpa using hh) h
end Go.Hp
namespace Go.Hp.T
open Go Go.RowKit Go.Slot Go.Hp Go.Slot.T
open Go.Proofs.Tryz (prog)
set_option maxRecDepth 10000
set_option maxHeartbeats 4000000
variable {Γ:List (Nat×List Cell)}
theorem zr3 (l:List (ByteArray×Dm)):zk7 (.map (envE l))=[]:=by
 show (envE l).flatMap (fun p=>zg7 p.2)=[]
 induction l with
 | nil=>rfl
 | cons p l ih=>show zg7 _++(envE l).flatMap _=[];rw [ih];rfl
theorem ziu (i j:Nat) (l:List (ByteArray×Dm)):swSB i j (.map (envE l))=.map (envE l):=by
 have:(envE l).map (fun p=>(p.1,zl6 i j p.2))=envE l:=by
  induction l with
  | nil=>rfl
  | cons p l ih=>show _::(envE l).map _=_;rw [ih];rfl
 show SB.map _=_
 rw [this]
theorem zo7 {η:List SB} {h1 h2:HC}:StH Γ [] [SV.tup [.agg [h1,h2],.one (.dat (cB false))]] η [SV.tup [.agg [.any,.any],.one (.dat (cB false))]] []:=
 StH.trans (StH.tup1 (l':=[.agg [.any,.any],.one (.dat (cB false))]) (.cons (.agg (.cons (.any _) (.cons (.any _) .nil))) (.cons (.refl _) .nil))) (by
  have:=StH.cutB (Γ:=Γ) (e:=[]) (σ:=[SV.tup [.agg [.any,.any],.one (.dat (cB false))]]) (η:=η) 0 (Nat.le_refl _) (by unfold zur;rfl)
  exact this)
theorem z7x (l:List HC) (T:Option TypeId):zk7 (.box l T)=l.flatMap zf0:=rfl
theorem z8c (c:Cell) (k:Nat) (T:Option TypeId):zk7 (.arr c k T)=[]:=rfl
theorem z0v:zk7 .dead=[]:=rfl
attribute [go_sem] zur zg7 zf0 zr3 z7x z8c z0v yja List.flatMap_cons List.flatMap_nil List.all_append
attribute [go_sem 20000] ziu zlj
def rV (V:List (ByteArray×Dm)):List Vr->Option (List (ByteArray×Dm))
 | []=>some V
 | v::l=>bif !isName v.name||isWord v.name||!zaw v.d then none else rV (updF V v.name v.d) l
def rT (V T:List (ByteArray×Dm)):List Tb->Option (List (ByteArray×Dm))
 | []=>some T
 | t::l=>bif (zbc V t.name).isSome||decide (¬(zaz t.unit).2=0)||!zca (fun s=>(zaz s).2) t||isWord t.name then none else rT V (updF T t.name (dmO (zaz t.unit).1)) l
def zh7 (vs:List Vr) (ms:List Tb):Option (List (ByteArray×Dm)×List (ByteArray×Dm)):=match rV [] vs with
 | none=>none
 | some V=>match rT V [] ms with
  | none=>none
  | some T=>bif decide ((V.length:Int)=vs.length)&&decide ((T.length:Int)=ms.length) then some (V,T) else none
def ym4:Option (List (ByteArray×Dm)×List (ByteArray×Dm))->List SB
 | none=>[]
 | some p=>[mE p.1,mE p.2]
def yor:Option (List (ByteArray×Dm)×List (ByteArray×Dm))->SV
 | none=>.tup [.agg [.any,.any],.one (.dat (cB false))]
 | some _=>.tup [.agg [.mp 0,.mp 1],.one (.dat (cB true))]
theorem ybk (V T:List (ByteArray×Dm)) (a d:SB) (b:Bool):StH Γ [] [SV.tup [.agg [.mp 1,.mp 2],.one (.dat (cB b))]] [a,mE V,mE T,d] [SV.tup [.agg [.mp 0,.mp 1],.one (.dat (cB b))]] [mE V,mE T]:=by
 have e1:swL 0 1 [a,mE V,mE T,d]=[mE V,swSB 0 1 a,mE T,swSB 0 1 d]:=by
  show [swSB 0 1 (mE V),swSB 0 1 a,swSB 0 1 (mE T),swSB 0 1 d]=_
  rw [ziu,ziu]
 have e2:swL 1 2 [mE V,swSB 0 1 a,mE T,swSB 0 1 d]=[mE V,mE T,swSB 1 2 (swSB 0 1 a),swSB 1 2 (swSB 0 1 d)]:=by
  show [swSB 1 2 (mE V),swSB 1 2 (mE T),swSB 1 2 (swSB 0 1 a),swSB 1 2 (swSB 0 1 d)]=_
  rw [ziu,ziu]
 have h1:=StH.yic (Γ:=Γ) (e:=[]) (σ:=[SV.tup [.agg [.mp 1,.mp 2],.one (.dat (cB b))]]) (η:=[a,mE V,mE T,d]) (i:=0) (j:=1) (by decide) (by decide) (by simp) (by simp)
 have h2:=StH.yic (Γ:=Γ) (e:=[]) (σ:=[SV.tup [.agg [.mp 0,.mp 2],.one (.dat (cB b))]]) (η:=[mE V,swSB 0 1 a,mE T,swSB 0 1 d]) (i:=1) (j:=2) (by decide) (by decide) (by simp) (by simp)
 have h3:=StH.cutB (Γ:=Γ) (e:=[]) (σ:=[SV.tup [.agg [.mp 0,.mp 1],.one (.dat (cB b))]]) (η:=[mE V,mE T,swSB 1 2 (swSB 0 1 a),swSB 1 2 (swSB 0 1 d)]) 2 (by decide) (by
  unfold zur
  show (_&&([mE V,mE T].all fun x=>(zk7 x).all fun b=>Nat.blt b 2))=true
  simp only [List.all_cons,zr3,List.all_nil];rfl)
 rw [e1] at h1;rw [e2] at h2
 exact h1.trans (h2.trans h3)
structure Tb.Sm (t:Tb):Prop where
 n:t.name.size<=1073741824
 u:t.unit.size<=1073741824
 r:t.rows.length<=1073741824
theorem yoy (vs:List Vr) (ms:List Tb) (hv:vs.length<=1073741824) (hm:ms.length<=1073741824) (hvn:∀ v∈vs,v.name.size<=1073741824) (hms:∀ t∈ms,t.Sm) :
 zaa Γ prog 22 [] [.one (.dat (.sl 7 (vs.map Vr.C))),.one (.dat (.sl 3 (ms.map Tb.C)))] (ym4 (zh7 vs ms)) (yor (zh7 vs ms)):=by
 refine zaa.run [] Go.Proofs.Tryz.func22 rfl rfl ?_;simp only [Go.Proofs.Tryz.f22];refine hgR ?_
 refine zcu [0,1,4,6,18,19] (fun p:Nat×List (ByteArray×Dm)=>[(20,.one (.dat (cI p.1)))]) (fun p=>[.box [.dat (.raw (.map none)),.dat (.raw (.map none))] (some 63),mE p.2,mE [],.box [.mp 1,.mp 2] (some 63)])
  (fun p=>p.1<=vs.length/\rV [] vs=rV p.2 (vs.drop p.1)) (fun p=>vs.length-p.1) (0,[]) ⟨Nat.zero_le _,rfl⟩ ?_ ?_
 · refine hg ?_
   exact StH.same svl rfl
 rintro ⟨i,V⟩ ⟨h1,h2⟩
 simp only at h1 h2
 refine hg ?_
 refine zfv (fun hlt _=>?_) (fun hlt _=>?_)
 · have hlt' : i < vs.length := by omega
   have hy:=hvn _ (zal hlt')
   rw [zed hlt',rV] at h2
   refine hg ?_
   have bad:rV [] vs=none->zh7 vs ms=none:=fun h=>by unfold zh7;rw [h]
   repeat' ((first | refine hfk ?_ ?_<;>intros | refine hik ?_ | with_reducible first | refine za3 (z0a _ (by omega)) ?_ | refine za0 (z0a _ (by omega)) ?_ | refine za3 (zve _) ?_ | refine za0 (zve _) ?_ | refine za3 (zbu _) ?_ | refine za0 (zbu _) ?_)<;>refine hgS ?_)
   all_goals first
    | (rw [bad (by rw [h2];((conv=>simp only [Bool.and_true,Bool.true_and,Bool.and_false,Bool.false_and,Bool.or_true,Bool.true_or,Bool.or_false,Bool.false_or,Bool.not_true,Bool.not_false,decide_true,decide_false,not_true_eq_false,not_false_eq_true,za2,if_true,if_false,Bool.and_self,Bool.or_self,cond_true,cond_false,List.length_map,ne_eq,Int.reduceEq,Int.reduceLT,Int.reduceLE, *])<;>try exact trivial))];exact zo7)
    | (refine ⟨(i+1,updF V (vs.getD i default).name (vs.getD i default).d),⟨by dsimp only;omega,rfl⟩,by dsimp only;omega,?_⟩
       refine StH.cutN [0,1,4,6,18,19,20] 4 rfl ?_ ?_
       · refine hg ?_
         exact trivial
       exact StH.same svl rfl)
 · have hV:rV [] vs=some V:=by rw [h2,List.drop_eq_nil_of_le (by omega)];rfl
   clear h2 h1 hlt
   have bad:rT V [] ms=none->zh7 vs ms=none:=fun h=>by unfold zh7;rw [hV];simp only [h]
   refine hg ?_
   refine zcu [0,1,4,6,47,48] (fun p:Nat×List (ByteArray×Dm)=>[(49,.one (.dat (cI p.1)))]) (fun p=>[.box [.dat (.raw (.map none)),.dat (.raw (.map none))] (some 63),mE V,mE p.2,.box [.mp 1,.mp 2] (some 63)])
    (fun p=>p.1<=ms.length/\rT V [] ms=rT V p.2 (ms.drop p.1)) (fun p=>ms.length-p.1) (0,[]) ⟨Nat.zero_le _,rfl⟩ ?_ ?_
   · refine hg ?_
     exact StH.same svl rfl
   rintro ⟨j,T⟩ ⟨h1,h2⟩
   simp only at h1 h2
   refine hg ?_
   refine zfv (fun hlt _=>?_) (fun hlt _=>?_)
   · have hlt':j<ms.length:=by omega
     have hy:=hms _ (zal hlt')
     rw [zed hlt',rT] at h2
     refine hg ?_
     refine za3 (zfa _ hy.u) ?_
     cases hl:zbc V (ms.getD j default).name with
     | none =>
      rw [hl] at h2
      conv=>simp (maxSteps:=2000000) (disch:=omega) only [go_sem,Nat.reduceAdd,Nat.reduceSub,Nat.reduceMul,Int.reduceToNat,Nat.reduceEqDiff,Nat.reduceBEq,Nat.reduceBneDiff,Nat.reduceLT,Int.reduceEq,Int.reduceLT,Int.reduceLE,Int.reduceNeg,Int.reduceAdd,Int.reduceSub,Int.reduceMul,hl]
      repeat' ((first | refine hfk ?_ ?_<;>intros | refine hik ?_ | with_reducible first | refine za3 (zru _ hy.n hy.u hy.r) ?_ | refine za0 (zru _ hy.n hy.u hy.r) ?_ | refine za3 (zve _) ?_ | refine za0 (zve _) ?_)<;>refine hgS ?_)
      all_goals first
       | (rw [bad (by rw [h2];((conv=>simp only [Bool.and_true,Bool.true_and,Bool.and_false,Bool.false_and,Bool.or_true,Bool.true_or,Bool.or_false,Bool.false_or,Bool.not_true,Bool.not_false,decide_true,decide_false,not_true_eq_false,not_false_eq_true,za2,if_true,if_false,Bool.and_self,Bool.or_self,cond_true,cond_false,List.length_map,ne_eq,Int.reduceEq,Int.reduceLT,Int.reduceLE, *,Option.isSome])<;>try exact trivial))];exact zo7)
       | (refine ⟨(j+1,updF T (ms.getD j default).name (dmO (zaz (ms.getD j default).unit).1)),⟨by dsimp only;omega,by (try rw [h2]);((conv=>simp only [Bool.and_true,Bool.true_and,Bool.and_false,Bool.false_and,Bool.or_true,Bool.true_or,Bool.or_false,Bool.false_or,Bool.not_true,Bool.not_false,decide_true,decide_false,not_true_eq_false,not_false_eq_true,za2,if_true,if_false,Bool.and_self,Bool.or_self,cond_true,cond_false,List.length_map,ne_eq,Int.reduceEq,Int.reduceLT,Int.reduceLE, *,Option.isSome])<;>try exact trivial)⟩,by dsimp only;omega,?_⟩
          refine StH.cutN [0,1,4,6,47,48,49] 4 rfl ?_ ?_
          · refine hg ?_
            exact trivial
          exact StH.same svl rfl)
     | some d=>
      rw [hl] at h2
      conv=>simp (maxSteps:=2000000) (disch:=omega) only [go_sem,Nat.reduceAdd,Nat.reduceSub,Nat.reduceMul,Int.reduceToNat,Nat.reduceEqDiff,Nat.reduceBEq,Nat.reduceBneDiff,Nat.reduceLT,Int.reduceEq,Int.reduceLT,Int.reduceLE,Int.reduceNeg,Int.reduceAdd,Int.reduceSub,Int.reduceMul,hl]
      repeat' ((first | refine hfk ?_ ?_<;>intros | refine hik ?_ | with_reducible first | refine za3 (zru _ hy.n hy.u hy.r) ?_ | refine za0 (zru _ hy.n hy.u hy.r) ?_ | refine za3 (zve _) ?_ | refine za0 (zve _) ?_)<;>refine hgS ?_)
      all_goals
       rw [bad (by rw [h2];((conv=>simp only [Bool.and_true,Bool.true_and,Bool.and_false,Bool.false_and,Bool.or_true,Bool.true_or,Bool.or_false,Bool.false_or,Bool.not_true,Bool.not_false,decide_true,decide_false,not_true_eq_false,not_false_eq_true,za2,if_true,if_false,Bool.and_self,Bool.or_self,cond_true,cond_false,List.length_map,ne_eq,Int.reduceEq,Int.reduceLT,Int.reduceLE, *,Option.isSome])<;>try exact trivial))];exact zo7
   · have hT:rT V [] ms=some T:=by rw [h2,List.drop_eq_nil_of_le (by omega)];rfl
     clear h2 h1 hlt bad
     refine hg ?_
     repeat' ((first | refine hfk ?_ ?_<;>intros | refine hik ?_)<;>refine hgS ?_)
     · rename_i hlv hld
       by_cases hlt:(T.length:Int)=ms.length
       · have e:zh7 vs ms=some (V,T):=by unfold zh7;rw [hV];simp only [hT];rw [decide_eq_true hlt,hld];rfl
         rw [e,decide_eq_true hlt]
         exact ybk V T _ _ true
       · have e:zh7 vs ms=none:=by unfold zh7;rw [hV];simp only [hT];rw [decide_eq_false hlt,Bool.and_false];rfl
         rw [e,decide_eq_false hlt]
         exact zo7
     · rename_i hlv hld
       have e:zh7 vs ms=none:=by unfold zh7;rw [hV];simp only [hT];rw [hld];rfl
       rw [e]
       exact zo7
def ofF (x:Ex) (vs:List Vr) (ms:List Tb):Ty×Int:=bif !zh4 x||x.zci then (Ty.zero,2) else match zh7 vs ms with
 | none=>(Ty.zero,1)
 | some p=>x.ty p.1 p.2
theorem zy4 (x:Ex) (vs:List Vr) (ms:List Tb) (hx:x.Sm) (hv:vs.length<=1073741824) (hm:ms.length<=1073741824) (hvn:∀ v∈vs,v.name.size<=1073741824) (hms:∀ t∈ms,t.Sm) :
 CallsD Γ prog 9 [.agg (exC x),.one (.sl 7 (vs.map Vr.C)),.one (.sl 3 (ms.map Tb.C))] (tyR (ofF x vs ms)):=by
 have hr:=yoy (Γ:=Γ) vs ms hv hm hvn hms
 refine CallsD.run [] Go.Proofs.Tryz.func9 rfl rfl rfl ?_;simp only [Go.Proofs.Tryz.f9];refine hgR ?_
 repeat' ((first | refine hfk ?_ ?_<;>intros | refine hik ?_ | with_reducible first | refine za3 (ztq x hx) ?_ | refine za0 (ztq x hx) ?_ | refine za3 (ydr x hx) ?_ | refine za0 (ydr x hx) ?_)<;>refine hgS ?_)
 · (refine RLe.ofEq ?_;conv=>simp only [Bool.and_true,Bool.true_and,Bool.and_false,Bool.false_and,Bool.or_true,Bool.true_or,Bool.or_false,Bool.false_or,Bool.not_true,Bool.not_false,decide_true,decide_false,not_true_eq_false,not_false_eq_true,za2,if_true,if_false,Bool.and_self,Bool.or_self,cond_true,cond_false,List.length_map,ne_eq,Int.reduceEq,Int.reduceLT,Int.reduceLE, *,ofF]);first | exact trivial | rfl
 · rename_i hr1 hc1
   have hsh:x.shaped=true:=by unfold zh4 at hr1;rw [Bool.and_eq_true] at hr1;exact hr1.2
   cases hrd:zh7 vs ms with
   | none=>
    rw [hrd] at hr
    have hr2:∀ a b:SB,zaa Γ prog 22 [a,b] [.one (.dat (.sl 7 (vs.map Vr.C))),.one (.dat (.sl 3 (ms.map Tb.C)))] [a,b] (.tup [.agg [.any,.any],.one (.dat (cB false))]):=fun a b=>zaa.at [] (η:=[a,b]) hr (by decide) rfl rfl rfl
    refine ye1 (hr2 _ _) rfl ?_
    refine hg ?_
    repeat' ((first | refine hfk ?_ ?_<;>intros | refine hik ?_)<;>refine hgS ?_)
    exact RLe.ofEq (by simp only [ofF,hr1,hc1,hrd];rfl)
   | some p=>
    obtain ⟨V,T⟩:=p
    rw [hrd] at hr
    have hr2:∀ a b:SB,zaa Γ prog 22 [a,b] [.one (.dat (.sl 7 (vs.map Vr.C))),.one (.dat (.sl 3 (ms.map Tb.C)))] [a,b,mE V,mE T] (.tup [.agg [.mp 2,.mp 3],.one (.dat (cB true))]):=fun a b=>by
     have h:=zaa.at [] (η:=[a,b]) hr (by decide) rfl rfl rfl
     have e:putR [] [a,b] (ym4 (some (V,T)))=[a,b,mE V,mE T]:=by
      show [a,b,rnSB _ (mE V),rnSB _ (mE T)]=_
      rw [zlj,zlj]
     rw [e] at h
     exact h
    refine ye1 (hr2 _ _) rfl ?_
    refine hg ?_
    refine zhr (zaa.ro [2,3] (cOf V T x hx hsh hc1) (zpg V T) (by decide) rfl rfl) ?_
    refine hg ?_
    exact RLe.ofEq (by simp only [ofF,hr1,hc1,hrd];rfl)
 · (refine RLe.ofEq ?_;conv=>simp only [Bool.and_true,Bool.true_and,Bool.and_false,Bool.false_and,Bool.or_true,Bool.true_or,Bool.or_false,Bool.false_or,Bool.not_true,Bool.not_false,decide_true,decide_false,not_true_eq_false,not_false_eq_true,za2,if_true,if_false,Bool.and_self,Bool.or_self,cond_true,cond_false,List.length_map,ne_eq,Int.reduceEq,Int.reduceLT,Int.reduceLE, *,ofF]);first | exact trivial | rfl
end Go.Hp.T

namespace Go.Slot
open Go Go.RowKit Go.ChangeShapes Go.WideShapes
section
variable {P:Program} {H:Type} {enc:TypeId×Value->H} {w:World} {spare:Nat->Bool} {held:Bool} {bk:DataW H->Nat} {N:Nat} {r:Reach} {b0:Nat}
theorem zxf (hB:Bulk bk) {L:List TypeId} (hL:zp2 P L=true) {t:TypeId} (htL:t∈L) {v:Value} {d:DataW H} {p:List MemPlace} {fs:Array Field} (ht:P.underlying t=some (.struct fs))
 (hval:Value.okWide P w r b0 t v) (hd:DataW.Trod enc P w 0 spare held t v d p) (hb:bk d<=N):∃ cells,FitT P N t cells/\RdB M0 w v (.agg cells):=by
 obtain ⟨cs,rfl,_⟩:=okWide_struct ht hval
 obtain ⟨fuel,hf⟩:=hd
 obtain ⟨cells,h1,h2⟩:=zyp hB hL fuel t htL _ (d,p) hf hb
 exact ⟨cells,h2,⟨cs.toList,by simp,h1⟩⟩
theorem z94 (hB:Bulk bk) {L:List TypeId} (hL:zp2 P L=true) {t:TypeId} (htL:t∈L) {v:Value} {d:DataW H} {p:List MemPlace} (hv:v.cells=#[v])
 (hd:DataW.Trod enc P w 0 spare held t v d p) (hb:bk d<=N):∃ c,FitT P N t [c]/\RdB M0 w v (.one c):=by
 obtain ⟨fuel,hf⟩:=hd
 obtain ⟨cells,h1,h2⟩:=zyp hB hL fuel t htL _ (d,p) hf hb
 rw [hv] at h1
 match cells,h1,h2 with
 | [c],h1,h2=>exact ⟨c,h2,h1.1⟩
theorem zr1 (hB:Bulk bk) {L:List TypeId} (hL:zp2 P L=true) {t e:TypeId} (htL:t∈L) {v:Value} {d:DataW H} {p:List MemPlace} (ht:P.underlying t=some (.slice e))
 (hval:Value.okWide P w r b0 t v) (hd:DataW.Trod enc P w 0 spare held t v d p) (hb:bk d<=N):∃ c,FitT P N t [c]/\RdB M0 w v (.one c):=by
 obtain ⟨a,len,cap,rfl⟩:=okWide_slice ht hval
 exact z94 hB hL htL rfl hd hb
end
theorem z6v {P:Program} {H:Type} {enc:TypeId×Value->H} {w:World} {sp:Nat->Bool} {held:Bool} {fuel:Nat} {t e:TypeId} {n:Nat} {k:IntKind} {l:List Int} {cs:List Value} {p:List MemPlace}
 (ht:P.underlying t=some (.array n e)) (he:P.underlying e=some (.int k)) (hc:P.cellsOf e=1) (hct:P.cellsOf t=n)
 (h:DataW.trod enc P w 0 sp held fuel t cs=some (.agg (l.map fun z=>.lit (.int k z)),p)):cs=l.map (fun z=>Value.int k z):=by
 obtain ⟨xs,m,rfl,hx1,hlen,hn,hel⟩:=DataW.trod_array ht h
 simp only [Prod.mk.injEq,DataW.agg.injEq] at hx1
 have hl:l.length=n:=by
  have:=congrArg List.length hx1.1
  simp at this;omega
 apply List.ext_getElem
 · rw [hlen,hct,List.length_map,hl]
 intro i h1 h2
 have hi:i<n:=by rw [hlen,hct] at h1;exact h1
 have h3:=hel i hi
 have hix:i<xs.length:=by omega
 rw [hc,Nat.mul_one,List.getElem?_eq_getElem hix] at h3
 have e1:(cs.drop i).take 1=[cs[i]]:=by
  rw [List.drop_eq_getElem_cons h1];rfl
 rw [e1] at h3
 obtain ⟨z,e2,e3,_⟩:=DataW.trod_int he h3
 have e4:(l.map fun z=>(DataW.lit (.int k z):DataW H))[i]? = (xs.map (·.1))[i]?:=by rw [hx1.1]
 rw [List.getElem?_map,List.getElem?_map,List.getElem?_eq_getElem hix,List.getElem?_eq_getElem (by omega),e3] at e4
 simp only [Option.map_some,Option.some.injEq,DataW.lit.injEq,Lit.int.injEq,true_and] at e4
 rw [List.cons.injEq] at e2
 rw [e2.1,List.getElem_map,e4]
end Go.Slot
namespace Go.Proofs.YtjhbbadljohadaaGreatDoor
set_option maxRecDepth 100000
open Go Go.Slot Go.Hp Go.Hp.T Go.ChangeShapes Go.WideShapes Go.RowKit
theorem yca:ownKnob Tryz.prog.godebug=none:=by kernel_rfl
theorem ynw:laidOutB Tryz.prog=true:=by kernel_rfl
theorem z9d {H:Type} (d:DataW H):1<=Rows.uptoBulk d:=by
 cases d with
 | lit l=>cases l<;>simp [Rows.uptoBulk]
 | nil=>simp [Rows.uptoBulk]
 | ptr d=>simp [Rows.uptoBulk]
 | slice elems spare=>simp [Rows.uptoBulk]
 | agg parts=>simp [Rows.uptoBulk]
 | iface t d=>simp [Rows.uptoBulk]
 | map entries=>simp [Rows.uptoBulk]
 | held h=>simp [Rows.uptoBulk]
theorem znz {H:Type} {d:DataW H} {l:List (DataW H)} (h:d∈l):Rows.uptoBulk d<=Rows.uptoBulkAll l:=by
 induction l with
 | nil=>cases h
 | cons x r ih=>
  simp only [Rows.uptoBulkAll]
  cases List.mem_cons.1 h with
  | inl e=>subst e;omega
  | inr e=>have:=ih e;omega
theorem ydc {H:Type} (l:List (DataW H)):l.length<=Rows.uptoBulkAll l:=by
 induction l with
 | nil=>simp [Rows.uptoBulkAll]
 | cons x r ih=>have:=z9d x;simp only [Rows.uptoBulkAll,List.length_cons];omega
theorem bulk {H:Type}:Bulk (H:=H) Rows.uptoBulk where
 str b:=by simp [Rows.uptoBulk]
 elems l r:=by
  have:=ydc l
  simp only [Rows.uptoBulk];omega
 elem l r d h:=by
  have:=znz h
  simp only [Rows.uptoBulk];omega
 part l d h:=by
  have:=znz h
  simp only [Rows.uptoBulk];omega
theorem z0i {H:Type} {l:List (DataW H)} (hk:Rows.uptoSmall H l=true):∀ d∈l,Rows.uptoBulk d<=1048576:=fun d hd=>by
 have h:=znz hd
 have h2:Rows.uptoBulkAll l<=1048576:=of_decide_eq_true hk
 omega
def argTypes:List TypeId:=[24,22,38,25,55,26,114,53,30,3,9,5,42]
theorem zk3:zp2 Tryz.prog argTypes=true:=by kernel_rfl
theorem yb6:Tryz.prog.cellsOf 24=5:=by kernel_rfl
theorem ya6:Tryz.prog.cellsOf 38=7:=by kernel_rfl
theorem z9x:Tryz.prog.cellsOf 55=3:=by kernel_rfl
theorem yc2:Tryz.prog.cellsOf 114=2:=by kernel_rfl
theorem zxq {t:TypeId} {d:TypeDesc} (h:Tryz.prog.underlying t=some d) (hd:∀ k,d≠.int k):∀ k,Tryz.prog.underlying t≠some (.int k):=fun k hk=>by
 rw [h] at hk;cases hk;exact hd k rfl
theorem zku {α:Type} {C:α->List Cell} {Q:α->Prop}:∀ rows:List (List Cell),(∀ r∈rows,∃ x,r=C x/\Q x)->∃ xs:List α,rows=xs.map C/\∀ x∈xs,Q x
 | [],_=>⟨[],rfl,fun x hx=>by cases hx⟩
 | r::rows,h=>by
  obtain ⟨x,hx,hq⟩:=h r (by simp)
  obtain ⟨xs,hxs,hqs⟩:=zku rows (fun r' hr'=>h r' (by simp [hr']))
  exact ⟨x::xs,by rw [hx,hxs];rfl,fun y hy=>by
   rcases List.mem_cons.1 hy with rfl | hy
   · exact hq
   · exact hqs y hy⟩
theorem len2 {α:Type} {l:List α} (h:l.length=2):∃ a b,l=[a,b]:=by
 match l,h with
 | [a,b],_=>exact ⟨a,b,rfl⟩
theorem len3 {α:Type} {l:List α} (h:l.length=3):∃ a b c,l=[a,b,c]:=by
 match l,h with
 | [a,b,c],_=>exact ⟨a,b,c,rfl⟩
theorem len5 {α:Type} {l:List α} (h:l.length=5):∃ a b c d e,l=[a,b,c,d,e]:=by
 match l,h with
 | [a,b,c,d,e],_=>exact ⟨a,b,c,d,e,rfl⟩
theorem len6 {α:Type} {l:List α} (h:l.length=6):∃ a b c d e f,l=[a,b,c,d,e,f]:=by
 match l,h with
 | [a,b,c,d,e,f],_=>exact ⟨a,b,c,d,e,f,rfl⟩
theorem yly:∀(t:TypeId) (cs:List Cell),FitT Tryz.prog 1048576 t cs->(t=24->∃ x:Ex,cs=exC x/\x.Sm)/\(t=22->∃ l:List Ex,cs=[.sl 5 (l.map Ex.cells)]/\l.length<=1048576/\∀ y∈l,y.Sm):=by
 intro t cs h
 induction h with
 | int ht=>exact ⟨fun e=>(by subst e;rw [Tryz.underlying24] at ht;cases ht),fun e=>(by subst e;rw [Tryz.underlying22] at ht;cases ht)⟩
 | bool ht=>exact ⟨fun e=>(by subst e;rw [Tryz.underlying24] at ht;cases ht),fun e=>(by subst e;rw [Tryz.underlying22] at ht;cases ht)⟩
 | str ht=>exact ⟨fun e=>(by subst e;rw [Tryz.underlying24] at ht;cases ht),fun e=>(by subst e;rw [Tryz.underlying22] at ht;cases ht)⟩
 | ints ht he=>exact ⟨fun e=>(by subst e;rw [Tryz.underlying24] at ht;cases ht),fun e=>(by subst e;rw [Tryz.underlying22] at ht;cases ht;rw [Tryz.underlying24] at he;cases he)⟩
 | array ht=>exact ⟨fun e=>(by subst e;rw [Tryz.underlying24] at ht;cases ht),fun e=>(by subst e;rw [Tryz.underlying22] at ht;cases ht)⟩
 | sl ht he hl h ih=>
  refine ⟨fun e=>(by subst e;rw [Tryz.underlying24] at ht;cases ht),fun e=>?_⟩
  subst e
  rw [Tryz.underlying22] at ht
  cases ht
  obtain ⟨xs,rfl,hxs⟩:=zku (C:=Ex.cells) (Q:=Ex.Sm) _ (fun r hr=>by
   obtain ⟨x,h1,h2⟩:=(ih r hr).1 rfl
   exact ⟨x,by rw [h1,Ex.zz1],h2⟩)
  exact ⟨xs,by rw [yb6],by simpa using hl,hxs⟩
 | struct ht hl h ih=>
  refine ⟨fun e=>?_,fun e=>(by subst e;rw [Tryz.underlying22] at ht;cases ht)⟩
  subst e
  rw [Tryz.underlying24] at ht
  cases ht
  obtain ⟨r0,r1,r2,r3,r4,rfl⟩:=len5 hl
  obtain ⟨o,rfl,_⟩:=(h 0 _ r0 rfl rfl).zgc (Tryz.underlying3)
  obtain ⟨n,rfl,_⟩:=(h 1 _ r1 rfl rfl).zgc (Tryz.underlying3)
  obtain ⟨u,rfl,hu⟩:=(h 2 _ r2 rfl rfl).zoj (Tryz.underlying9)
  obtain ⟨s,rfl,hs⟩:=(h 3 _ r3 rfl rfl).zoj (Tryz.underlying9)
  obtain ⟨l,rfl,hll,hls⟩:=(ih 4 _ r4 rfl rfl).2 rfl
  exact ⟨.mk o n u s l,rfl,.mk _ (Nat.le_trans hll (by decide)) (Nat.le_trans hu (by decide)) (Nat.le_trans hs (by decide)) hls⟩
theorem ym8 {cs:List Cell} (h:FitT Tryz.prog 1048576 30 cs):∃ d:Dm,cs=dmC d:=by
 obtain ⟨rows,rfl,hl,hr⟩:=h.z70 Tryz.underlying30
 obtain ⟨r0,r1,r2,r3,r4,r5,rfl⟩:=len6 hl
 obtain ⟨a,rfl,_⟩:=(hr r0 (by simp)).zgc (Tryz.underlying3)
 obtain ⟨b,rfl,_⟩:=(hr r1 (by simp)).zgc (Tryz.underlying3)
 obtain ⟨c,rfl,_⟩:=(hr r2 (by simp)).zgc (Tryz.underlying3)
 obtain ⟨d,rfl,_⟩:=(hr r3 (by simp)).zgc (Tryz.underlying3)
 obtain ⟨e,rfl,_⟩:=(hr r4 (by simp)).zgc (Tryz.underlying3)
 obtain ⟨f,rfl,_⟩:=(hr r5 (by simp)).zgc (Tryz.underlying3)
 exact ⟨⟨a,b,c,d,e,f⟩,rfl⟩
theorem ymf {cs:List Cell} (h:FitT Tryz.prog 1048576 38 cs):∃ x:Vr,cs=x.C/\x.name.size<=1073741824:=by
 obtain ⟨rows,rfl,hl,hr⟩:=h.zlv Tryz.underlying38
 obtain ⟨r0,r1,rfl⟩:=len2 hl
 obtain ⟨s,rfl,hs⟩:=(hr 0 _ r0 rfl rfl).zoj (Tryz.underlying9)
 obtain ⟨d,rfl⟩:=ym8 (hr 1 _ r1 rfl rfl)
 exact ⟨⟨s,d⟩,rfl,Nat.le_trans hs (by decide)⟩
theorem yme {cs:List Cell} (h:FitT Tryz.prog 1048576 114 cs):∃ x:Rw,cs=x.C/\True:=by
 obtain ⟨rows,rfl,hl,hr⟩:=h.zlv Tryz.underlying114
 obtain ⟨r0,r1,rfl⟩:=len2 hl
 obtain ⟨a,rfl,_⟩:=(hr 0 _ r0 rfl rfl).zgc (Tryz.underlying3)
 obtain ⟨b,rfl,_⟩:=(hr 1 _ r1 rfl rfl).zgc (Tryz.underlying3)
 exact ⟨⟨a,b⟩,rfl,trivial⟩
theorem ynl {cs:List Cell} (h:FitT Tryz.prog 1048576 55 cs):∃ x:Tb,cs=x.C/\x.Sm:=by
 obtain ⟨rows,rfl,hl,hr⟩:=h.zlv Tryz.underlying55
 obtain ⟨r0,r1,r2,rfl⟩:=len3 hl
 obtain ⟨s,rfl,hs⟩:=(hr 0 _ r0 rfl rfl).zoj (Tryz.underlying9)
 obtain ⟨u,rfl,hu⟩:=(hr 1 _ r1 rfl rfl).zoj (Tryz.underlying9)
 obtain ⟨rs,rfl,hrl,hrr⟩:=(hr 2 _ r2 rfl rfl).z69 (Tryz.underlying53) (zxq Tryz.underlying114 (fun k h=>by cases h))
 obtain ⟨xs,rfl,_⟩:=zku (C:=Rw.C) (Q:=fun _=>True) _ (fun r hr'=>yme (hrr r hr'))
 refine ⟨⟨s,u,xs⟩,by rw [yc2];try rfl,⟨Nat.le_trans hs (by decide),Nat.le_trans hu (by decide),?_⟩⟩
 have:xs.length<=1048576:=by simpa using hrl
 exact Nat.le_trans this (by decide)
section
variable {H:Type} {enc:TypeId×Value->H} {W:World} {v:Value} {d:DataW H} {p:List MemPlace} {b:Nat}
theorem ymj (hval:Value.okWide Tryz.prog W .any b 24 v) (hd:DataW.Trod enc Tryz.prog W 0 (fun _=>true) true 24 v d p) (hb:Rows.uptoBulk d<=1048576) :
 ∃ x:Ex,RdB M0 W v (.agg (exC x))/\x.Sm:=by
 obtain ⟨cells,h1,h2⟩:=zxf bulk zk3 (by decide) Tryz.underlying24 hval hd hb
 obtain ⟨x,rfl,h3⟩:=(yly _ _ h1).1 rfl
 exact ⟨x,h2,h3⟩
theorem ygt (hval:Value.okWide Tryz.prog W .any b 25 v) (hd:DataW.Trod enc Tryz.prog W 0 (fun _=>true) true 25 v d p) (hb:Rows.uptoBulk d<=1048576) :
 ∃ l:List Vr,RdB M0 W v (.one (.sl 7 (l.map Vr.C)))/\l.length<=1048576/\∀ x∈l,x.name.size<=1073741824:=by
 obtain ⟨c,h1,h2⟩:=zr1 bulk zk3 (by decide) Tryz.underlying25 hval hd hb
 obtain ⟨rows,e,hl,hr⟩:=h1.z69 (Tryz.underlying25) (zxq Tryz.underlying38 (fun k h=>by cases h))
 obtain ⟨xs,rfl,hx⟩:=zku (C:=Vr.C) (Q:=fun x=>x.name.size<=1073741824) _ (fun r hr'=>ymf (hr r hr'))
 cases e
 rw [ya6] at h2
 exact ⟨xs,h2,by simpa using hl,hx⟩
theorem yer (hval:Value.okWide Tryz.prog W .any b 26 v) (hd:DataW.Trod enc Tryz.prog W 0 (fun _=>true) true 26 v d p) (hb:Rows.uptoBulk d<=1048576) :
 ∃ l:List Tb,RdB M0 W v (.one (.sl 3 (l.map Tb.C)))/\l.length<=1048576/\∀ x∈l,x.Sm:=by
 obtain ⟨c,h1,h2⟩:=zr1 bulk zk3 (by decide) Tryz.underlying26 hval hd hb
 obtain ⟨rows,e,hl,hr⟩:=h1.z69 (Tryz.underlying26) (zxq Tryz.underlying55 (fun k h=>by cases h))
 obtain ⟨xs,rfl,hx⟩:=zku (C:=Tb.C) (Q:=Tb.Sm) _ (fun r hr'=>ynl (hr r hr'))
 cases e
 rw [z9x] at h2
 exact ⟨xs,h2,by simpa using hl,hx⟩
end
def z3t:List (String×DataW Unit):=Rows.inferTellsUptoRow.laid
def yka:String:=(z3t.headD (Tryz.f0.name,.nil)).1
theorem ykh:Tryz.prog.globalNamed yka=some 0:=by kernel_rfl
theorem ynh:(Tryz.prog.globals[0]?).map (·.type)=some 165:=by kernel_rfl
theorem yli {W:World} (h:laidMetH Tryz.prog z3t W):zks Gs M0 W:=by
 rw [MakeChecks.laidMetH_plain _ _ _ (by kernel_rfl)] at h
 obtain ⟨ps,⟨g0,t0,cs0,f0,p0,q0,hg0,ht0,hv0,hd0,_,_⟩,_,_⟩:=h
 obtain rfl:=Option.some.inj (ykh.symm.trans hg0)
 obtain rfl:=Option.some.inj (ynh.symm.trans ht0)
 have e:=z6v (l:=[40,41,44,59,58,61,60,43,45,42,47,123,125]) Tryz.underlying165 Tryz.underlying5 (by kernel_rfl) (by kernel_rfl) hd0
 intro g cs hg
 have hg':=List.mem_singleton.1 hg
 cases hg'
 refine ⟨cs0.toList,fun j u hu=>⟨fun h=>h,?_⟩,?_⟩
 · rw [World.var?_cell hg0 hv0 j,<-Array.getElem?_toList];exact hu
 · rw [e]
   exact ⟨.raw rfl,.raw rfl,.raw rfl,.raw rfl,.raw rfl,.raw rfl,.raw rfl,.raw rfl,.raw rfl,.raw rfl,.raw rfl,.raw rfl,.raw rfl,trivial⟩
theorem ya7 (os:Os) (args:Array Value):laidMetH Tryz.prog z3t ((World.doorLaid Tryz.prog 14 os).forCall (fun _ _=>0) ⟨#[],args,[]⟩).memory:=
 laidMetH_of_parts3 (fuel:=8) (laidMet_of_run' 8 (by kernel_rfl) (by kernel_rfl)) (by kernel_rfl) (by kernel_rfl)
theorem ztx {C:Checked} {os:Os} {f:FuncId} {fn:Func} {H:Type} {enc:TypeId×Value->H} {s:OpenSpec} {k:(H:Type)->List (DataW H)->Bool} (hk:s.cond=some k) {conds:List PathCond} {apart:Bool} {laid:List (String×DataW Unit)} (modest:Bool) (n:Nat) (args:Array Value) (fuel:Nat)
 (hsh:((World.doorLaid C.prog n os).forCall (fun _ _=>0) ⟨#[],args,[]⟩).Shaped C.prog)
 (hok:Input.okWideB C.prog ((World.doorLaid C.prog n os).forCall (fun _ _=>0) ⟨#[],args,[]⟩) f ⟨#[],args,[]⟩=true)
 {x:List (DataW H)×List (DataW H)×List MemPlace} (hx:DataW.whole enc C.prog ((World.doorLaid C.prog n os).forCall (fun _ _=>0) ⟨#[],args,[]⟩).memory fn.params.toList s.vars apart args.toList fuel=some x)
 (hconds:conds.all (PathCond.test C.prog ⟨fn.params.toList,x.1,s.bare.plain.varTypes C.prog,x.2.1⟩)=true) (hkk:k H (x.1++x.2.1)=true)
 (hsz:s.bare.sizedB enc C.prog fn apart ((World.doorLaid C.prog n os).forCall (fun _ _=>0) ⟨#[],args,[]⟩).memory args fuel=true)
 (hl:laidMetH C.prog laid ((World.doorLaid C.prog n os).forCall (fun _ _=>0) ⟨#[],args,[]⟩).memory) :
 ∃(w:World) (tape:Tape) (i:Input),w.os=os/\(w.forCall tape i).Shaped C.prog/\i.vars=[]/\Input.okWide C.prog (w.forCall tape i) .any w.heap.size f i/\
  s.preRow enc C.prog fn conds apart laid (w.forCall tape i).memory i.args/\({ modest:=modest }:Assume).holds C.prog (lone (Frame.enter C.prog f i.args .normal) [] (w.forCall tape i)):=
 ⟨World.doorLaid C.prog n os,fun _ _=>0,⟨#[],args,[]⟩,rfl,hsh,(Input.okWide_of_okWideB (base:=0) hok).1,(Input.okWide_of_okWideB hok).2,
  ⟨⟨(OpenSpec.pre_some hk conds apart _ _).2 ⟨x.1,x.2.1,x.2.2,DataW.Whole_of_whole hx,hconds,hkk⟩,hl⟩,sizedMet_of_sizedB hsz⟩,by
  simp only [Assume.holds]
  exact ⟨by simp,by simp,fun _=>Modest.zero,by simp,by simp⟩⟩
theorem ended {f:FuncId} {args:List AV} {vs:List Value} {W:World} (hc:Go.Hp.CallsD Gs Tryz.prog f args (.one (cB true))) (hg:zks Gs M0 W) (hr:RdBL M0 W vs args):Calls Tryz.prog f vs.toArray W fun e W'=>e=.returned (.bool true)/\Below W.heap.size W W':=
 (hc.2 M0 W vs (fun b o h=>h.elim) hg hr).mono (fun e W' ⟨v,he,hb,hr',_⟩=>by
   have hv:v=.bool true:=RdC.zak hr'
   rw [hv] at he
   exact ⟨he,hb⟩)
def zE:Value:=.agg #[.int .i64 0,.int .i64 0,.string ⟨#[]⟩,.string ⟨#[]⟩,.slice none 0 0]
def dI {H:Type}:DataW H:=.lit (.int .i64 0)
def dS {H:Type}:DataW H:=.lit (.string [])
def dE {H:Type}:DataW H:=.agg [dI,dI,dS,dS,.nil]
end Go.Proofs.YtjhbbadljohadaaGreatDoor

namespace Go.Hp.T
open Go Go.RowKit Go.Slot Go.Hp Go.Slot.T
open Go.Proofs.Tryz (prog)
set_option maxRecDepth 10000
set_option maxHeartbeats 4000000
variable {Γ:List (Nat×List Cell)}
theorem zco {p:Nat->Prop} {i:Nat} (h:∀ j,j<i->p j) (hi:p i):∀ j,j<i+1->p j:=fun j hj=>by
 rcases Nat.lt_or_eq_of_le (Nat.le_of_lt_succ hj) with h2 | h2
 · exact h j h2
 · rw [h2];exact hi
theorem zt9 (c:Int):CallsD Γ prog 77 [.one (c8 c)] (.one (cB (zaq c))):=by
 refine CallsD.run [] Go.Proofs.Tryz.func77 rfl rfl rfl ?_;simp only [Go.Proofs.Tryz.f77];refine hgR ?_
 repeat' ((first | refine hfk ?_ ?_<;>intros | refine hik ?_)<;>refine hgS ?_)
 all_goals (refine RLe.ofEq ?_;conv=>simp only [Bool.and_true,Bool.true_and,Bool.and_false,Bool.false_and,Bool.or_true,Bool.true_or,Bool.or_false,Bool.false_or,Bool.not_true,Bool.not_false,decide_true,decide_false,not_true_eq_false,not_false_eq_true,za2,if_true,if_false,Bool.and_self,Bool.or_self,cond_true,cond_false,List.length_map,ne_eq,Int.reduceEq,Int.reduceLT,Int.reduceLE, *,zaq]);first | exact trivial | rfl
theorem zir (c:Int):CallsD Γ prog 78 [.one (c8 c)] (.one (cB (isDigit c))):=by
 refine CallsD.run [] Go.Proofs.Tryz.func78 rfl rfl rfl ?_;simp only [Go.Proofs.Tryz.f78];refine hgR ?_
 repeat' ((first | refine hfk ?_ ?_<;>intros | refine hik ?_)<;>refine hgS ?_)
 all_goals (refine RLe.ofEq ?_;conv=>simp only [Bool.and_true,Bool.true_and,Bool.and_false,Bool.false_and,Bool.or_true,Bool.true_or,Bool.or_false,Bool.false_or,Bool.not_true,Bool.not_false,decide_true,decide_false,not_true_eq_false,not_false_eq_true,za2,if_true,if_false,Bool.and_self,Bool.or_self,cond_true,cond_false,List.length_map,ne_eq,Int.reduceEq,Int.reduceLT,Int.reduceLE, *,isDigit]);first | exact trivial | rfl
theorem zzb {c:Int} (h:c<32∨126<c):zfp c=false:=by
 unfold zfp
 rcases h with h | h
 · rw [decide_eq_false (show ¬32<=c by omega)];rfl
 · rw [decide_eq_false (show ¬c<=126 by omega),Bool.and_false]
theorem z4t {c:Int} (h:¬c<32) (h':¬126<c):zfp c=true:=by
 unfold zfp
 rw [decide_eq_true (show 32<=c by omega),decide_eq_true (show c<=126 by omega)];rfl
theorem zyw {s:ByteArray} {i:Nat} (hi:i<s.size) (hj:∀ j,j<i->zfp (zab s j)=true) (h:zfp (zab s i)=false):zdk s=false:=by
 unfold zdk
 rw [ze6 (by omega) hj (.inr h),decide_eq_true (show ¬((i:Int)=s.size) by omega),Bool.or_true];rfl
theorem z4b {s:ByteArray} (hj:∀ j,j<s.size->zfp (zab s j)=true):zdk s=decide ((s.size:Int)<=400):=by
 unfold zdk
 rw [ze6 (Nat.le_refl _) hj (.inl rfl),decide_eq_false (show ¬¬((s.size:Int)=s.size) from fun h=>h rfl),Bool.or_false]
 by_cases h:(s.size:Int)<=400
 · rw [decide_eq_true h,decide_eq_false (show ¬400<(s.size:Int) by omega)];rfl
 · rw [decide_eq_false h,decide_eq_true (show 400<(s.size:Int) by omega)];rfl
theorem yem (s:ByteArray) (hs:s.size<=1073741824):CallsD Γ prog 127 [.one (cS s)] (.one (cB (zdk s))):=by
 refine CallsD.run [] Go.Proofs.Tryz.func127 rfl rfl rfl ?_;simp only [Go.Proofs.Tryz.f127];refine hgR ?_
 refine zcu [0] (fun n:Nat=>[(3,.one (.dat (cI n)))]) (fun _=>[]) (fun n=>n<=s.size/\∀ j,j<n->zfp (zab s j)=true) (fun n=>s.size-n) 0 ⟨Nat.zero_le _,fun j hj=>by omega⟩ ?_ ?_
 · refine hg ?_
   exact StH.same svl rfl
 intro n hn
 obtain ⟨hn,hj⟩:=hn
 refine hg ?_
 repeat' ((first | refine hfk ?_ ?_<;>intros | refine hik ?_)<;>refine hgS ?_)
 · rw [zyw (by omega) hj (zzb (.inr (by assumption)))]
   exact RLe.ofEq rfl
 · refine ⟨n+1,⟨by omega,zco hj (z4t (by assumption) (by assumption))⟩,by omega,StH.same svl rfl⟩
 · rw [zyw (by omega) hj (zzb (.inl (by assumption)))]
   exact RLe.ofEq rfl
 · have e:n=s.size:=by omega
   subst e
   rw [z4b hj]
   exact RLe.ofEq rfl
theorem yhc {s:ByteArray} {i:Nat} (hi:i<s.size) (hj:∀ j,j<i->zfb (zab s j)=true) (h:zfb (zab s i)=false):isName s=false:=by
 unfold isName
 rw [ze6 (by omega) hj (.inr h),decide_eq_false (show ¬((i:Int)=s.size) by omega),Bool.and_false]
theorem z37 {s:ByteArray} (h:¬(s.size:Int)<=20):isName s=false:=by
 unfold isName
 rw [decide_eq_false h,Bool.and_false,Bool.false_and]
theorem zmx {c:Int} (h:zaq c=true):zfb c=true:=by unfold zfb;rw [h];rfl
theorem ya5 (s:ByteArray) (hs:s.size<=1073741824):CallsD Γ prog 45 [.one (cS s)] (.one (cB (isName s))):=by
 refine CallsD.run [] Go.Proofs.Tryz.func45 rfl rfl rfl ?_;simp only [Go.Proofs.Tryz.f45];refine hgR ?_
 repeat' ((first | refine hfk ?_ ?_<;>intros | refine hik ?_ | with_reducible first | refine za3 (zt9 _) ?_ | refine za0 (zt9 _) ?_)<;>refine hgS ?_)
 · exact RLe.ofEq (by unfold isName;simp [*])
 · rename_i h1 _ h2 _ h3
   refine zcu [0] (fun n:Nat=>[(3,.one (.dat (cI n)))]) (fun _=>[]) (fun n=>n<=s.size/\0<n/\∀ j,j<n->zfb (zab s j)=true) (fun n=>s.size-n) 1 ⟨by omega,by omega,fun j hj=>?_⟩ ?_ ?_
   · have e:j=0:=by omega
     subst e;exact zmx h3
   · refine hg ?_
     exact StH.same svl rfl
   intro n hn
   obtain ⟨hn,hn0,hj⟩:=hn
   refine hg ?_
   repeat' ((first | refine hfk ?_ ?_<;>intros | refine hik ?_ | with_reducible first | refine za3 (zt9 _) ?_ | refine za0 (zt9 _) ?_ | refine za3 (zir _) ?_ | refine za0 (zir _) ?_)<;>refine hgS ?_)
   · rename_i h4 h5 h6 _
     rw [yhc (by omega) hj (by unfold zfb;rw [h4,h5,decide_eq_false h6];rfl)]
     exact RLe.ofEq rfl
   · rename_i h6 _
     exact ⟨n+1,⟨by omega,by omega,zco hj (by unfold zfb;rw [decide_eq_true (show zab s n=95 by omega),Bool.or_true])⟩,by omega,StH.same svl rfl⟩
   · rename_i h5
     exact ⟨n+1,⟨by omega,by omega,zco hj (by unfold zfb;rw [h5,Bool.or_true,Bool.true_or])⟩,by omega,StH.same svl rfl⟩
   · rename_i h4
     exact ⟨n+1,⟨by omega,by omega,zco hj (zmx h4)⟩,by omega,StH.same svl rfl⟩
   · have e:n=s.size:=by omega
     subst e
     have e:isName s=true:=by
      unfold isName
      rw [ze6 (Nat.le_refl _) hj (.inl rfl),h3,decide_eq_true (show ¬s.size=0 by omega),decide_eq_true (show (s.size:Int)<=20 by omega),decide_eq_true rfl];rfl
     rw [e]
     exact RLe.ofEq rfl
 · rw [z37 (by omega)];exact RLe.ofEq rfl
 · rename_i h _
   have e:s.size=0:=by omega
   exact RLe.ofEq (by unfold isName;rw [e];rfl)
def rEs (s:ByteArray):Nat->ByteArray
 | 0=>⟨#[34]⟩
 | i+1=>(bif decide (zab s i=34)||decide (zab s i=92) then rEs s i++⟨#[92]⟩ else rEs s i)++s.extract i (i+1)
theorem zsb (s:ByteArray) (i:Nat):rEs s (i+1)=(bif decide (zab s i=34)||decide (zab s i=92) then rEs s i++⟨#[92]⟩ else rEs s i)++s.extract i (i+1):=by rw [rEs]
theorem z8o (s:ByteArray):∀ i,(rEs s i).size<=2*i+1
 | 0=>by unfold rEs;decide
 | i+1=>by
  have:=z8o s i
  have h2:(⟨#[92]⟩:ByteArray).size=1:=rfl
  have h3:(s.extract i (i+1)).size<=1:=by rw [ByteArray.size_extract];omega
  unfold rEs
  cases decide (zab s i=34)||decide (zab s i=92)<;>simp only [cond_true,cond_false,ByteArray.size_append]<;>omega
theorem zxu (s:ByteArray) (hs:s.size<=1073741824):CallsD Γ prog 128 [.one (cS s)] (.one (cS (rEs s s.size++⟨#[34]⟩))):=by
 refine CallsD.run [] Go.Proofs.Tryz.func128 rfl rfl rfl ?_;simp only [Go.Proofs.Tryz.f128];refine hgR ?_
 refine zcu [0] (fun n:Nat=>[(3,.one (.dat (cS (rEs s n)))),(4,.one (.dat (cI n)))]) (fun _=>[]) (fun n=>n<=s.size) (fun n=>s.size-n) 0 (Nat.zero_le _) ?_ ?_
 · refine hg ?_
   exact StH.same svl rfl
 intro n hn
 have hl:=z8o s n
 have h3:(s.extract n (n+1)).size<=1:=by rw [ByteArray.size_extract];omega
 have h4:(rEs s n).size+1+(s.extract n (n+1)).size<=9223372036854775807:=by omega
 have h5:(rEs s n).size+(s.extract n (n+1)).size<=9223372036854775807:=by omega
 clear h3 hl
 refine hg ?_
 repeat' ((first | refine hfk ?_ ?_<;>intros | refine hik ?_)<;>refine hgS ?_)
 · rename_i _ _ h6 _
   have e:rEs s n++⟨#[92]⟩++s.extract n (n+1)=rEs s (n+1):=by rw [zsb,decide_eq_true h6,Bool.or_true];rfl
   rw [e]
   exact ⟨n+1,by omega,by omega,StH.same svl rfl⟩
 · rename_i h7 _ h6 _
   have e:rEs s n++s.extract n (n+1)=rEs s (n+1):=by rw [zsb,decide_eq_false h6,decide_eq_false h7];rfl
   rw [e]
   exact ⟨n+1,by omega,by omega,StH.same svl rfl⟩
 · rename_i h7 _
   have e:rEs s n++⟨#[92]⟩++s.extract n (n+1)=rEs s (n+1):=by rw [zsb,decide_eq_true h7,Bool.true_or];rfl
   rw [e]
   exact ⟨n+1,by omega,by omega,StH.same svl rfl⟩
 · have e:n=s.size:=by omega
   subst e
   exact RLe.ofEq rfl
theorem ym5 (s:ByteArray) (hs:s.size<=1073741824):∃ t,CallsD Γ prog 97 [.one (cS s)] (.tup [.one (cS t),.one (cB (zdk s))]):=by
 refine ⟨bif zdk s then rEs s s.size++⟨#[34]⟩ else ⟨#[]⟩,?_⟩
 refine CallsD.run [] Go.Proofs.Tryz.func97 rfl rfl rfl ?_;simp only [Go.Proofs.Tryz.f97];refine hgR ?_
 repeat' ((first | refine hfk ?_ ?_<;>intros | refine hik ?_ | with_reducible first | refine za3 (yem s hs) ?_ | refine za0 (yem s hs) ?_ | refine za3 (zxu s hs) ?_ | refine za0 (zxu s hs) ?_)<;>refine hgS ?_)
 all_goals (refine RLe.ofEq ?_;conv=>simp only [Bool.and_true,Bool.true_and,Bool.and_false,Bool.false_and,Bool.or_true,Bool.true_or,Bool.or_false,Bool.false_or,Bool.not_true,Bool.not_false,decide_true,decide_false,not_true_eq_false,not_false_eq_true,za2,if_true,if_false,Bool.and_self,Bool.or_self,cond_true,cond_false,List.length_map,ne_eq,Int.reduceEq,Int.reduceLT,Int.reduceLE, *,cond_true,cond_false]);first | exact trivial | rfl
end Go.Hp.T
