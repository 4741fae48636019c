/- The proof, part Y34: Nb, Ih, Ne. -/
import Derived.Test.YtjhbbadljohadaaGreatDoorY29
import Derived.Test.YtjhbbadljohadaaGreatDoorY28
import Derived.Test.YtjhbbadljohadaaGreatDoorY33
namespace Go.Hp.T
open Go Go.RowKit Go.Slot Go.Hp Go.Slot.T
open Go.Proofs.Tryz (prog)
set_option maxRecDepth 10000
set_option maxHeartbeats 4000000
variable {Γ:List (Nat×List Cell)}
theorem zve (s:ByteArray):CallsD Γ prog 41 [.one (cS s)] (.one (cB (isWord s))):=by
 refine CallsD.run [] Go.Proofs.Tryz.func41 rfl rfl rfl ?_;simp only [Go.Proofs.Tryz.f41];refine hgR ?_
 repeat' ((first | refine hfk ?_ ?_<;>intros | refine hik ?_)<;>refine hgS ?_)
 all_goals (refine RLe.ofEq ?_;conv=>simp only [Bool.and_true,Bool.true_and,Bool.and_false,Bool.false_and,Bool.or_true,Bool.true_or,Bool.or_false,Bool.false_or,Bool.not_true,Bool.not_false,decide_true,decide_false,not_true_eq_false,not_false_eq_true,za2,if_true,if_false,Bool.and_self,Bool.or_self,cond_true,cond_false,List.length_map,ne_eq,Int.reduceEq,Int.reduceLT,Int.reduceLE, *,isWord]);first | exact trivial | rfl
theorem yeb (s:ByteArray) (hs:s.size<=1099511627776):CallsD Γ prog 85 [.one (cS s)] (.one (cB (isNamed s))):=by
 refine CallsD.run [] Go.Proofs.Tryz.func85 rfl rfl rfl ?_;simp only [Go.Proofs.Tryz.f85];refine hgR ?_
 repeat' ((first | refine hfk ?_ ?_<;>intros | refine hik ?_ | with_reducible first | refine za3 (z0a s hs) ?_ | refine za0 (z0a s hs) ?_ | refine za3 (zve s) ?_ | refine za0 (zve s) ?_)<;>refine hgS ?_)
 all_goals (refine RLe.ofEq ?_;conv=>simp only [Bool.and_true,Bool.true_and,Bool.and_false,Bool.false_and,Bool.or_true,Bool.true_or,Bool.or_false,Bool.false_or,Bool.not_true,Bool.not_false,decide_true,decide_false,not_true_eq_false,not_false_eq_true,za2,if_true,if_false,Bool.and_self,Bool.or_self,cond_true,cond_false,List.length_map,ne_eq,Int.reduceEq,Int.reduceLT,Int.reduceLE, *,isNamed]);first | exact trivial | rfl
theorem zti (o:Int):CallsD Γ prog 86 [.one (cI o)] (.tup [.one (cS (ydg o)),.one (cB (isOp o))]):=by
 refine CallsD.run [] Go.Proofs.Tryz.func86 rfl rfl rfl ?_;simp only [Go.Proofs.Tryz.f86];refine hgR ?_
 repeat' ((first | refine hfk ?_ ?_<;>intros | refine hik ?_)<;>refine hgS ?_)
 all_goals (refine RLe.ofEq ?_;conv=>simp only [Bool.and_true,Bool.true_and,Bool.and_false,Bool.false_and,Bool.or_true,Bool.true_or,Bool.or_false,Bool.false_or,Bool.not_true,Bool.not_false,decide_true,decide_false,not_true_eq_false,not_false_eq_true,za2,if_true,if_false,Bool.and_self,Bool.or_self,cond_true,cond_false,List.length_map,ne_eq,Int.reduceEq,Int.reduceLT,Int.reduceLE, *,isOp,ydg]);first | exact trivial | rfl
theorem ymz (x:Ex) (hx:x.Sm):CallsD Γ prog 53 [.agg (exC x)] (.one (cB (zd5 x))):=by
 have hu:=hx.u
 have hs:=hx.s
 have hl:=hx.len
 obtain ⟨q,hq⟩:∃ q,CallsD Γ prog 84 [.one (cS x.unit)] (.tup [.one (cS q),.one (cB (zdk x.unit))]):=ykr x.unit (by omega)
 refine CallsD.run [] Go.Proofs.Tryz.func53 rfl rfl rfl ?_;simp only [Go.Proofs.Tryz.f53];refine hgR ?_
 repeat' ((first | refine hfk ?_ ?_<;>intros | refine hik ?_ | with_reducible first | refine za3 (hq) ?_ | refine za0 (hq) ?_ | refine za3 (yeb x.name (by omega)) ?_ | refine za0 (yeb x.name (by omega)) ?_ | refine za3 (zti _) ?_ | refine za0 (zti _) ?_)<;>refine hgS ?_)
 all_goals (refine RLe.ofEq ?_;conv=>simp only [Bool.and_true,Bool.true_and,Bool.and_false,Bool.false_and,Bool.or_true,Bool.true_or,Bool.or_false,Bool.false_or,Bool.not_true,Bool.not_false,decide_true,decide_false,not_true_eq_false,not_false_eq_true,za2,if_true,if_false,Bool.and_self,Bool.or_self,cond_true,cond_false,List.length_map,ne_eq,Int.reduceEq,Int.reduceLT,Int.reduceLE, *,zd5]);first | exact trivial | rfl
theorem zzl (l:List Ex) (f:FuncId) (p:Ex->Bool) (hl:l.length<=1073741824) (h:∀ y∈l,CallsD Γ prog f [.agg (exC y)] (.one (cB (p y)))) :
 CallsD Γ prog 66 [.one (.sl 5 (l.map Ex.cells)),fN f] (.one (cI (idxF p l))):=by
 refine CallsD.run [] Go.Proofs.Tryz.func66 rfl rfl rfl ?_;simp only [Go.Proofs.Tryz.f66];refine hgR ?_
 refine zcu [0,1,7] (fun i:Nat=>[(8,.one (.dat (cI i)))]) (fun _=>[]) (fun i=>i<=l.length/\∀ j,j<i->p (l.getD j default)=false) (fun i=>l.length-i) 0 ⟨Nat.zero_le _,fun j hj=>by omega⟩ ?_ ?_
 · refine hg ?_
   exact StH.same svl rfl
 intro i hi
 obtain ⟨hi,hj⟩:=hi
 refine hg ?_
 repeat' ((first | refine hfk ?_ ?_<;>intros | refine hik ?_ | with_reducible first | refine za3 (h _ (zal (show i<l.length by omega))) ?_ | refine za0 (h _ (zal (show i<l.length by omega))) ?_)<;>refine hgS ?_)
 · rename_i hp
   rw [(zjq hi hj).2 (by omega) hp]
   exact RLe.ofEq rfl
 · rename_i hp
   refine ⟨i+1,⟨by omega,fun j hj'=>?_⟩,by omega,StH.same svl rfl⟩
   rcases Nat.lt_or_eq_of_le (Nat.le_of_lt_succ hj') with h2 | h2
   · exact hj j h2
   · rw [h2];exact hp
 · rw [(zjq hi hj).1 (by omega)]
   exact RLe.ofEq rfl
theorem zk9 (l:List Ex) (f:FuncId) (p:Ex->Bool) (hl:l.length<=1073741824) (h:∀ y∈l,CallsD Γ prog f [.agg (exC y)] (.one (cB (p y)))) :
 CallsD Γ prog 39 [.one (.sl 5 (l.map Ex.cells)),fN f] (.one (cB (l.any p))):=by
 refine CallsD.run [] Go.Proofs.Tryz.func39 rfl rfl rfl ?_;simp only [Go.Proofs.Tryz.f39];refine hgR ?_
 repeat' ((first | refine hfk ?_ ?_<;>intros | refine hik ?_ | with_reducible first | refine za3 (zzl l f p hl h) ?_ | refine za0 (zzl l f p hl h) ?_)<;>refine hgS ?_)
 exact RLe.ofEq (by rw [<-zha])
theorem z7c:∀ x:Ex,x.Sm->CallsD Γ prog 29 [.agg (exC x)] (.one (cB x.shaped)):=by
 refine Ex.ind (fun x ih hx=>?_)
 have hl:=hx.len
 have hw:∀ y∈x.args,CallsD Γ prog 52 [.agg (exC y)] (.one (cB (!y.shaped))):=fun y hy=>by
  refine CallsD.run [] Go.Proofs.Tryz.func52 rfl rfl rfl ?_;simp only [Go.Proofs.Tryz.f52];refine hgR ?_
  repeat' ((first | refine hfk ?_ ?_<;>intros | refine hik ?_ | with_reducible first | refine za3 (ih y hy (hx.arg y hy)) ?_ | refine za0 (ih y hy (hx.arg y hy)) ?_)<;>refine hgS ?_)
  exact RLe.ofEq rfl
 refine CallsD.run [] Go.Proofs.Tryz.func29 rfl rfl rfl ?_;simp only [Go.Proofs.Tryz.f29];refine hgR ?_
 repeat' ((first | refine hfk ?_ ?_<;>intros | refine hik ?_ | with_reducible first | refine za3 (ymz x hx) ?_ | refine za0 (ymz x hx) ?_ | refine za3 (zk9 x.args _ _ hl hw) ?_ | refine za0 (zk9 x.args _ _ hl hw) ?_)<;>refine hgS ?_)
 all_goals refine RLe.ofEq ?_
 · rename_i h
   rw [Ex.zeg,h]
   simp [List.all_eq_not_any_not]
 · rename_i h
   rw [Ex.zeg,h];rfl
abbrev nB (n:Int) (T:Option TypeId):SB:=.box [.dat (cI n)] T
theorem ym1:∀ x:Ex,x.Sm->∀(n lv:Int) (T:Option TypeId),0<=n->n<=1000->0<=lv->lv<=1000->
 zaa Γ prog 28 [nB n T] [.agg ((exC x).map .dat),.one (.ptr 0 0),.one (.dat (cI lv))] [nB (x.cnt n lv).2 T] (.one (.dat (cB (x.cnt n lv).1))):=by
 refine Ex.ind (fun x ih hx n lv T h0 h1 h2 h3=>?_)
 have hl:=hx.len
 have fin:∀(b:Bool) (k:Int),x.cnt n lv=(b,k)->StH Γ [nB n T] [SV.one (.dat (cB b))] [nB k T,.box ((exC x).map .dat) (some 24)] [SV.one (.dat (cB (x.cnt n lv).1))] [nB (x.cnt n lv).2 T]:=fun b k h=>by
  rw [h];exact StH.done 1 rfl (by kernel_rfl) rfl rfl
 refine zaa.run [] Go.Proofs.Tryz.func28 rfl rfl ?_;simp only [Go.Proofs.Tryz.f28];refine hgR ?_
 repeat' ((first | refine hfk ?_ ?_<;>intros | refine hik ?_)<;>refine hgS ?_)
 · exact fin _ _ (by rw [Ex.zvl];simp only [*];rfl)
 · have e0:x.cnt n lv=Ex.cntL x.args (n+1) (lv+1):=by rw [Ex.zvl];simp only [*];rfl
   refine zcu [1,2,23,24] (fun p:Nat×Int=>[(25,.one (.dat (cI p.1)))]) (fun p=>[nB p.2 T,.box ((exC x).map .dat) (some 24)]) (fun p=>p.1<=x.args.length/\0<=p.2/\p.2<=200/\Ex.cntL (x.args.drop p.1) p.2 (lv+1)=Ex.cntL x.args (n+1) (lv+1)) (fun p=>x.args.length-p.1) (0,n+1) ⟨Nat.zero_le _,by simp only;omega,by simp only;omega,rfl⟩ ?_ ?_
   · refine hg ?_
     exact StH.same svl rfl
   rintro ⟨i,m⟩ ⟨hi,hm0,hm1,hc⟩
   simp only at hi hm0 hm1 hc
   refine hg ?_
   refine zfv (fun hlt hd=>?_) (fun hlt _=>?_)
   · have hlt':i<x.args.length:=by omega
     have hy:=zal hlt'
     rw [zed hlt'] at hc
     refine hg ?_
     refine ze3 [0] (ih _ hy (hx.arg _ hy) m (lv+1) T (by omega) (by omega) (by omega) (by omega)) rfl (by decide) rfl rfl rfl ?_
     have hstep:=hc
     rw [Ex.cntL] at hstep
     generalize hr:(x.args.getD i default).cnt m (lv+1)=r at hstep ⊢
     obtain ⟨b,k⟩:=r
     refine hg ?_
     cases b with
     | true=>
      have hk:=Ex.ycp _ _ _ _ hr
      refine hg ?_
      exact ⟨(i+1,k),⟨by simp only;omega,by simp only;omega,hk.2,hstep⟩,by simp only;omega,StH.back [1,2,23,24,25] 2 2 2 rfl rfl rfl rfl rfl (by kernel_rfl) (StH.same svl rfl)⟩
     | false=>
      refine hg ?_
      rw [e0,<-hstep]
      exact StH.done 1 rfl (by kernel_rfl) rfl rfl
   · refine hg ?_
     rw [e0,<-hc,List.drop_eq_nil_of_le (by omega),Ex.cntL]
     exact StH.done 1 rfl (by kernel_rfl) rfl rfl
 · exact fin _ _ (by rw [Ex.zvl];simp only [*];rfl)
theorem ztq (x:Ex) (hx:x.Sm):CallsD Γ prog 13 [.agg (exC x)] (.one (cB (zh4 x))):=by
 refine CallsD.run [] Go.Proofs.Tryz.func13 rfl rfl rfl ?_;simp only [Go.Proofs.Tryz.f13];refine hgR ?_
 refine ze3 [1] (ym1 x hx 0 1 _ (by decide) (by decide) (by decide) (by decide)) rfl (by decide) rfl rfl rfl ?_
 refine hg ?_
 repeat' ((first | refine hfk ?_ ?_<;>intros | refine hik ?_ | with_reducible first | refine za3 (z7c x hx) ?_ | refine za0 (z7c x hx) ?_)<;>refine hgS ?_)
 all_goals (refine RLe.ofEq ?_;conv=>simp only [Bool.and_true,Bool.true_and,Bool.and_false,Bool.false_and,Bool.or_true,Bool.true_or,Bool.or_false,Bool.false_or,Bool.not_true,Bool.not_false,decide_true,decide_false,not_true_eq_false,not_false_eq_true,za2,if_true,if_false,Bool.and_self,Bool.or_self,cond_true,cond_false,List.length_map,ne_eq,Int.reduceEq,Int.reduceLT,Int.reduceLE, *,zh4]);first | exact trivial | rfl
end Go.Hp.T

namespace Go.Hp
open Go Go.RowKit Go.Slot
variable {P:Program} {Γ:List (Nat×List Cell)}
theorem z7o {n N i:Nat} (h:i<n):atR (List.range n) N i=i:=zn1 (by simp [h])
theorem zaa.pre {f:FuncId} {ηs ξ:List SB} {args:List SV} {res:SV} (h:zaa Γ P f ηs args ηs res) (hs:∀ r,ηs.map (rnSB r)=ηs) (ha:args.map (zk2 (atR (List.range ηs.length) (ηs++ξ).length))=args) (hr:rnSV (atR (List.range ηs.length) (ηs++ξ).length) res=res):zaa Γ P f (ηs++ξ) args (ηs++ξ) res:=by
 have hfix:∀(r:Nat->Nat) (i:Nat) (x:SB),ηs[i]? = some x->rnSB r x=x:=fun r i x hx=>by
  have:=congrArg (fun l=>l[i]?) (hs r)
  simp only [List.getElem?_map,hx,Option.map_some] at this
  exact Option.some.inj this
 have hlt:∀ j∈List.range ηs.length,j<(ηs++ξ).length:=fun j hj=>by
  rw [List.mem_range] at hj;rw [List.length_append];omega
 have hk:=zaa.frame (φ:=List.range ηs.length) (η:=ηs++ξ) List.nodup_range hlt ⟨by simp,fun i x hx=>by
  have hi:i<ηs.length:=(List.getElem?_eq_some_iff.1 hx).1
  exact ⟨i,by simp [hi],by rw [hfix _ i x hx,List.getElem?_append_left hi];exact hx⟩⟩ (by simp) h
 rw [ha,hr] at hk
 have hp:putR (List.range ηs.length) (ηs++ξ) ηs=ηs++ξ:=by
  apply List.ext_getElem?
  intro i
  by_cases hi:i<ηs.length
  · have h1:=zsw (φ:=List.range ηs.length) (η:=ηs++ξ) (ηs':=ηs) List.nodup_range hlt (List.getElem?_eq_getElem hi)
    rw [z7o hi,hfix _ i _ (List.getElem?_eq_getElem hi)] at h1
    rw [h1,List.getElem?_append_left hi,List.getElem?_eq_getElem hi]
  · by_cases hi2:i<(ηs++ξ).length
    · exact zny hi2 (by simpa using hi)
    · rw [List.getElem?_eq_none (by rw [zt0];simp at hi2 ⊢;omega),List.getElem?_eq_none (by omega)]
 rw [hp] at hk
 exact hk
theorem yjl {f:FuncId} {η ηs ξ:List SB} {args l:List SV} {res:SV} {K:Bool->List SB->SV->Prop} (h:zaa Γ P f ηs args ηs res) (hs:∀ r,ηs.map (rnSB r)=ηs) (hz:dzL η l=args) (hη:appL (frzE η (dzB η l)) η=ηs++ξ) (ha:args.map (zk2 (atR (List.range ηs.length) (ηs++ξ).length))=args) (hr:rnSV (atR (List.range ηs.length) (ηs++ξ).length) res=res) (hk:K true (ηs++ξ) res):zts Γ P f η l K:=by
 subst hz
 refine zhr (zaa.frz ?_) hk
 rw [hη]
 exact zaa.pre h hs ha hr
end Go.Hp
namespace Go.Hp.T
open Go Go.RowKit Go.Slot Go.Hp
theorem zlj {r:Nat->Nat} {l:List (ByteArray×Dm)}:rnSB r (.map (envE l))=.map (envE l):=by
 have:∀ l:List (ByteArray×Dm),(envE l).map (fun p=>(p.1,zk2 r p.2))=envE l:=by
  intro l
  induction l with
  | nil=>rfl
  | cons p l ih=>
   show _::(envE l).map _=_
   rw [ih];rfl
 show SB.map _=_
 rw [this]
theorem zpg (V T:List (ByteArray×Dm)):∀ r,[SB.map (envE V),SB.map (envE T)].map (rnSB r)=[SB.map (envE V),SB.map (envE T)]:=fun r=>by
 simp only [List.map_cons,List.map_nil,zlj]
theorem zm5 {x:Ex} (h:zd5 x=true) (h3:x.op≠3) (h0:x.args.length≠0):(x.op≠2->x.op≠4->2<=x.args.length)/\(x.op=5->3<=x.args.length):=by
 unfold zd5 at h
 by_cases a0:x.op=0
 · rw [decide_eq_true a0,cond_true] at h;simp only [Bool.and_eq_true,decide_eq_true_eq] at h;omega
 rw [decide_eq_false a0,cond_false] at h
 cases hb:(decide (¬x.n=0)||decide (¬x.unit.size=0)) with
 | true=>rw [hb,cond_true] at h;cases h
 | false=>
 rw [hb,cond_false] at h
 by_cases a1:x.op=1
 · rw [decide_eq_true a1,cond_true] at h;simp only [Bool.and_eq_true,decide_eq_true_eq] at h;omega
 rw [decide_eq_false a1,cond_false] at h
 by_cases a2:x.op=2
 · rw [decide_eq_true a2,cond_true] at h;simp only [Bool.and_eq_true,decide_eq_true_eq] at h;omega
 rw [decide_eq_false a2,cond_false] at h
 by_cases a3:x.op=3
 · rw [decide_eq_true a3,cond_true] at h;simp only [Bool.and_eq_true,decide_eq_true_eq] at h;omega
 rw [decide_eq_false a3,cond_false] at h
 by_cases a4:x.op=4
 · rw [decide_eq_true a4,cond_true] at h;simp only [Bool.and_eq_true,decide_eq_true_eq] at h;omega
 rw [decide_eq_false a4,cond_false] at h
 by_cases a5:x.op=5
 · rw [decide_eq_true a5,cond_true] at h;simp only [Bool.and_eq_true,decide_eq_true_eq] at h;omega
 rw [decide_eq_false a5,cond_false] at h
 cases hc:(decide (x.op=10)||decide (x.op=11)) with
 | true=>rw [hc,cond_true] at h;simp only [Bool.and_eq_true,decide_eq_true_eq] at h;omega
 | false=>rw [hc,cond_false] at h;simp only [Bool.and_eq_true,decide_eq_true_eq] at h;omega
end Go.Hp.T

namespace Go.Hp.T
open Go Go.RowKit Go.Slot Go.Hp Go.Slot.T
open Go.Proofs.Tryz (prog)
set_option maxRecDepth 10000
set_option maxHeartbeats 4000000
variable {Γ:List (Nat×List Cell)}
theorem cTIn (n:Int):CallsD Γ prog 70 [.one (cI n)] (.one (cB (inT n))):=by
 refine CallsD.run [] Go.Proofs.Tryz.func70 rfl rfl rfl ?_;simp only [Go.Proofs.Tryz.f70];refine hgR ?_
 repeat' ((first | refine hfk ?_ ?_<;>intros | refine hik ?_)<;>refine hgS ?_)
 all_goals (refine RLe.ofEq ?_;conv=>simp only [Bool.and_true,Bool.true_and,Bool.and_false,Bool.false_and,Bool.or_true,Bool.true_or,Bool.or_false,Bool.false_or,Bool.not_true,Bool.not_false,decide_true,decide_false,not_true_eq_false,not_false_eq_true,za2,if_true,if_false,Bool.and_self,Bool.or_self,cond_true,cond_false,List.length_map,ne_eq,Int.reduceEq,Int.reduceLT,Int.reduceLE, *,inT]);first | exact trivial | rfl
theorem zfa (s:ByteArray) (hs:s.size<=1073741824):CallsD Γ prog 14 [.one (cS s)] (.tup [.agg (unX (zaz s).1),.one (cI (zaz s).2)]):=by
 have:=ykw (Γ:=Γ) s hs
 rw [ydt] at this
 exact this
theorem yp1:(zjc prog 9 30=some 6)=True:=eq_true (by kernel_rfl)
theorem yoh:aggT prog 30=true:=by kernel_rfl
theorem ynr:prog.eqGuardType prog.depth 30=false:=by kernel_rfl
theorem ymq (a b c d e f:Int):fitT prog 9 30 [.int .i64 a,.int .i64 b,.int .i64 c,.int .i64 d,.int .i64 e,.int .i64 f]=true:=by kernel_rfl
attribute [go_sem] yp1 yoh ynr ymq
theorem zru (t:Tb) (h1:t.name.size<=1073741824) (h2:t.unit.size<=1073741824) (h3:t.rows.length<=1073741824):CallsD Γ prog 42 [.agg (tbC t)] (.one (cB (zca (fun s=>(zaz s).2) t))):=by
 refine CallsD.run [] Go.Proofs.Tryz.func42 rfl rfl rfl ?_;simp only [Go.Proofs.Tryz.f42];refine hgR ?_
 repeat' ((first | refine hfk ?_ ?_<;>intros | refine hik ?_ | with_reducible first | refine za3 (zfa t.unit h2) ?_ | refine za0 (zfa t.unit h2) ?_ | refine za3 (z0a t.name (by omega)) ?_ | refine za0 (z0a t.name (by omega)) ?_)<;>refine hgS ?_)
 · (refine RLe.ofEq ?_;conv=>simp only [Bool.and_true,Bool.true_and,Bool.and_false,Bool.false_and,Bool.or_true,Bool.true_or,Bool.or_false,Bool.false_or,Bool.not_true,Bool.not_false,decide_true,decide_false,not_true_eq_false,not_false_eq_true,za2,if_true,if_false,Bool.and_self,Bool.or_self,cond_true,cond_false,List.length_map,ne_eq,Int.reduceEq,Int.reduceLT,Int.reduceLE, *,zca]);first | exact trivial | rfl
 · refine zcu [1,28,29] (fun i:Nat=>[(30,.one (.dat (cI i)))]) (fun _=>[.box ((tbC t).map .dat) (some 55),.box ((unX (zaz t.unit).1).map .dat) (some 49)]) (fun i=>i<=t.rows.length/\∀ j,j<i->rowAt t.rows j=true) (fun i=>t.rows.length-i) 0 ⟨Nat.zero_le _,fun j hj=>by omega⟩ ?_ ?_
   · refine hg ?_
     exact StH.same svl rfl
   rintro i ⟨hi,hj⟩
   have hbad:rowAt t.rows i=false->i<t.rows.length->zca (fun s=>(zaz s).2) t=false:=fun h h'=>by
    unfold zca z8g;rw [zey h' h,Bool.and_false]
   refine hg ?_
   repeat' ((first | refine hfk ?_ ?_<;>intros | refine hik ?_ | with_reducible first | refine za3 (cTIn _) ?_ | refine za0 (cTIn _) ?_)<;>refine hgS ?_)
   all_goals first
    | (rw [hbad (by ((conv=>simp only [Bool.and_true,Bool.true_and,Bool.and_false,Bool.false_and,Bool.or_true,Bool.true_or,Bool.or_false,Bool.false_or,Bool.not_true,Bool.not_false,decide_true,decide_false,not_true_eq_false,not_false_eq_true,za2,if_true,if_false,Bool.and_self,Bool.or_self,cond_true,cond_false,List.length_map,ne_eq,Int.reduceEq,Int.reduceLT,Int.reduceLE, *,rowAt])<;>try exact trivial)) (by omega)];exact RLe.ofEq rfl)
    | (refine ⟨i+1,⟨by omega,zho hj (by ((conv=>simp only [Bool.and_true,Bool.true_and,Bool.and_false,Bool.false_and,Bool.or_true,Bool.true_or,Bool.or_false,Bool.false_or,Bool.not_true,Bool.not_false,decide_true,decide_false,not_true_eq_false,not_false_eq_true,za2,if_true,if_false,Bool.and_self,Bool.or_self,cond_true,cond_false,List.length_map,ne_eq,Int.reduceEq,Int.reduceLT,Int.reduceLE, *,rowAt])<;>try exact trivial))⟩,by omega,StH.back [1,28,29,30] 2 2 2 rfl rfl rfl rfl rfl (by kernel_rfl) (StH.same svl rfl)⟩)
    | (refine RLe.ofEq ?_;rw [show zca (fun s=>(zaz s).2) t=true from by unfold zca z8g;rw [zl9 (fun j hj'=>hj j (by omega))];((conv=>simp only [Bool.and_true,Bool.true_and,Bool.and_false,Bool.false_and,Bool.or_true,Bool.true_or,Bool.or_false,Bool.false_or,Bool.not_true,Bool.not_false,decide_true,decide_false,not_true_eq_false,not_false_eq_true,za2,if_true,if_false,Bool.and_self,Bool.or_self,cond_true,cond_false,List.length_map,ne_eq,Int.reduceEq,Int.reduceLT,Int.reduceLE, *])<;>try exact trivial)])
 · (refine RLe.ofEq ?_;conv=>simp only [Bool.and_true,Bool.true_and,Bool.and_false,Bool.false_and,Bool.or_true,Bool.true_or,Bool.or_false,Bool.false_or,Bool.not_true,Bool.not_false,decide_true,decide_false,not_true_eq_false,not_false_eq_true,za2,if_true,if_false,Bool.and_self,Bool.or_self,cond_true,cond_false,List.length_map,ne_eq,Int.reduceEq,Int.reduceLT,Int.reduceLE, *,zca]);first | exact trivial | rfl
 · (refine RLe.ofEq ?_;conv=>simp only [Bool.and_true,Bool.true_and,Bool.and_false,Bool.false_and,Bool.or_true,Bool.true_or,Bool.or_false,Bool.false_or,Bool.not_true,Bool.not_false,decide_true,decide_false,not_true_eq_false,not_false_eq_true,za2,if_true,if_false,Bool.and_self,Bool.or_self,cond_true,cond_false,List.length_map,ne_eq,Int.reduceEq,Int.reduceLT,Int.reduceLE, *,zca]);first | exact trivial | rfl
theorem zyn (a b r:Ty):CallsD Γ prog 73 [.agg (tyC a),.agg (tyC b),.agg (tyC r)] (tyR (zhu a b r)):=by
 refine CallsD.run [] Go.Proofs.Tryz.func73 rfl rfl rfl ?_;simp only [Go.Proofs.Tryz.f73];refine hgR ?_
 repeat' ((first | refine hfk ?_ ?_<;>intros | refine hik ?_)<;>refine hgS ?_)
 all_goals (refine RLe.ofEq ?_;conv=>simp only [Bool.and_true,Bool.true_and,Bool.and_false,Bool.false_and,Bool.or_true,Bool.true_or,Bool.or_false,Bool.false_or,Bool.not_true,Bool.not_false,decide_true,decide_false,not_true_eq_false,not_false_eq_true,za2,if_true,if_false,Bool.and_self,Bool.or_self,cond_true,cond_false,List.length_map,ne_eq,Int.reduceEq,Int.reduceLT,Int.reduceLE, *,zhu]);first | exact trivial | rfl
theorem zeq (d:Dm):CallsD Γ prog 71 [.agg (dmC d)] (.agg (tyC ⟨false,d⟩)):=by
 refine CallsD.run [] Go.Proofs.Tryz.func71 rfl rfl rfl ?_;simp only [Go.Proofs.Tryz.f71];refine hgR ?_
 repeat' ((first | refine hfk ?_ ?_<;>intros | refine hik ?_)<;>refine hgS ?_)
 all_goals (refine RLe.ofEq ?_;conv=>simp only [Bool.and_true,Bool.true_and,Bool.and_false,Bool.false_and,Bool.or_true,Bool.true_or,Bool.or_false,Bool.false_or,Bool.not_true,Bool.not_false,decide_true,decide_false,not_true_eq_false,not_false_eq_true,za2,if_true,if_false,Bool.and_self,Bool.or_self,cond_true,cond_false,List.length_map,ne_eq,Int.reduceEq,Int.reduceLT,Int.reduceLE, *]);first | exact trivial | rfl
theorem zzv:CallsD Γ prog 74 [] (.agg (tyC ⟨true,Dm.zero⟩)):=by
 refine CallsD.run [] Go.Proofs.Tryz.func74 rfl rfl rfl ?_;simp only [Go.Proofs.Tryz.f74];refine hgR ?_
 repeat' ((first | refine hfk ?_ ?_<;>intros | refine hik ?_)<;>refine hgS ?_)
 all_goals (refine RLe.ofEq ?_;conv=>simp only [Bool.and_true,Bool.true_and,Bool.and_false,Bool.false_and,Bool.or_true,Bool.true_or,Bool.or_false,Bool.false_or,Bool.not_true,Bool.not_false,decide_true,decide_false,not_true_eq_false,not_false_eq_true,za2,if_true,if_false,Bool.and_self,Bool.or_self,cond_true,cond_false,List.length_map,ne_eq,Int.reduceEq,Int.reduceLT,Int.reduceLE, *]);first | exact trivial | rfl
theorem zy5 (o:Int) (a b:Ty):CallsD Γ prog 75 [.one (cI o),.agg (tyC a),.agg (tyC b)] (tyR (zja o a b)):=by
 refine CallsD.run [] Go.Proofs.Tryz.func75 rfl rfl rfl ?_;simp only [Go.Proofs.Tryz.f75];refine hgR ?_
 repeat' ((first | refine hfk ?_ ?_<;>intros | refine hik ?_ | with_reducible first | refine za3 (z6w a.d b.d) ?_ | refine za0 (z6w a.d b.d) ?_ | refine za3 (z5t a.d b.d) ?_ | refine za0 (z5t a.d b.d) ?_ | refine za3 (zeq _) ?_ | refine za0 (zeq _) ?_)<;>refine hgS ?_)
 all_goals (refine RLe.ofEq ?_;conv=>simp only [Bool.and_true,Bool.true_and,Bool.and_false,Bool.false_and,Bool.or_true,Bool.true_or,Bool.or_false,Bool.false_or,Bool.not_true,Bool.not_false,decide_true,decide_false,not_true_eq_false,not_false_eq_true,za2,if_true,if_false,Bool.and_self,Bool.or_self,cond_true,cond_false,List.length_map,ne_eq,Int.reduceEq,Int.reduceLT,Int.reduceLE, *,zja]);first | exact trivial | rfl
theorem ydr:∀ x:Ex,x.Sm->CallsD Γ prog 21 [.agg (exC x)] (.one (cB x.zci)):=by
 refine Ex.ind (fun x ih hx=>?_)
 have hl:=hx.len
 have hc:CallsD Γ prog 39 [.one (.sl 5 (x.args.map Ex.cells)),fN 21] (.one (cB (x.args.any Ex.zci))):=zk9 x.args _ _ hl (fun y hy=>ih y hy (hx.arg y hy))
 refine CallsD.run [] Go.Proofs.Tryz.func21 rfl rfl rfl ?_;simp only [Go.Proofs.Tryz.f21];refine hgR ?_
 repeat' ((first | refine hfk ?_ ?_<;>intros | refine hik ?_ | with_reducible first | refine za3 (hc) ?_ | refine za0 (hc) ?_)<;>refine hgS ?_)
 all_goals refine RLe.ofEq ?_
 all_goals rw [Ex.zgm]
 all_goals ((conv=>simp only [Bool.and_true,Bool.true_and,Bool.and_false,Bool.false_and,Bool.or_true,Bool.true_or,Bool.or_false,Bool.false_or,Bool.not_true,Bool.not_false,decide_true,decide_false,not_true_eq_false,not_false_eq_true,za2,if_true,if_false,Bool.and_self,Bool.or_self,cond_true,cond_false,List.length_map,ne_eq,Int.reduceEq,Int.reduceLT,Int.reduceLE, *])<;>try exact trivial)
theorem zza (l:List Ty) (f:FuncId) (p:Ty->Bool) (hl:l.length<=1073741824) (h:∀ y∈l,CallsD Γ prog f [.agg (tyC y)] (.one (cB (p y)))) :
 CallsD Γ prog 132 [.one (.sl 7 (l.map Ty.C)),fN f] (.one (cI (idxF p l))):=by
 refine CallsD.run [] Go.Proofs.Tryz.func132 rfl rfl rfl ?_;simp only [Go.Proofs.Tryz.f132];refine hgR ?_
 refine zcu [0,1,7] (fun i:Nat=>[(8,.one (.dat (cI i)))]) (fun _=>[]) (fun i=>i<=l.length/\∀ j,j<i->p (l.getD j default)=false) (fun i=>l.length-i) 0 ⟨Nat.zero_le _,fun j hj=>by omega⟩ ?_ ?_
 · refine hg ?_
   exact StH.same svl rfl
 intro i hi
 obtain ⟨hi,hj⟩:=hi
 refine hg ?_
 repeat' ((first | refine hfk ?_ ?_<;>intros | refine hik ?_ | with_reducible first | refine za3 (h _ (zal (show i<l.length by omega))) ?_ | refine za0 (h _ (zal (show i<l.length by omega))) ?_)<;>refine hgS ?_)
 · rename_i hp
   rw [(zjq hi hj).2 (by omega) hp]
   exact RLe.ofEq rfl
 · rename_i hp
   exact ⟨i+1,⟨by omega,zho hj hp⟩,by omega,StH.same svl rfl⟩
 · rw [(zjq hi hj).1 (by omega)]
   exact RLe.ofEq rfl
theorem zwm (l:List Ty) (f:FuncId) (p:Ty->Bool) (hl:l.length<=1073741824) (h:∀ y∈l,CallsD Γ prog f [.agg (tyC y)] (.one (cB (p y)))) :
 CallsD Γ prog 103 [.one (.sl 7 (l.map Ty.C)),fN f] (.one (cB (l.any p))):=by
 refine CallsD.run [] Go.Proofs.Tryz.func103 rfl rfl rfl ?_;simp only [Go.Proofs.Tryz.f103];refine hgR ?_
 repeat' ((first | refine hfk ?_ ?_<;>intros | refine hik ?_ | with_reducible first | refine za3 (zza l f p hl h) ?_ | refine za0 (zza l f p hl h) ?_)<;>refine hgS ?_)
 exact RLe.ofEq (by rw [<-zha])
theorem yfy (t:Ty):CallsD Γ prog 104 [.agg (tyC t)] (.one (cB (!t.t))):=by
 refine CallsD.run [] Go.Proofs.Tryz.func104 rfl rfl rfl ?_;simp only [Go.Proofs.Tryz.f104];refine hgR ?_
 repeat' ((first | refine hfk ?_ ?_<;>intros | refine hik ?_)<;>refine hgS ?_)
 all_goals (refine RLe.ofEq ?_;conv=>simp only [Bool.and_true,Bool.true_and,Bool.and_false,Bool.false_and,Bool.or_true,Bool.true_or,Bool.or_false,Bool.false_or,Bool.not_true,Bool.not_false,decide_true,decide_false,not_true_eq_false,not_false_eq_true,za2,if_true,if_false,Bool.and_self,Bool.or_self,cond_true,cond_false,List.length_map,ne_eq,Int.reduceEq,Int.reduceLT,Int.reduceLE, *]);first | exact trivial | rfl
theorem ydw (l:List Ty) (hl:l.length<=1073741824):CallsD Γ prog 76 [.one (.sl 7 (l.map Ty.C))] (tyR (z8m l)):=by
 have hc:CallsD Γ prog 103 [.one (.sl 7 (l.map Ty.C)),fN 104] (.one (cB (l.any (fun t=>!t.t)))):=zwm l _ _ hl (fun y _=>yfy y)
 refine CallsD.run [] Go.Proofs.Tryz.func76 rfl rfl rfl ?_;simp only [Go.Proofs.Tryz.f76];refine hgR ?_
 repeat' ((first | refine hfk ?_ ?_<;>intros | refine hik ?_ | with_reducible first | refine za3 (hc) ?_ | refine za0 (hc) ?_ | refine za3 (zzv) ?_ | refine za0 (zzv) ?_)<;>refine hgS ?_)
 all_goals (refine RLe.ofEq ?_;conv=>simp only [Bool.and_true,Bool.true_and,Bool.and_false,Bool.false_and,Bool.or_true,Bool.true_or,Bool.or_false,Bool.false_or,Bool.not_true,Bool.not_false,decide_true,decide_false,not_true_eq_false,not_false_eq_true,za2,if_true,if_false,Bool.and_self,Bool.or_self,cond_true,cond_false,List.length_map,ne_eq,Int.reduceEq,Int.reduceLT,Int.reduceLE, *,z8m]);first | exact trivial | rfl
abbrev mE (l:List (ByteArray×Dm)):SB:=.map (envE l)
theorem yfm {x:Dm}:(decide (x.a=0)&&(decide (x.b=0)&&(decide (x.c=0)&&(decide (x.d=0)&&(decide (x.e=0)&&decide (x.f=0))))))=decide (x=Dm.zero):=ylo (y:=Dm.zero)
attribute [go_sem] yfm
theorem yox (V T:List (ByteArray×Dm)) (s:ByteArray) (k:Ty):zaa Γ prog 72 [mE V,mE T] [.agg [.mp 0,.mp 1],.one (.dat (cS s)),.agg ((tyC k).map .dat)] [mE V,mE T] (tyS (zuh T s k)):=by
 cases h:zbc T s with
 | none=>
  refine zaa.run [] Go.Proofs.Tryz.func72 rfl rfl ?_;simp only [Go.Proofs.Tryz.f72];refine hgR ?_
  conv=>simp (maxSteps:=2000000) (disch:=omega) only [go_sem,Nat.reduceAdd,Nat.reduceSub,Nat.reduceMul,Int.reduceToNat,Nat.reduceEqDiff,Nat.reduceBEq,Nat.reduceBneDiff,Nat.reduceLT,Int.reduceEq,Int.reduceLT,Int.reduceLE,Int.reduceNeg,Int.reduceAdd,Int.reduceSub,Int.reduceMul,h]
  repeat' ((first | refine hfk ?_ ?_<;>intros | refine hik ?_)<;>refine hgS ?_)
  exact StH.ztb rfl (by kernel_rfl) (by simp only [zuh,h];rfl)
 | some d=>
  refine zaa.run [] Go.Proofs.Tryz.func72 rfl rfl ?_;simp only [Go.Proofs.Tryz.f72];refine hgR ?_
  conv=>simp (maxSteps:=2000000) (disch:=omega) only [go_sem,Nat.reduceAdd,Nat.reduceSub,Nat.reduceMul,Int.reduceToNat,Nat.reduceEqDiff,Nat.reduceBEq,Nat.reduceBneDiff,Nat.reduceLT,Int.reduceEq,Int.reduceLT,Int.reduceLE,Int.reduceNeg,Int.reduceAdd,Int.reduceSub,Int.reduceMul,h]
  repeat' ((first | refine hfk ?_ ?_<;>intros | refine hik ?_ | with_reducible first | refine za3 (zeq d) ?_ | refine za0 (zeq d) ?_)<;>refine hgS ?_)
  all_goals exact StH.ztb rfl (by kernel_rfl) (by (((conv=>simp only [Bool.and_true,Bool.true_and,Bool.and_false,Bool.false_and,Bool.or_true,Bool.true_or,Bool.or_false,Bool.false_or,Bool.not_true,Bool.not_false,decide_true,decide_false,not_true_eq_false,not_false_eq_true,za2,if_true,if_false,Bool.and_self,Bool.or_self,cond_true,cond_false,List.length_map,ne_eq,Int.reduceEq,Int.reduceLT,Int.reduceLE, *,zuh,h])<;>try exact trivial))<;>first | rfl | trivial)
def znf (V:List (ByteArray×Dm)) (x:Ex):Ty×Int:=bif decide (x.op=1) then (match zbc V x.name with
 | none=>(Ty.zero,11)
 | some d=>(⟨false,d⟩,0)) else
 bif decide (¬(zaz x.unit).2=0) then (Ty.zero,14) else (⟨false,dmO (zaz x.unit).1⟩,0)
theorem yo4 (V T:List (ByteArray×Dm)) (x:Ex) (hx:x.Sm):zaa Γ prog 43 [mE V,mE T] [.agg [.mp 0,.mp 1],.agg ((exC x).map .dat)] [mE V,mE T] (tyS (znf V x)):=by
 have hu:=hx.u
 cases h:zbc V x.name with
 | none=>
  refine zaa.run [] Go.Proofs.Tryz.func43 rfl rfl ?_;simp only [Go.Proofs.Tryz.f43];refine hgR ?_
  repeat' ((first | refine hfk ?_ ?_<;>intros | refine hik ?_ | with_reducible first | refine za3 (zfa x.unit hu) ?_ | refine za0 (zfa x.unit hu) ?_ | refine za3 (zeq _) ?_ | refine za0 (zeq _) ?_)<;>refine hgS ?_)
  all_goals try conv=>simp (maxSteps:=2000000) (disch:=omega) only [go_sem,Nat.reduceAdd,Nat.reduceSub,Nat.reduceMul,Int.reduceToNat,Nat.reduceEqDiff,Nat.reduceBEq,Nat.reduceBneDiff,Nat.reduceLT,Int.reduceEq,Int.reduceLT,Int.reduceLE,Int.reduceNeg,Int.reduceAdd,Int.reduceSub,Int.reduceMul,h]
  all_goals try repeat' ((first | refine hfk ?_ ?_<;>intros | refine hik ?_ | with_reducible first | refine za3 (zfa x.unit hu) ?_ | refine za0 (zfa x.unit hu) ?_ | refine za3 (zeq _) ?_ | refine za0 (zeq _) ?_)<;>refine hgS ?_)
  all_goals exact StH.ztb rfl (by kernel_rfl) (by (((conv=>simp only [Bool.and_true,Bool.true_and,Bool.and_false,Bool.false_and,Bool.or_true,Bool.true_or,Bool.or_false,Bool.false_or,Bool.not_true,Bool.not_false,decide_true,decide_false,not_true_eq_false,not_false_eq_true,za2,if_true,if_false,Bool.and_self,Bool.or_self,cond_true,cond_false,List.length_map,ne_eq,Int.reduceEq,Int.reduceLT,Int.reduceLE, *,znf,h])<;>try exact trivial))<;>first | rfl | trivial)
 | some d=>
  refine zaa.run [] Go.Proofs.Tryz.func43 rfl rfl ?_;simp only [Go.Proofs.Tryz.f43];refine hgR ?_
  repeat' ((first | refine hfk ?_ ?_<;>intros | refine hik ?_ | with_reducible first | refine za3 (zfa x.unit hu) ?_ | refine za0 (zfa x.unit hu) ?_ | refine za3 (zeq _) ?_ | refine za0 (zeq _) ?_)<;>refine hgS ?_)
  all_goals try conv=>simp (maxSteps:=2000000) (disch:=omega) only [go_sem,Nat.reduceAdd,Nat.reduceSub,Nat.reduceMul,Int.reduceToNat,Nat.reduceEqDiff,Nat.reduceBEq,Nat.reduceBneDiff,Nat.reduceLT,Int.reduceEq,Int.reduceLT,Int.reduceLE,Int.reduceNeg,Int.reduceAdd,Int.reduceSub,Int.reduceMul,h]
  all_goals try repeat' ((first | refine hfk ?_ ?_<;>intros | refine hik ?_ | with_reducible first | refine za3 (zfa x.unit hu) ?_ | refine za0 (zfa x.unit hu) ?_ | refine za3 (zeq _) ?_ | refine za0 (zeq _) ?_)<;>refine hgS ?_)
  all_goals exact StH.ztb rfl (by kernel_rfl) (by (((conv=>simp only [Bool.and_true,Bool.true_and,Bool.and_false,Bool.false_and,Bool.or_true,Bool.true_or,Bool.or_false,Bool.false_or,Bool.not_true,Bool.not_false,decide_true,decide_false,not_true_eq_false,not_false_eq_true,za2,if_true,if_false,Bool.and_self,Bool.or_self,cond_true,cond_false,List.length_map,ne_eq,Int.reduceEq,Int.reduceLT,Int.reduceLE, *,znf,h])<;>try exact trivial))<;>first | rfl | trivial)
theorem yld (V T:List (ByteArray×Dm)) (x:Ex) (ts:List Ty) (hl:ts.length<=1073741824) (h1:1<=ts.length) (h2:x.op≠2->x.op≠4->2<=ts.length) (h3:x.op=5->3<=ts.length) :
 zaa Γ prog 44 [mE V,mE T] [.agg [.mp 0,.mp 1],.agg ((exC x).map .dat),.one (.dat (.sl 7 (ts.map Ty.C)))] [mE V,mE T] (tyS (zjw T x.op x.name ts)):=by
 refine zaa.run [] Go.Proofs.Tryz.func44 rfl rfl ?_;simp only [Go.Proofs.Tryz.f44];refine hgR ?_
 repeat' ((first | refine hfk ?_ ?_<;>intros | refine hik ?_ | with_reducible first | refine za3 (zyn (ts.getD 0 default) (ts.getD 1 default) ⟨true,Dm.zero⟩) ?_ | refine za0 (zyn (ts.getD 0 default) (ts.getD 1 default) ⟨true,Dm.zero⟩) ?_ | refine za3 (zyn _ _ _) ?_ | refine za0 (zyn _ _ _) ?_ | refine za3 (zy5 _ _ _) ?_ | refine za0 (zy5 _ _ _) ?_ | refine za3 (ydw ts hl) ?_ | refine za0 (ydw ts hl) ?_ | refine za3 (zzv) ?_ | refine za0 (zzv) ?_)<;>refine hgS ?_)
 · refine yle [] (zaa.pre (yox V T x.name (ts.getD 0 default)) (zpg V T) rfl rfl) ?_
   refine hg ?_
   repeat' ((first | refine hfk ?_ ?_<;>intros | refine hik ?_)<;>refine hgS ?_)
   exact StH.ztb rfl (by kernel_rfl) (by (((conv=>simp only [Bool.and_true,Bool.true_and,Bool.and_false,Bool.false_and,Bool.or_true,Bool.true_or,Bool.or_false,Bool.false_or,Bool.not_true,Bool.not_false,decide_true,decide_false,not_true_eq_false,not_false_eq_true,za2,if_true,if_false,Bool.and_self,Bool.or_self,cond_true,cond_false,List.length_map,ne_eq,Int.reduceEq,Int.reduceLT,Int.reduceLE, *,zjw])<;>try exact trivial))<;>first | rfl | trivial)
 all_goals exact StH.ztb rfl (by kernel_rfl) (by (((conv=>simp only [Bool.and_true,Bool.true_and,Bool.and_false,Bool.false_and,Bool.or_true,Bool.true_or,Bool.or_false,Bool.false_or,Bool.not_true,Bool.not_false,decide_true,decide_false,not_true_eq_false,not_false_eq_true,za2,if_true,if_false,Bool.and_self,Bool.or_self,cond_true,cond_false,List.length_map,ne_eq,Int.reduceEq,Int.reduceLT,Int.reduceLE, *,zjw])<;>try exact trivial))<;>first | rfl | trivial)
mutual
def Ex.ty (V T:List (ByteArray×Dm)):Ex->Ty×Int
 | .mk o n u s l=>bif decide ((l.length:Int)=0) then znf V (.mk o n u s l) else
  match Ex.tyL V T l with
  | .inl e=>(Ty.zero,e)
  | .inr ts=>zjw T o s ts
def Ex.tyL (V T:List (ByteArray×Dm)):List Ex->Int ⊕ List Ty
 | []=>.inr []
 | y::l=>match Ex.ty V T y with
  | (t,e)=>bif decide (¬e=0) then .inl e else match Ex.tyL V T l with
   | .inl e=>.inl e
   | .inr ts=>.inr (t::ts)
end
theorem Ex.z32 (V T:List (ByteArray×Dm)) (x:Ex):x.ty V T=bif decide ((x.args.length:Int)=0) then znf V x else
 match Ex.tyL V T x.args with
 | .inl e=>(Ty.zero,e)
 | .inr ts=>zjw T x.op x.name ts:=by cases x;rw [Ex.ty];rfl
theorem cOf (V T:List (ByteArray×Dm)):∀ x:Ex,x.Sm->x.shaped=true->x.zci=false->zaa Γ prog 23 [mE V,mE T] [.agg [.mp 0,.mp 1],.agg ((exC x).map .dat)] [mE V,mE T] (tyS (x.ty V T)):=by
 refine Ex.ind (fun x ih hx hsh hcl=>?_)
 have hl:=hx.len
 refine zaa.run [] Go.Proofs.Tryz.func23 rfl rfl ?_;simp only [Go.Proofs.Tryz.f23];refine hgR ?_
 repeat' ((first | refine hfk ?_ ?_<;>intros | refine hik ?_)<;>refine hgS ?_)
 · refine zhr (zaa.pre (yo4 V T x hx) (zpg V T) rfl rfl) ?_
   refine hg ?_
   rename_i h
   exact StH.ztb rfl (by kernel_rfl) (by rw [Ex.z32,h];rfl)
 · rename_i h0 hd0
   have hne:x.args.length≠0:=by omega
   have hnode:zd5 x=true:=by rw [Ex.zeg,Bool.and_eq_true] at hsh;exact hsh.1
   have hargs:∀ y∈x.args,y.shaped=true:=by rw [Ex.zeg,Bool.and_eq_true,List.all_eq_true] at hsh;exact hsh.2
   have hcalls:x.op≠3/\∀ y∈x.args,y.zci=false:=by
    rw [Ex.zgm,Bool.or_eq_false_iff,decide_eq_false_iff_not,List.any_eq_false] at hcl
    exact ⟨hcl.1,fun y hy=>by simpa using hcl.2 y hy⟩
   obtain ⟨hl2,hl3⟩:=zm5 hnode hcalls.1 hne
   have hty:x.ty V T=match Ex.tyL V T x.args with
    | .inl e=>(Ty.zero,e)
    | .inr ts=>zjw T x.op x.name ts:=by rw [Ex.z32,hd0,cond_false]
   refine zcu [2,3,4,21,22] (fun p:Nat×List Ty=>[(6,.one (.sl 5 7 0 p.2.length)),(23,.one (.dat (cI p.1)))])
    (fun p=>[mE V,mE T,.box [.mp 0,.mp 1] (some 63),.box ((exC x).map .dat) (some 24),.box ((tyC Ty.zero).map .dat) (some 32),.arr (.sl 7 (p.2.map Ty.C)) 0 (some 32)])
    (fun p=>p.1<=x.args.length/\p.2.length=p.1/\Ex.tyL V T x.args=match Ex.tyL V T (x.args.drop p.1) with
      | .inl e=>.inl e
      | .inr r=>.inr (p.2++r)) (fun p=>x.args.length-p.1) (0,[]) ⟨Nat.zero_le _,rfl,by simp only [List.drop_zero,List.nil_append];split<;>simp only [*]⟩ ?_ ?_
   · refine hg ?_
     refine StH.trans (StH.empty (d:=6) (es:=7) (c:=.sl 7 []) (T:=some 32) rfl rfl (fun r hr=>by cases hr) rfl) ?_
     refine hg ?_
     exact StH.same svl rfl
   rintro ⟨i,ts⟩ ⟨h1,h2,h3⟩
   simp only at h1 h2 h3
   refine hg ?_
   refine zfv (fun hlt _=>?_) (fun hlt _=>?_)
   · have hlt':i<x.args.length:=by omega
     have hy:=zal hlt'
     rw [zed hlt',Ex.tyL] at h3
     refine hg ?_
     refine zhr (zaa.pre (ih _ hy (hx.arg _ hy) (hargs _ hy) (hcalls.2 _ hy)) (zpg V T) rfl rfl) ?_
     generalize hr:Ex.ty V T (x.args.getD i default)=r at h3 ⊢
     obtain ⟨t,e⟩:=r
     simp only at h3
     refine hg ?_
     refine zfv (fun he hd=>?_) (fun he hd=>?_)
     · refine hg ?_
       have h3':Ex.tyL V T x.args=.inl e:=by rw [h3,show decide (¬e=0)=true from hd];rfl
       exact StH.ztb rfl (by kernel_rfl) (by rw [hty,h3'];rfl)
     · refine hg ?_
       rw [show decide (¬e=0)=false from hd,cond_false] at h3
       have h3':Ex.tyL V T x.args=match Ex.tyL V T (x.args.drop (i+1)) with
        | .inl e=>.inl e
        | .inr r=>.inr ((ts++[t])++r):=by
        rw [h3]
        cases Ex.tyL V T (x.args.drop (i+1)) with
        | inl e=>rfl
        | inr r=>simp only [List.append_assoc,List.singleton_append]
       have hmap:ts.map Ty.C++[tyC t]=(ts++[t]).map Ty.C:=by simp;rfl
       rw [hmap]
       refine ⟨(i+1,ts++[t]),⟨by dsimp only;omega,by dsimp only;rw [List.length_append,List.length_singleton,h2],h3'⟩,by dsimp only;omega,?_⟩
       refine StH.yp0 [2,3,4,6,21,22,23] 5 8 6 rfl rfl rfl rfl rfl rfl rfl (by kernel_rfl) ?_
       refine hg ?_
       exact StH.same svl rfl
   · have h3':Ex.tyL V T x.args=.inr ts:=by rw [h3,List.drop_eq_nil_of_le (by omega),Ex.tyL];simp only [List.append_nil]
     refine hg ?_
     refine yjl (yld V T x ts (by omega) (by omega) (fun a b=>by have:=hl2 a b;omega) (fun a=>by have:=hl3 a;omega)) (ξ:=[.box [.mp 0,.mp 1] (some 63),.box ((exC x).map .dat) (some 24),.box ((tyC Ty.zero).map .dat) (some 32),.arr (.sl 7 (ts.map Ty.C)) (ts.length*7) (some 32)]) (zpg V T) ?_ ?_ rfl rfl ?_
     · conv=>simp (maxSteps:=2000000) (disch:=omega) only [go_sem,Nat.reduceAdd,Nat.reduceSub,Nat.reduceMul,Int.reduceToNat,Nat.reduceEqDiff,Nat.reduceBEq,Nat.reduceBneDiff,Nat.reduceLT,Int.reduceEq,Int.reduceLT,Int.reduceLE,Int.reduceNeg,Int.reduceAdd,Int.reduceSub,Int.reduceMul,dzL,dzS]
       exact trivial
     · conv=>simp (maxSteps:=2000000) (disch:=omega) only [go_sem,Nat.reduceAdd,Nat.reduceSub,Nat.reduceMul,Int.reduceToNat,Nat.reduceEqDiff,Nat.reduceBEq,Nat.reduceBneDiff,Nat.reduceLT,Int.reduceEq,Int.reduceLT,Int.reduceLE,Int.reduceNeg,Int.reduceAdd,Int.reduceSub,Int.reduceMul,dzB,dzS]
       exact trivial
     · refine hg ?_
       exact StH.ztb rfl (by kernel_rfl) (by rw [hty,h3'];rfl)
end Go.Hp.T
