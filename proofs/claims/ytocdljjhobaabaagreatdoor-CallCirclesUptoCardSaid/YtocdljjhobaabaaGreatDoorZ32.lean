/- The proof, part Z32: 1j, Is, 1p, 1q, 1r, 1s, Qc, Qd, Qe, Qf, Qh, 1k. -/
import Derived.Test.YtocdljjhobaabaaGreatDoorZ31
import Derived.Test.YtocdljjhobaabaaGreatDoorZ28
import Derived.Test.YtocdljjhobaabaaGreatDoorZ22
import Derived.Test.YtocdljjhobaabaaGreatDoorZ27
import Derived.Test.YtocdljjhobaabaaGreatDoorZ26
namespace Go.Hp.T
open Go Go.RowKit Go.Slot Go.Hp Go.Slot.T
open Go.Proofs.Tryz (prog)
attribute [local irreducible] hide RH
set_option maxRecDepth 10000
set_option maxHeartbeats 8000000
variable {Γ:List (Nat×List Cell)}
theorem Wh.ok.bnd {w:Wh} (h:w.ok):(0<=w.nodes/\w.nodes<=200)/\(0<=w.levels/\w.levels<=20):=by
 rcases h with h | ⟨_,h1,h2,h3,h4⟩
 . rw [h];exact ⟨by decide,by decide⟩
 . have:=Ex.vkb w.x
   have:=Ex.wli w.x
   omega
theorem vij:AV.Le (.agg [cI 0,cI 0,cS ⟨#[]⟩,cS ⟨#[]⟩,.zc,cI 0,cI 0,cB true]) (.agg (whC Wh.none)):=
 .agg (.cons (.refl _) (.cons (.refl _) (.cons (.refl _) (.cons (.refl _) (.cons (.zcSl _) (.cons (.refl _) (.cons (.refl _) (.cons (.refl _) .nil))))))))
abbrev wZ:List HC:=[.dat (cI 0),.dat (cI 0),.dat (cS ⟨#[]⟩),.dat (cS ⟨#[]⟩),.dat .zc,.dat (cI 0),.dat (cI 0),.dat (cB false)]
theorem xqd (x:Ex) (ws:List Wh) (hl:ws.length<=1073741824) (hw:∀ w∈ws,w.ok):CallsD Γ prog 45 [.agg (exC x),.one (.sl 8 (ws.map Wh.C))] (.agg (whC (xi7 x ws))):=by
 have e0:vd1 x ws 1 1 []=xi7 x ws:=rfl;generalize xi7 x ws=R at *;refine CallsD.run [] Go.Proofs.Tryz.func45 rfl rfl rfl ?_;simp only [Go.Proofs.Tryz.f45];refine hgR ?_;refine yxw [1,2,4,5,10,11] (fun p:Nat×Int×Int×List Ex=>[(12,.one (.dat (cI p.1)))])
  (fun p=>[.box [.dat (cI x.op),.dat (cI x.n),.dat (cS x.unit),.dat (cS x.name),.sl 3 5 0 p.2.2.2.length] (some 25),.box wZ (some 71),.box [.dat (cI 0),.dat (cI 0),.dat (cS ⟨#[]⟩),.dat (cS ⟨#[]⟩),.dat .zc,.dat (cI p.2.1),.dat (cI p.2.2.1),.dat (cB false)] (some 71),.arr (.sl 5 (p.2.2.2.map Ex.cells)) 0 (some 25)])
  (fun p=>p.1<=ws.length/\(0<=p.2.1/\p.2.1<=200)/\(0<=p.2.2.1/\p.2.2.1<=20)/\p.2.2.2.length=p.1/\vd1 x (ws.drop p.1) p.2.1 p.2.2.1 p.2.2.2=R) (fun p=>ws.length-p.1) (0,1,1,[]) ⟨Nat.zero_le _,⟨by decide,by decide⟩,⟨by decide,by decide⟩,rfl,e0⟩ ?_ ?_
 . refine hg ?_;refine StH.trans (StH.zoa 0 4 (es:=5) (c:=.sl 5 []) (T:=some 25) rfl rfl rfl (fun r hr=>by cases hr) rfl) ?_;refine hg ?_;exact StH.same svl rfl
 rintro ⟨i,n,lv,l⟩ ⟨hi,hn,hlv,hll,hc⟩;dsimp only at hi hn hlv hll hc;clear e0;refine hg ?_;refine xw4 (fun hlt _=>?_) (fun hlt _=>?_)
 . have hlt':i<ws.length:=by omega
   have hb:=(hw _ (xdq hlt')).bnd;rw [wde hlt',vd1] at hc
   have hlen:l.length+1<=9223372036854775807:=by omega
   refine hg ?_
   repeat' ((first | refine hfk ?_ ?_<;>intros | refine hik ?_)<;>refine hgS ?_)
   case refine_2.refine_1.refine_1.refine_1.refine_2=>
    simp only [*] at hc;refine ⟨(i+1,n+(ws.getD i default).nodes,max lv ((ws.getD i default).levels+1),l++[(ws.getD i default).x]),⟨by dsimp only;omega,by dsimp only;omega,by dsimp only;omega,by simp [hll],hc⟩,by dsimp only;omega,?_⟩;refine StH.back [1,2,4,5,10,11,12] 3 5 4 rfl rfl rfl rfl rfl (by kernel_rfl) ?_;simp only [List.map_append,List.map_cons,List.map_nil]
    conv=>simp (maxSteps:=2000000) (disch:=omega) only [go_sem,Nat.reduceAdd,Nat.reduceSub,Nat.reduceMul,Int.reduceToNat,Nat.reduceEqDiff,Nat.reduceBEq,Nat.reduceBneDiff,Nat.reduceLT,Int.reduceEq,Int.reduceLT,Int.reduceLE,Int.reduceNeg,Int.reduceAdd,Int.reduceSub,Int.reduceMul,List.length_append,List.length_singleton]
    exact StH.same svl rfl
   all_goals
    have e:R=Wh.none:=by rw [<-hc];simp only [*,Bool.true_or,Bool.or_true,Bool.or_false,cond_true,decide_true,decide_false]
    rw [e];exact .one vij
 . rw [List.drop_eq_nil_of_le (by omega),vd1] at hc;rw [<-hc];refine hg ?_
   repeat' ((first | refine hfk ?_ ?_<;>intros | refine hik ?_)<;>refine hgS ?_)
   exact RLe.ofEq rfl
theorem wzq {f:Fnc} {args:List Wh}:∀{l:List Ex} {i:Nat},i<l.length->(∀ j,j<i->(putF f args (l.getD j default)).full=false)->(putF f args (l.getD i default)).full=true->yda f args l=.inl (putF f args (l.getD i default))
 | [],i,h,_,_=>by simp at h
 | y::l,0,_,_,hf=>by
  rw [List.getD_cons_zero] at hf ⊢;rw [yda,hf]
 | y::l,i+1,h,hb,hf=>by
  rw [List.getD_cons_succ] at hf ⊢;have h0:=hb 0 (by omega);rw [List.getD_cons_zero] at h0
  have:=wzq (l:=l) (i:=i) (by simpa using h) (fun j hj=>by have:=hb (j+1) (by omega);rwa [List.getD_cons_succ] at this) hf
  rw [yda,h0,this]
theorem yec {f:Fnc} {args:List Wh}:∀{l:List Ex},(∀ j,j<l.length->(putF f args (l.getD j default)).full=false)->yda f args l=.inr (l.map (putF f args))
 | [],_=>by rw [yda];rfl
 | y::l,h=>by
  have h0:=h 0 (by simp);rw [List.getD_cons_zero] at h0
  have:=yec (l:=l) (fun j hj=>by have:=h (j+1) (by simpa using hj);rwa [List.getD_cons_succ] at this)
  rw [yda,h0,this];rfl
theorem cPut (f:Fnc) (hf:f.Sm) (args:List Wh) (_hal:args.length<=1073741824) (ha:∀ w∈args,w.ok):∀ b:Ex,b.Sm->(∀ y,Ex.Nd y b->y.op=1->0<=wcs f y.name/\(wcs f y.name).toNat<args.length)->
 CallsD Γ prog 47 [.agg (exC b),.agg (fncC f),.one (.sl 8 (args.map Wh.C))] (.agg (whC (putF f args b))):=by
 refine Ex.ind (fun b ih hb hn=>?_);have hl:=hb.len;by_cases h1:b.op=1
 . obtain ⟨h0,hi⟩:=hn b .here h1;have a1:=yqi (Γ:=Γ) f b.name hf;have d1:decide (b.op=1)=true:=decide_eq_true h1;rw [vvr,d1,cond_true];generalize wcs f b.name=j at *;clear h1 ih hn;refine CallsD.run [] Go.Proofs.Tryz.func47 rfl rfl rfl ?_;simp only [Go.Proofs.Tryz.f47];refine hgR ?_
   repeat' ((first | refine hfk ?_ ?_<;>intros | refine hik ?_ | with_reducible first | refine v47 (a1) ?_ | refine vrf (a1) ?_)<;>refine hgS ?_)
   all_goals first
    | exact RLe.ofEq rfl
    | (exfalso;simp_all;done)
 . have d1:decide (b.op=1)=false:=decide_eq_false h1
   have hok:∀ y∈b.args,(putF f args y).ok:=fun y hy=>(wuk (V:=fun _=>True) (fun _ _ _ _=>trivial) ha (fun _ _ _ _ _=>trivial) y (fun _ _ _=>trivial) (fun z hz h1=>(hn z (.arg hy hz) h1).2)).1
   have z1o:=xqd (Γ:=Γ) b (b.args.map (putF f args)) (by simpa using hl) (fun w hw=>by
    obtain ⟨y,hy,rfl⟩:=List.mem_map.1 hw
    exact hok y hy)
   have hc:∀ i,i<b.args.length->CallsD Γ prog 47 [.agg (exC (b.args.getD i default)),.agg (fncC f),.one (.sl 8 (args.map Wh.C))] (.agg (whC (putF f args (b.args.getD i default)))):=fun i hi=>ih _ (xdq hi) (hb.arg _ (xdq hi)) (fun z hz=>hn z (.arg (xdq hi) hz))
   rw [vvr,d1,cond_false];clear ih hn hok h1;refine CallsD.run [] Go.Proofs.Tryz.func47 rfl rfl rfl ?_;simp only [Go.Proofs.Tryz.f47];refine hgR ?_
   repeat' ((first | refine hfk ?_ ?_<;>intros | refine hik ?_)<;>refine hgS ?_)
   . exfalso;simp_all;done
   refine yxw [2,3,4,6,22,23] (fun p:Nat×List Wh=>[(7,.one (.sl 3 8 0 p.2.length)),(24,.one (.dat (cI p.1)))])
    (fun p=>[.box ((exC b).map .dat) (some 25),.box ((fncC f).map .dat) (some 38),.box wZ (some 71),.arr (.sl 8 (p.2.map Wh.C)) 0 (some 71)])
    (fun p=>p.1<=b.args.length/\p.2=(b.args.take p.1).map (putF f args)/\∀ j,j<p.1->(putF f args (b.args.getD j default)).full=false) (fun p=>b.args.length-p.1) (0,[]) ⟨Nat.zero_le _,by simp,fun j hj=>by omega⟩ ?_ ?_
   . refine hg ?_;refine StH.trans (StH.empty (d:=7) (es:=8) (c:=.sl 8 []) (T:=some 71) rfl rfl (fun r hr=>by cases hr) rfl) ?_;refine hg ?_;exact StH.same svl rfl
   rintro ⟨i,ws⟩ ⟨hi,hws,hfl⟩;dsimp only at hi hws hfl
   have hwl:ws.length=i:=by rw [hws];simp;omega
   refine hg ?_;refine xw4 (fun hlt _=>?_) (fun hlt _=>?_)
   . have hlt':i<b.args.length:=by omega
     have hci:=hc i hlt';have hat:=wzq (f:=f) (args:=args) hlt' hfl
     have hnx:True->ws++[putF f args (b.args.getD i default)]=(b.args.take (i+1)).map (putF f args):=fun _=>by
      rw [hws,zea hlt',List.map_append];rfl
     generalize hz:putF f args (b.args.getD i default)=z at *
     have hat':True->z.full=true->yda f args b.args=.inl z:=fun _=>hat
     clear hc z1o hws hat;refine hg ?_
     repeat' ((first | refine hfk ?_ ?_<;>intros | refine hik ?_ | with_reducible first | refine v47 (hci) ?_ | refine vrf (hci) ?_)<;>refine hgS ?_)
     . rename_i hzf;rw [hat' trivial hzf];exact RLe.ofEq (by simp [whC,hzf])
     . rename_i hzf;refine ⟨(i+1,ws++[z]),⟨by dsimp only;omega,hnx trivial,fun j hj=>?_⟩,by dsimp only;omega,?_⟩
       . rcases Nat.lt_or_eq_of_le (Nat.le_of_lt_succ hj) with h2 | h2
         . exact hfl j h2
         . rw [h2,hz];simpa using hzf
       refine StH.back [2,3,4,6,7,22,23,24] 3 6 4 rfl rfl rfl rfl rfl (by kernel_rfl) ?_;simp only [List.map_append,List.map_cons,List.map_nil]
       conv=>simp (maxSteps:=2000000) (disch:=omega) only [go_sem,Nat.reduceAdd,Nat.reduceSub,Nat.reduceMul,Int.reduceToNat,Nat.reduceEqDiff,Nat.reduceBEq,Nat.reduceBneDiff,Nat.reduceLT,Int.reduceEq,Int.reduceLT,Int.reduceLE,Int.reduceNeg,Int.reduceAdd,Int.reduceSub,Int.reduceMul,List.length_append,List.length_singleton]
       have e:z.full=false:=by simpa using hzf
       exact StH.same svl (by simp only [whC,e];rfl)
   . have ei:i=b.args.length:=by omega
     subst ei;rw [yec hfl];rw [List.take_length] at hws;rw [<-hws] at z1o;simp only;rw [<-hws];clear hc hfl hws;refine hg ?_
     repeat' ((first | refine hfk ?_ ?_<;>intros | refine hik ?_ | with_reducible first | refine v47 (z1o) ?_ | refine vrf (z1o) ?_)<;>refine hgS ?_)
     all_goals exact RLe.ofEq rfl
theorem wdq:∀ x:Ex,x.Sm->CallsD Γ prog 27 [.agg (exC x)] (.agg (exC x)):=by
 refine Ex.ind (fun x ih hx=>?_);have hl:=hx.len
 have hc:∀ i,i<x.args.length->CallsD Γ prog 27 [.agg (exC (x.args.getD i default))] (.agg (exC (x.args.getD i default))):=fun i hi=>ih _ (xdq hi) (hx.arg _ (xdq hi))
 clear ih;refine CallsD.run [] Go.Proofs.Tryz.func27 rfl rfl rfl ?_;simp only [Go.Proofs.Tryz.f27];refine hgR ?_
 repeat' ((first | refine hfk ?_ ?_<;>intros | refine hik ?_)<;>refine hgS ?_)
 refine yxw [1,2,9,10] (fun p:Nat×List Ex=>[(11,.one (.dat (cI p.1)))])
  (fun p=>[.box [.dat (cI x.op),.dat (cI x.n),.dat (cS x.unit),.dat (cS x.name),.sl 2 5 0 p.2.length] (some 25),.box [.dat (cI 0),.dat (cI 0),.dat (cS ⟨#[]⟩),.dat (cS ⟨#[]⟩),.dat .zc] (some 25),.arr (.sl 5 (p.2.map Ex.cells)) 0 (some 25)])
  (fun p=>p.1<=x.args.length/\p.2=x.args.take p.1) (fun p=>x.args.length-p.1) (0,[]) ⟨Nat.zero_le _,by simp⟩ ?_ ?_
 . refine hg ?_;refine StH.trans (StH.zoa 0 4 (es:=5) (c:=.sl 5 []) (T:=some 25) rfl rfl rfl (fun r hr=>by cases hr) rfl) ?_;refine hg ?_;exact StH.same svl rfl
 rintro ⟨i,l⟩ ⟨hi,hls⟩;dsimp only at hi hls
 have hll:l.length=i:=by rw [hls];simp;omega
 refine hg ?_;refine xw4 (fun hlt _=>?_) (fun hlt _=>?_)
 . have hlt':i<x.args.length:=by omega
   have hci:=hc i hlt'
   have hnx:True->l++[x.args.getD i default]=x.args.take (i+1):=fun _=>by rw [hls,zea hlt']
   clear hls hc;refine hg ?_
   repeat' ((first | refine hfk ?_ ?_<;>intros | refine hik ?_ | with_reducible first | refine v47 (hci) ?_ | refine vrf (hci) ?_)<;>refine hgS ?_)
   refine ⟨(i+1,l++[x.args.getD i default]),⟨by dsimp only;omega,hnx trivial⟩,by dsimp only;omega,?_⟩;refine StH.back [1,2,9,10,11] 2 4 3 rfl rfl rfl rfl rfl (by kernel_rfl) ?_;simp only [List.map_append,List.map_cons,List.map_nil]
   conv=>simp (maxSteps:=2000000) (disch:=omega) only [go_sem,Nat.reduceAdd,Nat.reduceSub,Nat.reduceMul,Int.reduceToNat,Nat.reduceEqDiff,Nat.reduceBEq,Nat.reduceBneDiff,Nat.reduceLT,Int.reduceEq,Int.reduceLT,Int.reduceLE,Int.reduceNeg,Int.reduceAdd,Int.reduceSub,Int.reduceMul,List.length_append,List.length_singleton]
   exact StH.same svl rfl
 . have ei:i=x.args.length:=by omega
   subst ei;rw [List.take_length] at hls;subst hls;refine hg ?_
   repeat' ((first | refine hfk ?_ ?_<;>intros | refine hik ?_)<;>refine hgS ?_)
   exact RLe.ofEq rfl
end Go.Hp.T
namespace Go.Hp.T
open Go Go.RowKit Go.Slot Go.Hp Go.Slot.T
set_option maxRecDepth 10000
section
variable {κ α:Type}
def entG (K:κ->Value) (C:α->SV):List (κ×α)->List (Value×SV)
 | []=>[]
 | p::l=>(K p.1,C p.2)::entG K C l
def vyo (eq:κ->κ->Bool):List (κ×α)->κ->Option α
 | [],_=>none
 | p::l,s=>bif eq s p.1 then some p.2 else vyo eq l s
def updG (eq:κ->κ->Bool):List (κ×α)->κ->α->List (κ×α)
 | [],s,v=>[(s,v)]
 | p::l,s,v=>bif eq s p.1 then (s,v)::l else p::updG eq l s v
theorem y6p {K:κ->Value} {C:α->SV} {eq:κ->κ->Bool} (h:∀ a b,kEq (K a) (K b)=some (eq a b)) {s:κ}:∀{l:List (κ×α)},y1p (entG K C l) (K s)=some ((vyo eq l s).map C)
 | []=>rfl
 | p::l=>by
  have ih:=y6p h (C:=C) (s:=s) (l:=l);simp only [entG,y1p,h,vyo];rw [ih]
  cases eq s p.1<;>rfl
theorem xjw {K:κ->Value} {C:α->SV} {eq:κ->κ->Bool} (h:∀ a b,kEq (K a) (K b)=some (eq a b)) {s:κ} {v:α}:∀{l:List (κ×α)},updM (entG K C l) (K s) (C v)=some (entG K C (updG eq l s v))
 | []=>rfl
 | p::l=>by
  have ih:=xjw h (C:=C) (s:=s) (v:=v) (l:=l);simp only [entG,updM,h,updG];rw [ih]
  cases eq s p.1<;>rfl
theorem ygm {K:κ->Value} {C:α->SV} (h:∀ r a,x09 r (C a)=C a) (r:Nat->Nat) (l:List (κ×α)):rnSB r (.map (entG K C l))=.map (entG K C l):=by
 have:(entG K C l).map (fun p=>(p.1,x09 r p.2))=entG K C l:=by
  induction l with
  | nil=>rfl
  | cons p l ih=>
   show (K p.1,x09 r (C p.2))::(entG K C l).map _=_;rw [ih,h];rfl
 show SB.map _=_;rw [this]
theorem v3n {K:κ->Value} {C:α->SV} (h:∀ i j a,z0m i j (C a)=C a) (i j:Nat) (l:List (κ×α)):swSB i j (.map (entG K C l))=.map (entG K C l):=by
 have:(entG K C l).map (fun p=>(p.1,z0m i j p.2))=entG K C l:=by
  induction l with
  | nil=>rfl
  | cons p l ih=>
   show (K p.1,z0m i j (C p.2))::(entG K C l).map _=_;rw [ih,h];rfl
 show SB.map _=_;rw [this]
theorem wob {K:κ->Value} {C:α->SV} (h:∀ a,xx4 (C a)=[]) (l:List (κ×α)):wnr (.map (entG K C l))=[]:=by
 show (entG K C l).flatMap (fun p=>xx4 p.2)=[]
 induction l with
 | nil=>rfl
 | cons p l ih=>show xx4 (C p.2)++(entG K C l).flatMap _=[];rw [ih,h];rfl
end
end Go.Hp.T
namespace Go.Hp.T
open Go Go.RowKit Go.Slot Go.Hp Go.Slot.T
open Go.Proofs.Tryz (prog)
set_option maxRecDepth 10000
set_option maxHeartbeats 8000000
variable {Γ:List (Nat×List Cell)}
def smV (y:Ex):Prop:=y.args.length<=1073741824/\y.unit.size<=1073741824/\y.name.size<=1073741824
theorem yqv:∀ x:Ex,x.allV smV->x.Sm:=by
 refine Ex.ind (fun x ih h=>?_);obtain ⟨a,b,c⟩:=h x .here;exact .mk x a b c (fun y hy=>ih y hy (fun z hz=>h z (.arg hy hz)))
theorem zwl {x:Ex} (h:x.Sm):x.allV smV:=fun y hy=>by
 have:=Ex.Sm.nd h hy
 exact ⟨this.len,this.u,this.s⟩
theorem w8l (y:Ex) (l:List Ex) (hl:l.length=y.args.length) (h:smV y):smV (y.withArgs l):=⟨by rw [Ex.z1p,hl];exact h.1,h.2.1,h.2.2⟩
theorem w6q {F:List Fnc} (hv:valid F) {V:Ex->Prop} (hV:∀ y l,l.length=y.args.length->V y->V (y.withArgs l)) {x:Ex} (hk:kn F x) (hx:∀ y,Ex.Nd y x->y.op≠3->V y)
 (hb:∀ i,i<F.length->(bdF F i).full=false->(bdF F i).x.allV V):(expF F x).ok/\((expF F x).full=false->(expF F x).x.allV V):=
 vb3 hV x hx (fun y hy h3 hf z hz=>by
  have hn:(findF F y.name).toNat<F.length:=xqh (hk y hy h3).1;obtain ⟨_,_,c,_⟩:=(yqu hv _ hn).2 hf z hz
  exact ⟨fun _=>hb _ hn hf z hz,fun h1=>by rw [(hk y hy h3).2];exact xqh (c h1)⟩)
theorem yz8 {F:List Fnc} (hv:valid F) {V:Ex->Prop} (hV:∀ y l,l.length=y.args.length->V y->V (y.withArgs l)) (hx:∀ i,i<F.length->(F.getD i default).body.allV V) :
 ∀ i,i<F.length->(bdF F i).full=false->(bdF F i).x.allV V:=by
 refine ybr hv.ac (fun i hi ih hf=>?_);rw [xew hv.ac hi] at hf ⊢;refine (vb3 hV _ (fun y hy _=>hx i hi y hy) (fun y hy h3 hf z hz=>?_)).2 hf;have he:x0t F i (findF F y.name).toNat:=⟨y,hy,h3,rfl⟩;obtain ⟨_,_,c,_⟩:=(yqu hv _ (x3l he)).2 hf z hz;exact ⟨fun _=>ih _ he hf z hz,fun h1=>by rw [((hv.ok hi).kn y hy h3).2];exact xqh (c h1)⟩
theorem Wh.ok.sm {w:Wh} (h:w.ok) (h2:w.full=false->w.x.allV smV):w.x.Sm:=by
 cases hf:w.full with
 | true=>rw [h.yes hf];exact yqv _ (fun y hy=>by
  cases hy with
  | here=>exact ⟨by decide,by decide,by decide⟩
  | arg hz _=>cases hz)
 | false=>exact yqv _ (h2 hf)
theorem x3n {F:List Fnc} (hv:valid F) (hS:∀ f∈F,f.Sm) {i:Nat} (hi:i<F.length):(bdF F i).x.Sm:=
 (yqu hv i hi).1.sm (yz8 hv w8l (fun _ hi=>zwl (hS _ (xdq hi)).b) i hi)
theorem ys1 {F:List Fnc} (hv:valid F) (hS:∀ f∈F,f.Sm) {x:Ex} (hx:x.Sm) (hk:kn F x):(expF F x).ok/\(expF F x).x.Sm:=by
 obtain ⟨a,b⟩:=w6q hv w8l hk (fun y hy _=>zwl hx y hy) (yz8 hv w8l (fun _ hi=>zwl (hS _ (xdq hi)).b));exact ⟨a,a.sm b⟩
abbrev Mw:=List (Int×Wh)
def iK (i:Int):Value:=.int .i64 i
def iE (a b:Int):Bool:=decide (a=b)
theorem xey (a b:Int):kEq (iK a) (iK b)=some (iE a b):=by
 unfold iK iE;simp [kEq,Bool.beq_eq_decide_eq]
abbrev whS (w:Wh):SV:=.agg [.dat (cI w.x.op),.dat (cI w.x.n),.dat (cS w.x.unit),.dat (cS w.x.name),.dat (.sl 5 (w.x.args.map Ex.cells)),.dat (cI w.nodes),.dat (cI w.levels),.dat (cB w.full)]
def envW (l:Mw):List (Value×SV):=entG iK (fun w:Wh=>whS w) l
theorem ziu {T:Mw} {i:Int}:y1p (envW T) (.int .i64 i)=some ((vyo iE T i).map fun w=>whS w):=y6p xey (s:=i)
theorem zsq {T:Mw} {i:Int} {w:Wh}:updM (envW T) (.int .i64 i) (.agg [.dat (cI w.x.op),.dat (cI w.x.n),.dat (cS w.x.unit),.dat (cS w.x.name),.dat (.sl 5 (w.x.args.map Ex.cells)),.dat (cI w.nodes),.dat (cI w.levels),.dat (cB w.full)])=some (envW (updG iE T i w)):=xjw xey (C:=fun w:Wh=>whS w) (s:=i)
theorem zqq {r:Nat->Nat} {l:Mw}:rnSB r (.map (envW l))=.map (envW l):=ygm (fun _ _=>rfl) r l
theorem x07 {i j:Nat} {l:Mw}:swSB i j (.map (envW l))=.map (envW l):=v3n (fun _ _ _=>rfl) i j l
theorem vsa (l:Mw):wnr (.map (envW l))=[]:=wob (fun _=>rfl) l
attribute [go_sem] ziu zsq vsa
attribute [go_sem 20000] zqq x07
theorem zab {l:Mw} {i:Int} {w:Wh} {j:Int}:vyo iE (updG iE l i w) j=if j=i then some w else vyo iE l j:=by
 induction l with
 | nil=>
  unfold updG vyo vyo iE;by_cases h:j=i
  . simp [h]
  . simp [h]
 | cons p l ih=>
  unfold updG;by_cases h1:i=p.1
  . rw [show iE i p.1=true from decide_eq_true h1,cond_true];unfold vyo;by_cases h2:j=i
    . simp [iE,h2]
    . rw [show iE j i=false from decide_eq_false h2,show iE j p.1=false from decide_eq_false (by omega),if_neg h2];rfl
  . rw [show iE i p.1=false from decide_eq_false h1,cond_false];unfold vyo;by_cases h2:j=p.1
    . rw [show iE j p.1=true from decide_eq_true h2,if_neg (by omega)];rfl
    . rw [show iE j p.1=false from decide_eq_false h2];simp only [cond_false];exact ih
def ygs (F:List Fnc) (M:Mw):Prop:=∀ i w,vyo iE M i=some w->0<=i/\i.toNat<F.length/\w=bdF F i.toNat
theorem ygs.upd {F:List Fnc} {M:Mw} (h:ygs F M) {j:Int} (h0:0<=j) (hj:j.toNat<F.length):ygs F (updG iE M j (bdF F j.toNat)):=fun i w hi=>by
 rw [zab] at hi;split at hi
 . rename_i e;subst e
   cases hi;exact ⟨h0,hj,rfl⟩
 . exact h i w hi
abbrev exB (F:List Fnc):SB:=.box [.dat (.sl 7 (F.map Fnc.C)),.mp 1] (some 69)
abbrev mW (M:Mw):SB:=.map (envW M)
end Go.Hp.T
namespace Go.Hp.T
open Go Go.RowKit Go.Slot Go.Hp Go.Slot.T
open Go.Proofs.Tryz (prog)
attribute [local irreducible] hide RH
set_option maxRecDepth 10000
set_option maxHeartbeats 8000000
variable {Γ:List (Nat×List Cell)}
def x65 (Γ:List (Nat×List Cell)) (F:List Fnc) (x:Ex):Prop:=∀ M,ygs F M->∃ M',ygs F M'/\
 xgj Γ prog 26 [exB F,mW M] [.one (.ptr 0 0),.agg ((exC x).map .dat)] [exB F,mW M'] (whS (expF F x))
theorem cutW {F:List Fnc} {M:Mw} {w:Wh} {ξ:List SB}:vxf 2 [whS w] (exB F::mW M::ξ)=true:=by
 unfold vxf;show (_&&([exB F,mW M].all fun x=>(wnr x).all fun b=>Nat.blt b 2))=true;simp only [List.all_cons,vsa,List.all_nil];rfl
theorem xdv (F:List Fnc) (M:Mw) (ξ:List SB):[0,1].map (fun j=>(exB F::mW M::ξ)[j]?)=[exB F,mW M].map (fun x=>some (rnSB (atR [0,1] (exB F::mW M::ξ).length) x)):=by
 show [some (exB F),some (mW M)]=[some (rnSB _ (exB F)),some (rnSB _ (mW M))];rw [zqq];rfl
theorem xt3 (F:List Fnc) (M M':Mw) (ξ:List SB):putR [0,1] (exB F::mW M::ξ) [exB F,mW M']=exB F::mW M'::ξ:=by
 show appL _ _++[]=_;rw [List.append_nil];show exB F::rnSB _ (mW M')::ξ=_;rw [zqq]
theorem x5p {F:List Fnc} (hv:valid F) {j:Int} (h0:0<=j) (hj:j.toNat<F.length) (hx:x65 Γ F (F.getD j.toNat default).body) (M:Mw) (hM:ygs F M):∃ M',ygs F M'/\
 xgj Γ prog 46 [exB F,mW M] [.one (.ptr 0 0),.one (.dat (cI j))] [exB F,mW M'] (whS (bdF F j.toNat)):=by
 cases hl:vyo iE M j with
 | some w=>
  obtain ⟨_,_,hw⟩:=hM j w hl;refine ⟨M,hM,?_⟩;rw [<-hw];clear hw hx hM;refine xgj.run [] Go.Proofs.Tryz.func46 rfl rfl ?_;simp only [Go.Proofs.Tryz.f46];refine hgR ?_;refine hg1 @hl ?_
  repeat' ((first | refine hfk ?_ ?_<;>intros | refine hik ?_)<;>refine hgS ?_)
  all_goals exact StH.yri rfl (by kernel_rfl) rfl
 | none=>
  obtain ⟨M',hM',hc⟩:=hx M hM;rw [show expF F (F.getD j.toNat default).body=bdF F j.toNat from (xew hv.ac hj).symm] at hc;refine ⟨_,hM'.upd h0 hj,?_⟩;clear hx hM hM';generalize bdF F j.toNat=w at *;refine xgj.run [] Go.Proofs.Tryz.func46 rfl rfl ?_;simp only [Go.Proofs.Tryz.f46];refine hgR ?_;refine hg1 @hl ?_
  repeat' ((first | refine hfk ?_ ?_<;>intros | refine hik ?_)<;>refine hgS ?_)
  refine xmn [0,1] hc rfl (by decide) rfl (xdv F M _) rfl ?_;rw [xt3];refine hg ?_
  repeat' ((first | refine hfk ?_ ?_<;>intros | refine hik ?_)<;>refine hgS ?_)
  exact StH.done 2 rfl cutW rfl rfl
theorem z4l (F:List Fnc) (M:Mw) (b2 b3 b4 b5 b6:SB):swL 4 6 [exB F,mW M,b2,b3,b4,b5,b6]=[exB F,mW M,swSB 4 6 b2,swSB 4 6 b3,swSB 4 6 b6,swSB 4 6 b5,swSB 4 6 b4]:=by
 show [swSB 4 6 (exB F),swSB 4 6 (mW M),swSB 4 6 b2,swSB 4 6 b3,swSB 4 6 b6,swSB 4 6 b5,swSB 4 6 b4]=_;rw [x07];rfl
theorem xf5 {F:List Fnc} (hv:valid F) (hF:F.length<=1073741824) (hS:∀ f∈F,f.Sm) {r:Nat->Nat} (hr:∀ i j,x0t F i j->r j<r i):∀ k:Nat,∀ x:Ex,x.Sm->kn F x->(∀ y,Ex.Nd y x->y.op=3->r (findF F y.name).toNat<k)->x65 Γ F x:=by
 intro k
 induction k using Nat.strongRecOn with
 | ind k ih=>
 have hbody:∀ j:Int,0<=j->j.toNat<F.length->r j.toNat<k->x65 Γ F (F.getD j.toNat default).body:=fun j h0 hj hk=>ih _ hk _ (hS _ (xdq hj)).b (hv.ok hj).kn (fun y hy h3=>hr _ _ ⟨y,hy,h3,rfl⟩)
 refine Ex.ind (fun x ihx hx hk hrk M0 hM0=>?_);have hl:=hx.len
 have hc:∀ i,i<x.args.length->x65 Γ F (x.args.getD i default):=fun i hi=>ihx _ (xdq hi) (hx.arg _ (xdq hi)) (hk.arg (xdq hi)) (fun y hy=>hrk y (.arg (xdq hi) hy))
 have hok:∀ w∈x.args.map (expF F),w.ok:=fun w hw=>by
  obtain ⟨y,hy,rfl⟩:=List.mem_map.1 hw;exact (ys1 hv hS (hx.arg y hy) (hk.arg hy)).1
 have hall:∀ y∈x.args,x65 Γ F y:=fun y hy=>ihx y hy (hx.arg y hy) (hk.arg hy) (fun z hz=>hrk z (.arg hy hz))
 clear ih ihx
 have hMs:∃ Ms:Nat->Mw,Ms 0=M0/\(∀ i,ygs F (Ms i))/\∀ i,i<x.args.length->xgj Γ prog 26 [exB F,mW (Ms i)] [.one (.ptr 0 0),.agg ((exC (x.args.getD i default)).map .dat)] [exB F,mW (Ms (i+1))] (whS (expF F (x.args.getD i default))):=by
  have key:∀ n,n<=x.args.length->∃ Ms:Nat->Mw,Ms 0=M0/\(∀ i,ygs F (Ms i))/\∀ i,i<n->xgj Γ prog 26 [exB F,mW (Ms i)] [.one (.ptr 0 0),.agg ((exC (x.args.getD i default)).map .dat)] [exB F,mW (Ms (i+1))] (whS (expF F (x.args.getD i default))):=by
   intro n
   induction n with
   | zero=>exact fun _=>⟨fun _=>M0,rfl,fun _=>hM0,fun i hi=>by omega⟩
   | succ n ihn=>
    intro hn;obtain ⟨Ms,h0,h1,h2⟩:=ihn (by omega);obtain ⟨M',hM',hcc⟩:=hc n (by omega) (Ms n) (h1 n);refine ⟨fun i=>if i<=n then Ms i else M',by simpa using h0,fun i=>?_,fun i hi=>?_⟩
    . dsimp only;split
      . exact h1 i
      . exact hM'
    . by_cases e:i=n
      . subst e;dsimp only;rw [if_pos (Nat.le_refl _),if_neg (by omega)];exact hcc
      . dsimp only;rw [if_pos (by omega),if_pos (by omega)];exact h2 i (by omega)
  exact key _ (Nat.le_refl _)
 obtain ⟨Ms,hs0,hsg,hsc⟩:=hMs;subst hs0;have hend:=hsg x.args.length;have hj:=xqd (Γ:=Γ) x (x.args.map (expF F)) (by simpa using hl) hok
 have hfin:∃ Mf,ygs F Mf/\(x.op≠3->Mf=Ms x.args.length)/\(x.op=3->0<=findF F x.name/\(findF F x.name).toNat<F.length/\xgj Γ prog 46 [exB F,mW (Ms x.args.length)] [.one (.ptr 0 0),.one (.dat (cI (findF F x.name)))] [exB F,mW Mf] (whS (bdF F (findF F x.name).toNat))/\
  ((bdF F (findF F x.name).toNat).full=false->CallsD Γ prog 47 [.agg (exC (bdF F (findF F x.name).toNat).x),.agg (fncC (F.getD (findF F x.name).toNat default)),.one (.sl 8 ((x.args.map (expF F)).map Wh.C))] (.agg (whC (putF (F.getD (findF F x.name).toNat default) (x.args.map (expF F)) (bdF F (findF F x.name).toNat).x))))):=by
  by_cases h3:x.op=3
  . have h0:=(hk x .here h3).1;have hn:=xqh h0;obtain ⟨Mf,hMf,hb⟩:=x5p (Γ:=Γ) hv h0 hn (hbody _ h0 hn (hrk x .here h3)) (Ms x.args.length) hend;refine ⟨Mf,hMf,fun h=>absurd h3 h,fun _=>⟨h0,hn,hb,fun hf=>?_⟩⟩;refine cPut _ (hS _ (xdq hn)) _ (by simpa using hl) hok _ (x3n hv hS hn) (fun y hy h1=>?_);have hc:=((yqu hv _ hn).2 hf y hy).2.2.1 h1;exact ⟨hc,by rw [List.length_map,(hk x .here h3).2];exact xqh hc⟩
  . exact ⟨_,hend,fun _=>rfl,fun h=>absurd h h3⟩
 obtain ⟨Mf,hMf,hf1,hf2⟩:=hfin;refine ⟨Mf,hMf,?_⟩;have a1:=vzr (Γ:=Γ) F x.name hF
 have hxe:expF F x=bif !decide (x.op=3) then xi7 x (x.args.map (expF F)) else bif !(bdF F (findF F x.name).toNat).full then putF (F.getD (findF F x.name).toNat default) (x.args.map (expF F)) (bdF F (findF F x.name).toNat).x else Wh.none:=wpu _ _ _
 have hRn:x.op≠3->expF F x=xi7 x (x.args.map (expF F)):=fun h3=>by rw [hxe,decide_eq_false h3];rfl
 have hR3:x.op=3->((bdF F (findF F x.name).toNat).full=false->expF F x=putF (F.getD (findF F x.name).toNat default) (x.args.map (expF F)) (bdF F (findF F x.name).toNat).x)/\((bdF F (findF F x.name).toNat).full=true->expF F x=Wh.none):=fun h3=>by
  rw [hxe,decide_eq_true h3];exact ⟨fun h=>by rw [h];rfl,fun h=>by rw [h];rfl⟩
 generalize expF F x=R at *;clear hxe hk hrk hbody hok hall hc;refine xgj.run [] Go.Proofs.Tryz.func26 rfl rfl ?_;simp only [Go.Proofs.Tryz.f26];refine hgR ?_;refine yxw [0,3,4,11,12] (fun p:Nat×List Wh=>[(5,.one (.sl 4 8 0 p.2.length)),(13,.one (.dat (cI p.1)))])
  (fun p=>[exB F,mW (Ms p.1),.box ((exC x).map .dat) (some 25),.box wZ (some 71),.arr (.sl 8 (p.2.map Wh.C)) 0 (some 71)])
  (fun p=>p.1<=x.args.length/\p.2=(x.args.take p.1).map (expF F)) (fun p=>x.args.length-p.1) (0,[]) ⟨Nat.zero_le _,by simp⟩ ?_ ?_
 . refine hg ?_;refine StH.trans (StH.empty (d:=5) (es:=8) (c:=.sl 8 []) (T:=some 71) rfl rfl (fun r hr=>by cases hr) rfl) ?_;refine hg ?_;exact StH.same svl rfl
 rintro ⟨i,ws⟩ ⟨hi,hws⟩;dsimp only at hi hws
 have hwl:ws.length=i:=by rw [hws];simp;omega
 refine hg ?_;refine xw4 (fun hlt _=>?_) (fun hlt _=>?_)
 . have hlt':i<x.args.length:=by omega
   have hci:=hsc i hlt'
   have hnx:True->ws++[expF F (x.args.getD i default)]=(x.args.take (i+1)).map (expF F):=fun _=>by
    rw [hws,zea hlt',List.map_append];rfl
   generalize expF F (x.args.getD i default)=z at *;clear hsc hj hws;refine hg ?_
   repeat' ((first | refine hfk ?_ ?_<;>intros | refine hik ?_)<;>refine hgS ?_)
   refine xmn [0,1] hci rfl (by decide) rfl (xdv F _ _) rfl ?_;rw [xt3];refine hg ?_
   repeat' ((first | refine hfk ?_ ?_<;>intros | refine hik ?_)<;>refine hgS ?_)
   refine ⟨(i+1,ws++[z]),⟨by dsimp only;omega,hnx trivial⟩,by dsimp only;omega,?_⟩;refine StH.back [0,3,4,5,11,12,13] 4 6 5 rfl rfl rfl rfl rfl ?_ ?_
   . rw [z4l];refine hg ?_;exact trivial
   rw [z4l];simp only [List.map_append,List.map_cons,List.map_nil]
   conv=>simp (maxSteps:=2000000) (disch:=omega) only [go_sem,Nat.reduceAdd,Nat.reduceSub,Nat.reduceMul,Int.reduceToNat,Nat.reduceEqDiff,Nat.reduceBEq,Nat.reduceBneDiff,Nat.reduceLT,Int.reduceEq,Int.reduceLT,Int.reduceLE,Int.reduceNeg,Int.reduceAdd,Int.reduceSub,Int.reduceMul,List.length_append,List.length_singleton]
   exact StH.same svl rfl
 . have ei:i=x.args.length:=by omega
   subst ei;rw [List.take_length] at hws;generalize hdl:x.args.map (expF F)=wl at *;have hwe:ws=wl:=hws;subst hwe;by_cases h3:x.op=3
   . obtain ⟨b1,b2,b3,b4⟩:=hf2 h3;obtain ⟨r1,r2⟩:=hR3 h3;have d3:decide (x.op=3)=true:=decide_eq_true h3;generalize hw:bdF F (findF F x.name).toNat=w at *;generalize findF F x.name=j at *;clear hws hsc hf1 hf2 h3 hw hj hdl hRn hR3;refine hg ?_
     repeat' ((first | refine hfk ?_ ?_<;>intros | refine hik ?_ | with_reducible first | refine v47 (a1) ?_ | refine vrf (a1) ?_)<;>refine hgS ?_)
     . exfalso;simp_all;done
     refine xmn [0,1] b3 rfl (by decide) rfl (xdv F _ _) rfl ?_;rw [xt3];clear b3
     cases hwf:w.full with
     | true=>
      rw [r2 hwf];clear r1 r2 b4;refine hg1 @hwf ?_
      repeat' ((first | refine hfk ?_ ?_<;>intros | refine hik ?_)<;>refine hgS ?_)
      refine StH.trans (StH.ygu (σ':=[whS Wh.none]) (.cons (.agg (.cons (.refl _) (.cons (.refl _) (.cons (.refl _) (.cons (.refl _) (.cons (.dat (.zcSl _)) (.cons (.refl _) (.cons (.refl _) (.cons (.refl _) .nil))))))))) .nil)) ?_;exact StH.done 2 rfl cutW rfl rfl
     | false=>
      have b4:=b4 hwf;rw [r1 hwf];clear r1 r2
      have hwb:(x.args.length==ws.length)=true:=by rw [hwl];simp
      refine hg2 @hwf @hwb ?_
      repeat' ((first | refine hfk ?_ ?_<;>intros | refine hik ?_ | with_reducible first | refine v47 (b4) ?_ | refine vrf (b4) ?_)<;>refine hgS ?_)
      exact StH.done 2 rfl cutW rfl rfl
   . rw [hf1 h3,hRn h3];have d3:decide (x.op=3)=false:=decide_eq_false h3;clear hws hsc hf1 hf2 h3 hdl hRn hR3;refine hg ?_
     repeat' ((first | refine hfk ?_ ?_<;>intros | refine hik ?_ | with_reducible first | refine v47 (hj) ?_ | refine vrf (hj) ?_)<;>refine hgS ?_)
     all_goals first
      | exact StH.done 2 rfl cutW rfl rfl
      | (exfalso;simp_all;done)
theorem ws5 (_n:Int):AV.Le (.agg [cI 0,cI 0,cS ⟨#[]⟩,cS ⟨#[]⟩,.zc]) (.agg (exC Ex.zero)):=
 .agg (.cons (.refl _) (.cons (.refl _) (.cons (.refl _) (.cons (.refl _) (.cons (.zcSl _) .nil)))))
abbrev exB6 (F:List Fnc):SB:=.box [.dat (.sl 7 (F.map Fnc.C)),.mp 6] (some 69)
theorem xg3 (F:List Fnc) (M':Mw) (b0 b1 b2 b3 b4 b5:SB):putR [7,6] [b0,b1,b2,b3,b4,b5,.map [],exB6 F] [exB F,mW M']=[b0,b1,b2,b3,b4,b5,mW M',exB6 F]:=by
 show appL _ _++[]=_;rw [List.append_nil];show [b0,b1,b2,b3,b4,b5,rnSB _ (mW M'),_]=_;rw [zqq];rfl
theorem z09 (x:Ex) (F:List Fnc) (hx:x.Sm) (hF:F.length<=1073741824) (hS:∀ f∈F,f.Sm):CallsD Γ prog 9 [.agg (exC x),.one (.sl 7 (F.map Fnc.C))] (.tup [.agg (exC (yc3 F x).1),.one (cI (yc3 F x).2)]):=by
 have a1:=x22 (Γ:=Γ) x hx;have a2:=vee (Γ:=Γ) F hF hS
 cases h1:z7n x with
 | false=>
  rw [h1] at a1;rw [show yc3 F x=(Ex.zero,2) by unfold yc3;rw [h1];rfl];refine CallsD.run [] Go.Proofs.Tryz.func9 rfl rfl rfl ?_;simp only [Go.Proofs.Tryz.f9];refine hgR ?_
  repeat' ((first | refine hfk ?_ ?_<;>intros | refine hik ?_ | with_reducible first | refine v47 (a1) ?_ | refine vrf (a1) ?_)<;>refine hgS ?_)
  exact .tup (.cons (ws5 0) (.cons (.refl _) .nil))
 | true=>
 rw [h1] at a1;by_cases h2:wa2 F=0
 . rw [h2] at a2;have hv:=y5o.1 h2;have a6:=x7h (Γ:=Γ) [.sl 7 (F.map Fnc.C)] (some 22) 42 (x5q F) x hx (fun y _=>zbu (fun r=>by rw [List.map_map];rfl) (wpx F hF _ y))
   cases h3:x.anyN (x5q F) with
   | true=>
    rw [h3] at a6;rw [show yc3 F x=(Ex.zero,11) by unfold yc3;rw [h1,h2,h3];rfl];clear h1 h2 h3 hv;refine CallsD.run [(3,[.own,.clo,.room 2])] Go.Proofs.Tryz.func9 rfl rfl rfl ?_;simp only [Go.Proofs.Tryz.f9];refine hgR ?_
    repeat' ((first | refine hfk ?_ ?_<;>intros | refine hik ?_ | with_reducible first | refine v47 (a1) ?_ | refine vrf (a1) ?_ | refine v47 (a2) ?_ | refine vrf (a2) ?_)<;>refine hgS ?_)
    refine vfx [2,3] [(2,.box [.dat (.sl 7 (F.map Fnc.C))] (some 22)),(3,.clo 42 [.one (.ptr 2 0)])] (xgj.vtx 2 (fun ρ M w vs h=>by match vs,h with | [v],h=>exact h) (weq F)) (by rfl) (by decide) (by rfl) (by rfl) (by rfl) (by rfl) ?_;refine hg ?_
    repeat' ((first | refine hfk ?_ ?_<;>intros | refine hik ?_)<;>refine hgS ?_)
    refine vfx [2,3] [] a6 (by rfl) (by decide) (by rfl) (by rfl) (by rfl) (by rfl) ?_;refine hg ?_
    repeat' ((first | refine hfk ?_ ?_<;>intros | refine hik ?_)<;>refine hgS ?_)
    exact .tup (.cons (ws5 0) (.cons (.refl _) .nil))
   | false=>
   rw [h3] at a6
   have a7:=x7h (Γ:=Γ) [.sl 7 (F.map Fnc.C)] (some 22) 44 (zs4 F) x hx (fun y hy=>zbu (fun r=>by rw [List.map_map];rfl) (yi3 F hF (fun f hf=>(hS f hf).len) _ y (Ex.Sm.nd hx hy).len (fun h4=>by
    have:=Ex.vaz h3 hy
    unfold x5q at this;rw [decide_eq_true h4,Bool.true_and,decide_eq_false_iff_not] at this
    omega)))
   cases h4:x.anyN (zs4 F) with
   | true=>
    rw [h4] at a7;rw [show yc3 F x=(Ex.zero,1) by unfold yc3;rw [h1,h2,h3,h4];rfl];clear h1 h2 h3 h4 hv;refine CallsD.run [(3,[.own,.clo,.room 2]),(5,[.own,.clo,.room 2])] Go.Proofs.Tryz.func9 rfl rfl rfl ?_;simp only [Go.Proofs.Tryz.f9];refine hgR ?_
    repeat' ((first | refine hfk ?_ ?_<;>intros | refine hik ?_ | with_reducible first | refine v47 (a1) ?_ | refine vrf (a1) ?_ | refine v47 (a2) ?_ | refine vrf (a2) ?_)<;>refine hgS ?_)
    refine vfx [2,3] [(2,.box [.dat (.sl 7 (F.map Fnc.C))] (some 22)),(3,.clo 42 [.one (.ptr 2 0)])] (xgj.vtx 2 (fun ρ M w vs h=>by match vs,h with | [v],h=>exact h) (weq F)) (by rfl) (by decide) (by rfl) (by rfl) (by rfl) (by rfl) ?_;refine hg ?_
    repeat' ((first | refine hfk ?_ ?_<;>intros | refine hik ?_)<;>refine hgS ?_)
    refine vfx [2,3] [] a6 (by rfl) (by decide) (by rfl) (by rfl) (by rfl) (by rfl) ?_;refine hg ?_
    repeat' ((first | refine hfk ?_ ?_<;>intros | refine hik ?_)<;>refine hgS ?_)
    refine vfx [4,5] [(4,.box [.dat (.sl 7 (F.map Fnc.C))] (some 22)),(5,.clo 44 [.one (.ptr 4 0)])] (xgj.vtx 2 (fun ρ M w vs h=>by match vs,h with | [v],h=>exact h) (wog F)) (by rfl) (by decide) (by rfl) (by rfl) (by rfl) (by rfl) ?_;refine hg ?_
    repeat' ((first | refine hfk ?_ ?_<;>intros | refine hik ?_)<;>refine hgS ?_)
    refine vfx [4,5] [] a7 (by rfl) (by decide) (by rfl) (by rfl) (by rfl) (by rfl) ?_;refine hg ?_
    repeat' ((first | refine hfk ?_ ?_<;>intros | refine hik ?_)<;>refine hgS ?_)
    exact .tup (.cons (ws5 0) (.cons (.refl _) .nil))
   | false=>
   rw [h4] at a7;have hk:=zks h3 h4;obtain ⟨r,hr1,hr2⟩:=wbz hv.ac
   obtain ⟨M',_,hc⟩:=xf5 (Γ:=Γ) hv hF hS (fun i j h=>hr2 i j h (x3l h)) F.length x hx hk (fun y hy h3=>by
    have hj:=xqh (hk y hy h3).1
    have:=hr1 (findF F y.name).toNat
    have e:(findF F y.name).toNat<F.length:=hj
    omega) [] (fun i w h=>by cases h)
   obtain ⟨hwk,hws⟩:=ys1 hv hS hx hk;have hcp:=wdq (Γ:=Γ) _ hws
   have hres:yc3 F x=bif (expF F x).full then (Ex.zero,6) else ((expF F x).x,0):=by unfold yc3;rw [h1,h2,h3,h4];rfl
   rw [hres];generalize expF F x=w at *;clear hres h1 h2 h3 h4 hr1 hr2 hk hws hwk hv;refine CallsD.run [(3,[.own,.clo,.room 2]),(5,[.own,.clo,.room 2])] Go.Proofs.Tryz.func9 rfl rfl rfl ?_;simp only [Go.Proofs.Tryz.f9];refine hgR ?_
   repeat' ((first | refine hfk ?_ ?_<;>intros | refine hik ?_ | with_reducible first | refine v47 (a1) ?_ | refine vrf (a1) ?_ | refine v47 (a2) ?_ | refine vrf (a2) ?_)<;>refine hgS ?_)
   refine vfx [2,3] [(2,.box [.dat (.sl 7 (F.map Fnc.C))] (some 22)),(3,.clo 42 [.one (.ptr 2 0)])] (xgj.vtx 2 (fun ρ M w vs h=>by match vs,h with | [v],h=>exact h) (weq F)) (by rfl) (by decide) (by rfl) (by rfl) (by rfl) (by rfl) ?_;refine hg ?_
   repeat' ((first | refine hfk ?_ ?_<;>intros | refine hik ?_)<;>refine hgS ?_)
   refine vfx [2,3] [] a6 (by rfl) (by decide) (by rfl) (by rfl) (by rfl) (by rfl) ?_;refine hg ?_
   repeat' ((first | refine hfk ?_ ?_<;>intros | refine hik ?_)<;>refine hgS ?_)
   refine vfx [4,5] [(4,.box [.dat (.sl 7 (F.map Fnc.C))] (some 22)),(5,.clo 44 [.one (.ptr 4 0)])] (xgj.vtx 2 (fun ρ M w vs h=>by match vs,h with | [v],h=>exact h) (wog F)) (by rfl) (by decide) (by rfl) (by rfl) (by rfl) (by rfl) ?_;refine hg ?_
   repeat' ((first | refine hfk ?_ ?_<;>intros | refine hik ?_)<;>refine hgS ?_)
   refine vfx [4,5] [] a7 (by rfl) (by decide) (by rfl) (by rfl) (by rfl) (by rfl) ?_;refine hg ?_
   repeat' ((first | refine hfk ?_ ?_<;>intros | refine hik ?_)<;>refine hgS ?_)
   refine xmn [7,6] hc rfl (by decide) rfl rfl rfl ?_;rw [xg3];clear hc
   cases hf:w.full with
   | true=>
    refine hg1 @hf ?_
    repeat' ((first | refine hfk ?_ ?_<;>intros | refine hik ?_)<;>refine hgS ?_)
    exact .tup (.cons (ws5 0) (.cons (.refl _) .nil))
   | false=>
    refine hg1 @hf ?_
    repeat' ((first | refine hfk ?_ ?_<;>intros | refine hik ?_ | with_reducible first | refine v47 (hcp) ?_ | refine vrf (hcp) ?_)<;>refine hgS ?_)
    exact RLe.ofEq rfl
 . have hn:decide (wa2 F=0)=false:=decide_eq_false h2;rw [show yc3 F x=(Ex.zero,2) by unfold yc3;rw [hn,Bool.not_false,Bool.or_true];rfl];generalize wa2 F=e at *;clear h2;refine CallsD.run [] Go.Proofs.Tryz.func9 rfl rfl rfl ?_;simp only [Go.Proofs.Tryz.f9];refine hgR ?_
   repeat' ((first | refine hfk ?_ ?_<;>intros | refine hik ?_ | with_reducible first | refine v47 (a1) ?_ | refine vrf (a1) ?_ | refine v47 (a2) ?_ | refine vrf (a2) ?_)<;>refine hgS ?_)
   all_goals first
    | exact .tup (.cons (ws5 0) (.cons (.refl _) .nil))
    | (exfalso;simp_all;done)
end Go.Hp.T
namespace Go.Hp.T
open Go Go.RowKit Go.Slot Go.Hp Go.Slot.T
open Go.Proofs.Tryz (prog)
set_option maxRecDepth 10000
set_option maxHeartbeats 4000000
variable {Γ:List (Nat×List Cell)}
mutual
def Ex.has (op:Int) (nm:ByteArray):Ex->Bool
 | .mk o _ _ s l=>Ex.hasL op nm l||(decide (o=op)&&seq s nm)
def Ex.hasL (op:Int) (nm:ByteArray):List Ex->Bool
 | []=>false
 | y::l=>Ex.has op nm y||Ex.hasL op nm l
end
theorem n0:((0:Nat):Int)=0:=rfl
end Go.Hp.T
namespace Go.Hp.T
open Go Go.RowKit Go.Slot Go.Hp
set_option maxRecDepth 10000
end Go.Hp.T
namespace Go.Hp.T
open Go Go.RowKit Go.Slot Go.Hp Go.Slot.T
set_option maxRecDepth 10000
end Go.Hp.T
