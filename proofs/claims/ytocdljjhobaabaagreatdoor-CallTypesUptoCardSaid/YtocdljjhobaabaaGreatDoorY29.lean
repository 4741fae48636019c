/- The proof, part Y29: 1f, Is, 1p, 1q, 1r, 1s, 1g, Qc, Qd, Qe, Qf, Qh, 1k, 1t. -/
import Derived.Test.YtocdljjhobaabaaGreatDoorY28
import Derived.Test.YtocdljjhobaabaaGreatDoorY18
import Derived.Test.YtocdljjhobaabaaGreatDoorY27
import Derived.Test.YtocdljjhobaabaaGreatDoorY24
namespace Go.Hp.T
open Go Go.RowKit Go.Slot Go.Hp Go.Slot.T
set_option maxRecDepth 10000
theorem xjt {α:Type} [Inhabited α] {p:α->Bool}:∀{l:List α},0<=idxF p l->p (l.getD (idxF p l).toNat default)=true
 | [],h=>by unfold idxF at h;omega
 | x::l,h=>by
  rw [idxF] at h ⊢
  cases hp:p x with
  | true=>rw [cond_true];exact hp
  | false=>
   rw [hp,cond_false] at h;rw [cond_false];have h3:=zah p l;by_cases e:idxF p l = -1
   . rw [e] at h;simp at h
   . rw [decide_eq_false e,cond_false] at h ⊢;have ih:=xjt (p:=p) (l:=l) (by omega);rw [show (idxF p l+1).toNat=(idxF p l).toNat+1 by omega,List.getD_cons_succ];exact ih
theorem xmb {α:Type} [Inhabited α] {p:α->Bool}:∀{l:List α} {i:Nat},i<l.length->p (l.getD i default)=true->0<=idxF p l/\idxF p l<=(i:Int)
 | [],i,h,_=>by simp at h
 | x::l,0,_,hp=>by
  rw [List.getD_cons_zero] at hp;rw [idxF,hp,cond_true];omega
 | x::l,i+1,h,hp=>by
  rw [List.getD_cons_succ] at hp;have ih:=xmb (p:=p) (l:=l) (i:=i) (by simpa using h) hp;rw [idxF]
  cases p x with
  | true=>rw [cond_true];omega
  | false=>
   rw [cond_false,decide_eq_false (by omega),cond_false];omega
abbrev lkF (F:List Fnc) (s:ByteArray):Fnc:=F.getD (findF F s).toNat default
theorem yz3 {F:List Fnc} {s:ByteArray} (h:0<=findF F s):(lkF F s).name=s:=by
 have:=xjt (p:=fun f:Fnc=>seq f.name s) h
 rw [veo] at this;exact of_decide_eq_true this
theorem zwb {F:List Fnc} {i:Nat} (hi:i<F.length):0<=findF F (F.getD i default).name/\findF F (F.getD i default).name<=(i:Int):=by
 refine xmb (p:=fun f:Fnc=>seq f.name (F.getD i default).name) hi ?_;rw [veo];exact decide_eq_true rfl
def dupP (f:Fnc):Bool:=(List.range f.params.length).any fun k=>decide (wcs f (f.params.getD k default).name<(k:Int))
structure ok1 (F:List Fnc) (f:Fnc):Prop where
 form:wtj f=true
 tw:dupP f=false
 un:f.params.any ziu=false
 str:∀ y,Ex.Nd y f.body->y.op=1->0<=wcs f y.name
 kn:∀ y,Ex.Nd y f.body->y.op=3->∃ g∈F,g.name=y.name/\y.args.length=g.params.length
structure vld (F:List Fnc):Prop where
 len:F.length<=100
 dis:F.Pairwise fun f g=>f.name≠g.name
 one:∀ f∈F,ok1 F f
 ac:∃ r:ByteArray->Nat,∀ f∈F,∀ y,Ex.Nd y f.body->y.op=3->r y.name<r f.name
theorem viv {F:List Fnc} {i:Nat} (hi:i<F.length):F.getD i default=F[i]:=by simp [hi]
theorem vld.find {F:List Fnc} (h:F.Pairwise fun f g=>f.name≠g.name) {i:Nat} (hi:i<F.length) {s:ByteArray} (hs:(F.getD i default).name=s):findF F s=(i:Int):=by
 subst hs;obtain ⟨h0,h1⟩:=zwb hi;have h2:=yz3 h0;by_cases e:findF F (F.getD i default).name=(i:Int)
 . exact e
 . exfalso
   have hlt:(findF F (F.getD i default).name).toNat<i:=by omega
   have:=(List.pairwise_iff_getElem.1 h) _ i (by omega) hi hlt
   rw [<-viv,<-viv] at this;exact this h2
theorem valid.dis {F:List Fnc} (h:valid F):F.Pairwise fun f g=>f.name≠g.name:=by
 rw [List.pairwise_iff_getElem];intro i j hi hj hij e;have ht:=(h.ok hj).tw;unfold zlh at ht;rw [Bool.or_eq_false_iff,decide_eq_false_iff_not] at ht
 have hp:seq (F.getD i default).name (F.getD j default).name=true:=by
  rw [veo,viv hi,viv hj];exact decide_eq_true e
 have:=(xmb (p:=fun f:Fnc=>seq f.name (F.getD j default).name) hi hp).2
 have h1:=ht.1;unfold findF at h1;omega
section
variable {κ α:Type}
def entG (K:κ->Value) (C:α->SV):List (κ×α)->List (Value×SV)
 | []=>[]
 | p::l=>(K p.1,C p.2)::entG K C l
def vyo (eq:κ->κ->Bool):List (κ×α)->κ->Option α
 | [],_=>none
 | p::l,s=>bif eq s p.1 then some p.2 else vyo eq l s
def updG (eq:κ->κ->Bool):List (κ×α)->κ->α->List (κ×α)
 | [],s,v=>[(s,v)]
 | p::l,s,v=>bif eq s p.1 then (s,v)::l else p::updG eq l s v
theorem y6p {K:κ->Value} {C:α->SV} {eq:κ->κ->Bool} (h:∀ a b,kEq (K a) (K b)=some (eq a b)) {s:κ}:∀{l:List (κ×α)},y1p (entG K C l) (K s)=some ((vyo eq l s).map C)
 | []=>rfl
 | p::l=>by
  have ih:=y6p h (C:=C) (s:=s) (l:=l);simp only [entG,y1p,h,vyo];rw [ih]
  cases eq s p.1<;>rfl
theorem xjw {K:κ->Value} {C:α->SV} {eq:κ->κ->Bool} (h:∀ a b,kEq (K a) (K b)=some (eq a b)) {s:κ} {v:α}:∀{l:List (κ×α)},updM (entG K C l) (K s) (C v)=some (entG K C (updG eq l s v))
 | []=>rfl
 | p::l=>by
  have ih:=xjw h (C:=C) (s:=s) (v:=v) (l:=l);simp only [entG,updM,h,updG];rw [ih]
  cases eq s p.1<;>rfl
theorem ygm {K:κ->Value} {C:α->SV} (h:∀ r a,x09 r (C a)=C a) (r:Nat->Nat) (l:List (κ×α)):rnSB r (.map (entG K C l))=.map (entG K C l):=by
 have:(entG K C l).map (fun p=>(p.1,x09 r p.2))=entG K C l:=by
  induction l with
  | nil=>rfl
  | cons p l ih=>
   show (K p.1,x09 r (C p.2))::(entG K C l).map _=_;rw [ih,h];rfl
 show SB.map _=_;rw [this]
theorem v3n {K:κ->Value} {C:α->SV} (h:∀ i j a,z0j i j (C a)=C a) (i j:Nat) (l:List (κ×α)):swSB i j (.map (entG K C l))=.map (entG K C l):=by
 have:(entG K C l).map (fun p=>(p.1,z0j i j p.2))=entG K C l:=by
  induction l with
  | nil=>rfl
  | cons p l ih=>
   show (K p.1,z0j i j (C p.2))::(entG K C l).map _=_;rw [ih,h];rfl
 show SB.map _=_;rw [this]
theorem wob {K:κ->Value} {C:α->SV} (h:∀ a,xx4 (C a)=[]) (l:List (κ×α)):wnr (.map (entG K C l))=[]:=by
 show (entG K C l).flatMap (fun p=>xx4 p.2)=[]
 induction l with
 | nil=>rfl
 | cons p l ih=>show xx4 (C p.2)++(entG K C l).flatMap _=[];rw [ih,h];rfl
end
end Go.Hp.T
namespace Go.Hp.T
open Go Go.RowKit Go.Slot Go.Hp Go.Slot.T
open Go.Proofs.Tryz (prog)
set_option maxRecDepth 10000
set_option maxHeartbeats 8000000
variable {Γ:List (Nat×List Cell)}
def smV (y:Ex):Prop:=y.args.length<=1073741824/\y.unit.size<=1073741824/\y.name.size<=1073741824
theorem yqv:∀ x:Ex,x.allV smV->x.Sm:=by
 refine Ex.ind (fun x ih h=>?_);obtain ⟨a,b,c⟩:=h x .here;exact .mk x a b c (fun y hy=>ih y hy (fun z hz=>h z (.arg hy hz)))
theorem zwl {x:Ex} (h:x.Sm):x.allV smV:=fun y hy=>by
 have:=Ex.Sm.nd h hy
 exact ⟨this.len,this.u,this.s⟩
theorem w8l (y:Ex) (l:List Ex) (hl:l.length=y.args.length) (h:smV y):smV (y.withArgs l):=⟨by rw [Ex.z1p,hl];exact h.1,h.2.1,h.2.2⟩
theorem w6q {F:List Fnc} (hv:valid F) {V:Ex->Prop} (hV:∀ y l,l.length=y.args.length->V y->V (y.withArgs l)) {x:Ex} (hk:kn F x) (hx:∀ y,Ex.Nd y x->y.op≠3->V y)
 (hb:∀ i,i<F.length->(bdF F i).full=false->(bdF F i).x.allV V):(expF F x).ok/\((expF F x).full=false->(expF F x).x.allV V):=
 vb3 hV x hx (fun y hy h3 hf z hz=>by
  have hn:(findF F y.name).toNat<F.length:=xqh (hk y hy h3).1;obtain ⟨_,_,c,_⟩:=(yqu hv _ hn).2 hf z hz
  exact ⟨fun _=>hb _ hn hf z hz,fun h1=>by rw [(hk y hy h3).2];exact xqh (c h1)⟩)
theorem yz8 {F:List Fnc} (hv:valid F) {V:Ex->Prop} (hV:∀ y l,l.length=y.args.length->V y->V (y.withArgs l)) (hx:∀ i,i<F.length->(F.getD i default).body.allV V) :
 ∀ i,i<F.length->(bdF F i).full=false->(bdF F i).x.allV V:=by
 refine ybr hv.ac (fun i hi ih hf=>?_);rw [xew hv.ac hi] at hf ⊢;refine (vb3 hV _ (fun y hy _=>hx i hi y hy) (fun y hy h3 hf z hz=>?_)).2 hf;have he:x0t F i (findF F y.name).toNat:=⟨y,hy,h3,rfl⟩;obtain ⟨_,_,c,_⟩:=(yqu hv _ (x3l he)).2 hf z hz;exact ⟨fun _=>ih _ he hf z hz,fun h1=>by rw [((hv.ok hi).kn y hy h3).2];exact xqh (c h1)⟩
theorem Wh.ok.sm {w:Wh} (h:w.ok) (h2:w.full=false->w.x.allV smV):w.x.Sm:=by
 cases hf:w.full with
 | true=>rw [h.yes hf];exact yqv _ (fun y hy=>by
  cases hy with
  | here=>exact ⟨by decide,by decide,by decide⟩
  | arg hz _=>cases hz)
 | false=>exact yqv _ (h2 hf)
theorem x3n {F:List Fnc} (hv:valid F) (hS:∀ f∈F,f.Sm) {i:Nat} (hi:i<F.length):(bdF F i).x.Sm:=
 (yqu hv i hi).1.sm (yz8 hv w8l (fun _ hi=>zwl (hS _ (xdq hi)).b) i hi)
theorem ys1 {F:List Fnc} (hv:valid F) (hS:∀ f∈F,f.Sm) {x:Ex} (hx:x.Sm) (hk:kn F x):(expF F x).ok/\(expF F x).x.Sm:=by
 obtain ⟨a,b⟩:=w6q hv w8l hk (fun y hy _=>zwl hx y hy) (yz8 hv w8l (fun _ hi=>zwl (hS _ (xdq hi)).b));exact ⟨a,a.sm b⟩
abbrev Mw:=List (Int×Wh)
def iK (i:Int):Value:=.int .i64 i
def iE (a b:Int):Bool:=decide (a=b)
theorem xey (a b:Int):kEq (iK a) (iK b)=some (iE a b):=by
 unfold iK iE;simp [kEq,Bool.beq_eq_decide_eq]
abbrev whS (w:Wh):SV:=.agg [.dat (cI w.x.op),.dat (cI w.x.n),.dat (cS w.x.unit),.dat (cS w.x.name),.dat (.sl 5 (w.x.args.map Ex.cells)),.dat (cI w.nodes),.dat (cI w.levels),.dat (cB w.full)]
def envW (l:Mw):List (Value×SV):=entG iK (fun w:Wh=>whS w) l
theorem zit {T:Mw} {i:Int}:y1p (envW T) (.int .i64 i)=some ((vyo iE T i).map fun w=>whS w):=y6p xey (s:=i)
theorem zsq {T:Mw} {i:Int} {w:Wh}:updM (envW T) (.int .i64 i) (.agg [.dat (cI w.x.op),.dat (cI w.x.n),.dat (cS w.x.unit),.dat (cS w.x.name),.dat (.sl 5 (w.x.args.map Ex.cells)),.dat (cI w.nodes),.dat (cI w.levels),.dat (cB w.full)])=some (envW (updG iE T i w)):=xjw xey (C:=fun w:Wh=>whS w) (s:=i)
theorem zqq {r:Nat->Nat} {l:Mw}:rnSB r (.map (envW l))=.map (envW l):=ygm (fun _ _=>rfl) r l
theorem x07 {i j:Nat} {l:Mw}:swSB i j (.map (envW l))=.map (envW l):=v3n (fun _ _ _=>rfl) i j l
theorem vsa (l:Mw):wnr (.map (envW l))=[]:=wob (fun _=>rfl) l
attribute [go_sem] zit zsq vsa
attribute [go_sem 20000] zqq x07
theorem zab {l:Mw} {i:Int} {w:Wh} {j:Int}:vyo iE (updG iE l i w) j=if j=i then some w else vyo iE l j:=by
 induction l with
 | nil=>
  unfold updG vyo vyo iE;by_cases h:j=i
  . simp [h]
  . simp [h]
 | cons p l ih=>
  unfold updG;by_cases h1:i=p.1
  . rw [show iE i p.1=true from decide_eq_true h1,cond_true];unfold vyo;by_cases h2:j=i
    . simp [iE,h2]
    . rw [show iE j i=false from decide_eq_false h2,show iE j p.1=false from decide_eq_false (by omega),if_neg h2];rfl
  . rw [show iE i p.1=false from decide_eq_false h1,cond_false];unfold vyo;by_cases h2:j=p.1
    . rw [show iE j p.1=true from decide_eq_true h2,if_neg (by omega)];rfl
    . rw [show iE j p.1=false from decide_eq_false h2];simp only [cond_false];exact ih
def ygs (F:List Fnc) (M:Mw):Prop:=∀ i w,vyo iE M i=some w->0<=i/\i.toNat<F.length/\w=bdF F i.toNat
theorem ygs.upd {F:List Fnc} {M:Mw} (h:ygs F M) {j:Int} (h0:0<=j) (hj:j.toNat<F.length):ygs F (updG iE M j (bdF F j.toNat)):=fun i w hi=>by
 rw [zab] at hi;split at hi
 . rename_i e;subst e
   cases hi;exact ⟨h0,hj,rfl⟩
 . exact h i w hi
abbrev exB (F:List Fnc):SB:=.box [.dat (.sl 7 (F.map Fnc.C)),.mp 1] (some 69)
abbrev mW (M:Mw):SB:=.map (envW M)
end Go.Hp.T
namespace Go.Hp.T
open Go Go.RowKit Go.Slot Go.Hp Go.Slot.T
open Go.Proofs.Tryz (prog)
attribute [local irreducible] hide RH
set_option maxRecDepth 10000
set_option maxHeartbeats 8000000
variable {Γ:List (Nat×List Cell)}
def x65 (Γ:List (Nat×List Cell)) (F:List Fnc) (x:Ex):Prop:=∀ M,ygs F M->∃ M',ygs F M'/\
 xgj Γ prog 26 [exB F,mW M] [.one (.ptr 0 0),.agg ((exC x).map .dat)] [exB F,mW M'] (whS (expF F x))
theorem cutW {F:List Fnc} {M:Mw} {w:Wh} {ξ:List SB}:vxf 2 [whS w] (exB F::mW M::ξ)=true:=by
 unfold vxf;show (_&&([exB F,mW M].all fun x=>(wnr x).all fun b=>Nat.blt b 2))=true;simp only [List.all_cons,vsa,List.all_nil];rfl
theorem xdv (F:List Fnc) (M:Mw) (ξ:List SB):[0,1].map (fun j=>(exB F::mW M::ξ)[j]?)=[exB F,mW M].map (fun x=>some (rnSB (atR [0,1] (exB F::mW M::ξ).length) x)):=by
 show [some (exB F),some (mW M)]=[some (rnSB _ (exB F)),some (rnSB _ (mW M))];rw [zqq];rfl
theorem xt3 (F:List Fnc) (M M':Mw) (ξ:List SB):putR [0,1] (exB F::mW M::ξ) [exB F,mW M']=exB F::mW M'::ξ:=by
 show appL _ _++[]=_;rw [List.append_nil];show exB F::rnSB _ (mW M')::ξ=_;rw [zqq]
theorem x5p {F:List Fnc} (hv:valid F) {j:Int} (h0:0<=j) (hj:j.toNat<F.length) (hx:x65 Γ F (F.getD j.toNat default).body) (M:Mw) (hM:ygs F M):∃ M',ygs F M'/\
 xgj Γ prog 46 [exB F,mW M] [.one (.ptr 0 0),.one (.dat (cI j))] [exB F,mW M'] (whS (bdF F j.toNat)):=by
 cases hl:vyo iE M j with
 | some w=>
  obtain ⟨_,_,hw⟩:=hM j w hl;refine ⟨M,hM,?_⟩;rw [<-hw];clear hw hx hM;refine xgj.run [] Go.Proofs.Tryz.func46 rfl rfl ?_;simp only [Go.Proofs.Tryz.f46];refine hgR ?_;refine hg1 @hl ?_
  repeat' ((first | refine hfk ?_ ?_<;>intros | refine hik ?_)<;>refine hgS ?_)
  all_goals exact StH.yri rfl (by kernel_rfl) rfl
 | none=>
  obtain ⟨M',hM',hc⟩:=hx M hM;rw [show expF F (F.getD j.toNat default).body=bdF F j.toNat from (xew hv.ac hj).symm] at hc;refine ⟨_,hM'.upd h0 hj,?_⟩;clear hx hM hM';generalize bdF F j.toNat=w at *;refine xgj.run [] Go.Proofs.Tryz.func46 rfl rfl ?_;simp only [Go.Proofs.Tryz.f46];refine hgR ?_;refine hg1 @hl ?_
  repeat' ((first | refine hfk ?_ ?_<;>intros | refine hik ?_)<;>refine hgS ?_)
  refine xmn [0,1] hc rfl (by decide) rfl (xdv F M _) rfl ?_;rw [xt3];refine hg ?_
  repeat' ((first | refine hfk ?_ ?_<;>intros | refine hik ?_)<;>refine hgS ?_)
  exact StH.done 2 rfl cutW rfl rfl
theorem z4l (F:List Fnc) (M:Mw) (b2 b3 b4 b5 b6:SB):swL 4 6 [exB F,mW M,b2,b3,b4,b5,b6]=[exB F,mW M,swSB 4 6 b2,swSB 4 6 b3,swSB 4 6 b6,swSB 4 6 b5,swSB 4 6 b4]:=by
 show [swSB 4 6 (exB F),swSB 4 6 (mW M),swSB 4 6 b2,swSB 4 6 b3,swSB 4 6 b6,swSB 4 6 b5,swSB 4 6 b4]=_;rw [x07];rfl
theorem xf5 {F:List Fnc} (hv:valid F) (hF:F.length<=1073741824) (hS:∀ f∈F,f.Sm) {r:Nat->Nat} (hr:∀ i j,x0t F i j->r j<r i):∀ k:Nat,∀ x:Ex,x.Sm->kn F x->(∀ y,Ex.Nd y x->y.op=3->r (findF F y.name).toNat<k)->x65 Γ F x:=by
 intro k
 induction k using Nat.strongRecOn with
 | ind k ih=>
 have hbody:∀ j:Int,0<=j->j.toNat<F.length->r j.toNat<k->x65 Γ F (F.getD j.toNat default).body:=fun j h0 hj hk=>ih _ hk _ (hS _ (xdq hj)).b (hv.ok hj).kn (fun y hy h3=>hr _ _ ⟨y,hy,h3,rfl⟩)
 refine Ex.ind (fun x ihx hx hk hrk M0 hM0=>?_);have hl:=hx.len
 have hc:∀ i,i<x.args.length->x65 Γ F (x.args.getD i default):=fun i hi=>ihx _ (xdq hi) (hx.arg _ (xdq hi)) (hk.arg (xdq hi)) (fun y hy=>hrk y (.arg (xdq hi) hy))
 have hok:∀ w∈x.args.map (expF F),w.ok:=fun w hw=>by
  obtain ⟨y,hy,rfl⟩:=List.mem_map.1 hw;exact (ys1 hv hS (hx.arg y hy) (hk.arg hy)).1
 have hall:∀ y∈x.args,x65 Γ F y:=fun y hy=>ihx y hy (hx.arg y hy) (hk.arg hy) (fun z hz=>hrk z (.arg hy hz))
 clear ih ihx
 have hMs:∃ Ms:Nat->Mw,Ms 0=M0/\(∀ i,ygs F (Ms i))/\∀ i,i<x.args.length->xgj Γ prog 26 [exB F,mW (Ms i)] [.one (.ptr 0 0),.agg ((exC (x.args.getD i default)).map .dat)] [exB F,mW (Ms (i+1))] (whS (expF F (x.args.getD i default))):=by
  have key:∀ n,n<=x.args.length->∃ Ms:Nat->Mw,Ms 0=M0/\(∀ i,ygs F (Ms i))/\∀ i,i<n->xgj Γ prog 26 [exB F,mW (Ms i)] [.one (.ptr 0 0),.agg ((exC (x.args.getD i default)).map .dat)] [exB F,mW (Ms (i+1))] (whS (expF F (x.args.getD i default))):=by
   intro n
   induction n with
   | zero=>exact fun _=>⟨fun _=>M0,rfl,fun _=>hM0,fun i hi=>by omega⟩
   | succ n ihn=>
    intro hn;obtain ⟨Ms,h0,h1,h2⟩:=ihn (by omega);obtain ⟨M',hM',hcc⟩:=hc n (by omega) (Ms n) (h1 n);refine ⟨fun i=>if i<=n then Ms i else M',by simpa using h0,fun i=>?_,fun i hi=>?_⟩
    . dsimp only;split
      . exact h1 i
      . exact hM'
    . by_cases e:i=n
      . subst e;dsimp only;rw [if_pos (Nat.le_refl _),if_neg (by omega)];exact hcc
      . dsimp only;rw [if_pos (by omega),if_pos (by omega)];exact h2 i (by omega)
  exact key _ (Nat.le_refl _)
 obtain ⟨Ms,hs0,hsg,hsc⟩:=hMs;subst hs0;have hend:=hsg x.args.length;have hj:=xqd (Γ:=Γ) x (x.args.map (expF F)) (by simpa using hl) hok
 have hfin:∃ Mf,ygs F Mf/\(x.op≠3->Mf=Ms x.args.length)/\(x.op=3->0<=findF F x.name/\(findF F x.name).toNat<F.length/\xgj Γ prog 46 [exB F,mW (Ms x.args.length)] [.one (.ptr 0 0),.one (.dat (cI (findF F x.name)))] [exB F,mW Mf] (whS (bdF F (findF F x.name).toNat))/\
  ((bdF F (findF F x.name).toNat).full=false->CallsD Γ prog 47 [.agg (exC (bdF F (findF F x.name).toNat).x),.agg (fncC (F.getD (findF F x.name).toNat default)),.one (.sl 8 ((x.args.map (expF F)).map Wh.C))] (.agg (whC (putF (F.getD (findF F x.name).toNat default) (x.args.map (expF F)) (bdF F (findF F x.name).toNat).x))))):=by
  by_cases h3:x.op=3
  . have h0:=(hk x .here h3).1;have hn:=xqh h0;obtain ⟨Mf,hMf,hb⟩:=x5p (Γ:=Γ) hv h0 hn (hbody _ h0 hn (hrk x .here h3)) (Ms x.args.length) hend;refine ⟨Mf,hMf,fun h=>absurd h3 h,fun _=>⟨h0,hn,hb,fun hf=>?_⟩⟩;refine cPut _ (hS _ (xdq hn)) _ (by simpa using hl) hok _ (x3n hv hS hn) (fun y hy h1=>?_);have hc:=((yqu hv _ hn).2 hf y hy).2.2.1 h1;exact ⟨hc,by rw [List.length_map,(hk x .here h3).2];exact xqh hc⟩
  . exact ⟨_,hend,fun _=>rfl,fun h=>absurd h h3⟩
 obtain ⟨Mf,hMf,hf1,hf2⟩:=hfin;refine ⟨Mf,hMf,?_⟩;have a1:=vzr (Γ:=Γ) F x.name hF
 have hxe:expF F x=bif !decide (x.op=3) then xi7 x (x.args.map (expF F)) else bif !(bdF F (findF F x.name).toNat).full then putF (F.getD (findF F x.name).toNat default) (x.args.map (expF F)) (bdF F (findF F x.name).toNat).x else Wh.none:=wpu _ _ _
 have hRn:x.op≠3->expF F x=xi7 x (x.args.map (expF F)):=fun h3=>by rw [hxe,decide_eq_false h3];rfl
 have hR3:x.op=3->((bdF F (findF F x.name).toNat).full=false->expF F x=putF (F.getD (findF F x.name).toNat default) (x.args.map (expF F)) (bdF F (findF F x.name).toNat).x)/\((bdF F (findF F x.name).toNat).full=true->expF F x=Wh.none):=fun h3=>by
  rw [hxe,decide_eq_true h3];exact ⟨fun h=>by rw [h];rfl,fun h=>by rw [h];rfl⟩
 generalize expF F x=R at *;clear hxe hk hrk hbody hok hall hc;refine xgj.run [] Go.Proofs.Tryz.func26 rfl rfl ?_;simp only [Go.Proofs.Tryz.f26];refine hgR ?_;refine yxw [0,3,4,11,12] (fun p:Nat×List Wh=>[(5,.one (.sl 4 8 0 p.2.length)),(13,.one (.dat (cI p.1)))])
  (fun p=>[exB F,mW (Ms p.1),.box ((exC x).map .dat) (some 25),.box wZ (some 71),.arr (.sl 8 (p.2.map Wh.C)) 0 (some 71)])
  (fun p=>p.1<=x.args.length/\p.2=(x.args.take p.1).map (expF F)) (fun p=>x.args.length-p.1) (0,[]) ⟨Nat.zero_le _,by simp⟩ ?_ ?_
 . refine hg ?_;refine StH.trans (StH.empty (d:=5) (es:=8) (c:=.sl 8 []) (T:=some 71) rfl rfl (fun r hr=>by cases hr) rfl) ?_;refine hg ?_;exact StH.same svl rfl
 rintro ⟨i,ws⟩ ⟨hi,hws⟩;dsimp only at hi hws
 have hwl:ws.length=i:=by rw [hws];simp;omega
 refine hg ?_;refine xw4 (fun hlt _=>?_) (fun hlt _=>?_)
 . have hlt':i<x.args.length:=by omega
   have hci:=hsc i hlt'
   have hnx:True->ws++[expF F (x.args.getD i default)]=(x.args.take (i+1)).map (expF F):=fun _=>by
    rw [hws,zea hlt',List.map_append];rfl
   generalize expF F (x.args.getD i default)=z at *;clear hsc hj hws;refine hg ?_
   repeat' ((first | refine hfk ?_ ?_<;>intros | refine hik ?_)<;>refine hgS ?_)
   refine xmn [0,1] hci rfl (by decide) rfl (xdv F _ _) rfl ?_;rw [xt3];refine hg ?_
   repeat' ((first | refine hfk ?_ ?_<;>intros | refine hik ?_)<;>refine hgS ?_)
   refine ⟨(i+1,ws++[z]),⟨by dsimp only;omega,hnx trivial⟩,by dsimp only;omega,?_⟩;refine StH.back [0,3,4,5,11,12,13] 4 6 5 rfl rfl rfl rfl rfl ?_ ?_
   . rw [z4l];refine hg ?_;exact trivial
   rw [z4l];simp only [List.map_append,List.map_cons,List.map_nil]
   conv=>simp (maxSteps:=2000000) (disch:=omega) only [go_sem,Nat.reduceAdd,Nat.reduceSub,Nat.reduceMul,Int.reduceToNat,Nat.reduceEqDiff,Nat.reduceBEq,Nat.reduceBneDiff,Nat.reduceLT,Int.reduceEq,Int.reduceLT,Int.reduceLE,Int.reduceNeg,Int.reduceAdd,Int.reduceSub,Int.reduceMul,List.length_append,List.length_singleton]
   exact StH.same svl rfl
 . have ei:i=x.args.length:=by omega
   subst ei;rw [List.take_length] at hws;generalize hdl:x.args.map (expF F)=wl at *;have hwe:ws=wl:=hws;subst hwe;by_cases h3:x.op=3
   . obtain ⟨b1,b2,b3,b4⟩:=hf2 h3;obtain ⟨r1,r2⟩:=hR3 h3;have d3:decide (x.op=3)=true:=decide_eq_true h3;generalize hw:bdF F (findF F x.name).toNat=w at *;generalize findF F x.name=j at *;clear hws hsc hf1 hf2 h3 hw hj hdl hRn hR3;refine hg ?_
     repeat' ((first | refine hfk ?_ ?_<;>intros | refine hik ?_ | with_reducible first | refine v47 (a1) ?_ | refine vrf (a1) ?_)<;>refine hgS ?_)
     . exfalso;simp_all;done
     refine xmn [0,1] b3 rfl (by decide) rfl (xdv F _ _) rfl ?_;rw [xt3];clear b3
     cases hwf:w.full with
     | true=>
      rw [r2 hwf];clear r1 r2 b4;refine hg1 @hwf ?_
      repeat' ((first | refine hfk ?_ ?_<;>intros | refine hik ?_)<;>refine hgS ?_)
      refine StH.trans (StH.ygu (σ':=[whS Wh.none]) (.cons (.agg (.cons (.refl _) (.cons (.refl _) (.cons (.refl _) (.cons (.refl _) (.cons (.dat (.zcSl _)) (.cons (.refl _) (.cons (.refl _) (.cons (.refl _) .nil))))))))) .nil)) ?_;exact StH.done 2 rfl cutW rfl rfl
     | false=>
      have b4:=b4 hwf;rw [r1 hwf];clear r1 r2
      have hwb:(x.args.length==ws.length)=true:=by rw [hwl];simp
      refine hg2 @hwf @hwb ?_
      repeat' ((first | refine hfk ?_ ?_<;>intros | refine hik ?_ | with_reducible first | refine v47 (b4) ?_ | refine vrf (b4) ?_)<;>refine hgS ?_)
      exact StH.done 2 rfl cutW rfl rfl
   . rw [hf1 h3,hRn h3];have d3:decide (x.op=3)=false:=decide_eq_false h3;clear hws hsc hf1 hf2 h3 hdl hRn hR3;refine hg ?_
     repeat' ((first | refine hfk ?_ ?_<;>intros | refine hik ?_ | with_reducible first | refine v47 (hj) ?_ | refine vrf (hj) ?_)<;>refine hgS ?_)
     all_goals first
      | exact StH.done 2 rfl cutW rfl rfl
      | (exfalso;simp_all;done)
theorem ws5 (_n:Int):AV.Le (.agg [cI 0,cI 0,cS ⟨#[]⟩,cS ⟨#[]⟩,.zc]) (.agg (exC Ex.zero)):=
 .agg (.cons (.refl _) (.cons (.refl _) (.cons (.refl _) (.cons (.refl _) (.cons (.zcSl _) .nil)))))
abbrev exB6 (F:List Fnc):SB:=.box [.dat (.sl 7 (F.map Fnc.C)),.mp 6] (some 69)
theorem xg3 (F:List Fnc) (M':Mw) (b0 b1 b2 b3 b4 b5:SB):putR [7,6] [b0,b1,b2,b3,b4,b5,.map [],exB6 F] [exB F,mW M']=[b0,b1,b2,b3,b4,b5,mW M',exB6 F]:=by
 show appL _ _++[]=_;rw [List.append_nil];show [b0,b1,b2,b3,b4,b5,rnSB _ (mW M'),_]=_;rw [zqq];rfl
theorem z09 (x:Ex) (F:List Fnc) (hx:x.Sm) (hF:F.length<=1073741824) (hS:∀ f∈F,f.Sm):CallsD Γ prog 9 [.agg (exC x),.one (.sl 7 (F.map Fnc.C))] (.tup [.agg (exC (yc3 F x).1),.one (cI (yc3 F x).2)]):=by
 have a1:=x22 (Γ:=Γ) x hx;have a2:=vee (Γ:=Γ) F hF hS
 cases h1:z7n x with
 | false=>
  rw [h1] at a1;rw [show yc3 F x=(Ex.zero,2) by unfold yc3;rw [h1];rfl];refine CallsD.run [] Go.Proofs.Tryz.func9 rfl rfl rfl ?_;simp only [Go.Proofs.Tryz.f9];refine hgR ?_
  repeat' ((first | refine hfk ?_ ?_<;>intros | refine hik ?_ | with_reducible first | refine v47 (a1) ?_ | refine vrf (a1) ?_)<;>refine hgS ?_)
  exact .tup (.cons (ws5 0) (.cons (.refl _) .nil))
 | true=>
 rw [h1] at a1;by_cases h2:wa2 F=0
 . rw [h2] at a2;have hv:=y5o.1 h2;have a6:=x7h (Γ:=Γ) [.sl 7 (F.map Fnc.C)] (some 22) 42 (x5q F) x hx (fun y _=>zbu (fun r=>by rw [List.map_map];rfl) (wpx F hF _ y))
   cases h3:x.anyN (x5q F) with
   | true=>
    rw [h3] at a6;rw [show yc3 F x=(Ex.zero,11) by unfold yc3;rw [h1,h2,h3];rfl];clear h1 h2 h3 hv;refine CallsD.run [(3,[.own,.clo,.room 2])] Go.Proofs.Tryz.func9 rfl rfl rfl ?_;simp only [Go.Proofs.Tryz.f9];refine hgR ?_
    repeat' ((first | refine hfk ?_ ?_<;>intros | refine hik ?_ | with_reducible first | refine v47 (a1) ?_ | refine vrf (a1) ?_ | refine v47 (a2) ?_ | refine vrf (a2) ?_)<;>refine hgS ?_)
    refine vfx [2,3] [(2,.box [.dat (.sl 7 (F.map Fnc.C))] (some 22)),(3,.clo 42 [.one (.ptr 2 0)])] (xgj.vtx 2 (fun ρ M w vs h=>by match vs,h with | [v],h=>exact h) (weq F)) (by rfl) (by decide) (by rfl) (by rfl) (by rfl) (by rfl) ?_;refine hg ?_
    repeat' ((first | refine hfk ?_ ?_<;>intros | refine hik ?_)<;>refine hgS ?_)
    refine vfx [2,3] [] a6 (by rfl) (by decide) (by rfl) (by rfl) (by rfl) (by rfl) ?_;refine hg ?_
    repeat' ((first | refine hfk ?_ ?_<;>intros | refine hik ?_)<;>refine hgS ?_)
    exact .tup (.cons (ws5 0) (.cons (.refl _) .nil))
   | false=>
   rw [h3] at a6
   have a7:=x7h (Γ:=Γ) [.sl 7 (F.map Fnc.C)] (some 22) 44 (zs3 F) x hx (fun y hy=>zbu (fun r=>by rw [List.map_map];rfl) (yi3 F hF (fun f hf=>(hS f hf).len) _ y (Ex.Sm.nd hx hy).len (fun h4=>by
    have:=Ex.vaz h3 hy
    unfold x5q at this;rw [decide_eq_true h4,Bool.true_and,decide_eq_false_iff_not] at this
    omega)))
   cases h4:x.anyN (zs3 F) with
   | true=>
    rw [h4] at a7;rw [show yc3 F x=(Ex.zero,1) by unfold yc3;rw [h1,h2,h3,h4];rfl];clear h1 h2 h3 h4 hv;refine CallsD.run [(3,[.own,.clo,.room 2]),(5,[.own,.clo,.room 2])] Go.Proofs.Tryz.func9 rfl rfl rfl ?_;simp only [Go.Proofs.Tryz.f9];refine hgR ?_
    repeat' ((first | refine hfk ?_ ?_<;>intros | refine hik ?_ | with_reducible first | refine v47 (a1) ?_ | refine vrf (a1) ?_ | refine v47 (a2) ?_ | refine vrf (a2) ?_)<;>refine hgS ?_)
    refine vfx [2,3] [(2,.box [.dat (.sl 7 (F.map Fnc.C))] (some 22)),(3,.clo 42 [.one (.ptr 2 0)])] (xgj.vtx 2 (fun ρ M w vs h=>by match vs,h with | [v],h=>exact h) (weq F)) (by rfl) (by decide) (by rfl) (by rfl) (by rfl) (by rfl) ?_;refine hg ?_
    repeat' ((first | refine hfk ?_ ?_<;>intros | refine hik ?_)<;>refine hgS ?_)
    refine vfx [2,3] [] a6 (by rfl) (by decide) (by rfl) (by rfl) (by rfl) (by rfl) ?_;refine hg ?_
    repeat' ((first | refine hfk ?_ ?_<;>intros | refine hik ?_)<;>refine hgS ?_)
    refine vfx [4,5] [(4,.box [.dat (.sl 7 (F.map Fnc.C))] (some 22)),(5,.clo 44 [.one (.ptr 4 0)])] (xgj.vtx 2 (fun ρ M w vs h=>by match vs,h with | [v],h=>exact h) (wog F)) (by rfl) (by decide) (by rfl) (by rfl) (by rfl) (by rfl) ?_;refine hg ?_
    repeat' ((first | refine hfk ?_ ?_<;>intros | refine hik ?_)<;>refine hgS ?_)
    refine vfx [4,5] [] a7 (by rfl) (by decide) (by rfl) (by rfl) (by rfl) (by rfl) ?_;refine hg ?_
    repeat' ((first | refine hfk ?_ ?_<;>intros | refine hik ?_)<;>refine hgS ?_)
    exact .tup (.cons (ws5 0) (.cons (.refl _) .nil))
   | false=>
   rw [h4] at a7;have hk:=zks h3 h4;obtain ⟨r,hr1,hr2⟩:=wbz hv.ac
   obtain ⟨M',_,hc⟩:=xf5 (Γ:=Γ) hv hF hS (fun i j h=>hr2 i j h (x3l h)) F.length x hx hk (fun y hy h3=>by
    have hj:=xqh (hk y hy h3).1
    have:=hr1 (findF F y.name).toNat
    have e:(findF F y.name).toNat<F.length:=hj
    omega) [] (fun i w h=>by cases h)
   obtain ⟨hwk,hws⟩:=ys1 hv hS hx hk;have hcp:=wdq (Γ:=Γ) _ hws
   have hres:yc3 F x=bif (expF F x).full then (Ex.zero,6) else ((expF F x).x,0):=by unfold yc3;rw [h1,h2,h3,h4];rfl
   rw [hres];generalize expF F x=w at *;clear hres h1 h2 h3 h4 hr1 hr2 hk hws hwk hv;refine CallsD.run [(3,[.own,.clo,.room 2]),(5,[.own,.clo,.room 2])] Go.Proofs.Tryz.func9 rfl rfl rfl ?_;simp only [Go.Proofs.Tryz.f9];refine hgR ?_
   repeat' ((first | refine hfk ?_ ?_<;>intros | refine hik ?_ | with_reducible first | refine v47 (a1) ?_ | refine vrf (a1) ?_ | refine v47 (a2) ?_ | refine vrf (a2) ?_)<;>refine hgS ?_)
   refine vfx [2,3] [(2,.box [.dat (.sl 7 (F.map Fnc.C))] (some 22)),(3,.clo 42 [.one (.ptr 2 0)])] (xgj.vtx 2 (fun ρ M w vs h=>by match vs,h with | [v],h=>exact h) (weq F)) (by rfl) (by decide) (by rfl) (by rfl) (by rfl) (by rfl) ?_;refine hg ?_
   repeat' ((first | refine hfk ?_ ?_<;>intros | refine hik ?_)<;>refine hgS ?_)
   refine vfx [2,3] [] a6 (by rfl) (by decide) (by rfl) (by rfl) (by rfl) (by rfl) ?_;refine hg ?_
   repeat' ((first | refine hfk ?_ ?_<;>intros | refine hik ?_)<;>refine hgS ?_)
   refine vfx [4,5] [(4,.box [.dat (.sl 7 (F.map Fnc.C))] (some 22)),(5,.clo 44 [.one (.ptr 4 0)])] (xgj.vtx 2 (fun ρ M w vs h=>by match vs,h with | [v],h=>exact h) (wog F)) (by rfl) (by decide) (by rfl) (by rfl) (by rfl) (by rfl) ?_;refine hg ?_
   repeat' ((first | refine hfk ?_ ?_<;>intros | refine hik ?_)<;>refine hgS ?_)
   refine vfx [4,5] [] a7 (by rfl) (by decide) (by rfl) (by rfl) (by rfl) (by rfl) ?_;refine hg ?_
   repeat' ((first | refine hfk ?_ ?_<;>intros | refine hik ?_)<;>refine hgS ?_)
   refine xmn [7,6] hc rfl (by decide) rfl rfl rfl ?_;rw [xg3];clear hc
   cases hf:w.full with
   | true=>
    refine hg1 @hf ?_
    repeat' ((first | refine hfk ?_ ?_<;>intros | refine hik ?_)<;>refine hgS ?_)
    exact .tup (.cons (ws5 0) (.cons (.refl _) .nil))
   | false=>
    refine hg1 @hf ?_
    repeat' ((first | refine hfk ?_ ?_<;>intros | refine hik ?_ | with_reducible first | refine v47 (hcp) ?_ | refine vrf (hcp) ?_)<;>refine hgS ?_)
    exact RLe.ofEq rfl
 . have hn:decide (wa2 F=0)=false:=decide_eq_false h2;rw [show yc3 F x=(Ex.zero,2) by unfold yc3;rw [hn,Bool.not_false,Bool.or_true];rfl];generalize wa2 F=e at *;clear h2;refine CallsD.run [] Go.Proofs.Tryz.func9 rfl rfl rfl ?_;simp only [Go.Proofs.Tryz.f9];refine hgR ?_
   repeat' ((first | refine hfk ?_ ?_<;>intros | refine hik ?_ | with_reducible first | refine v47 (a1) ?_ | refine vrf (a1) ?_ | refine v47 (a2) ?_ | refine vrf (a2) ?_)<;>refine hgS ?_)
   all_goals first
    | exact .tup (.cons (ws5 0) (.cons (.refl _) .nil))
    | (exfalso;simp_all;done)
end Go.Hp.T
namespace Go.Hp.T
open Go Go.RowKit Go.Slot Go.Hp Go.Slot.T
set_option maxRecDepth 10000
end Go.Hp.T
namespace Go.Hp.T
open Go Go.RowKit Go.Slot Go.Hp Go.Slot.T
open Go.Proofs.Tryz (prog)
set_option maxRecDepth 10000
set_option maxHeartbeats 4000000
variable {Γ:List (Nat×List Cell)}
end Go.Hp.T
namespace Go.Hp.T
open Go Go.RowKit Go.Slot Go.Hp
set_option maxRecDepth 10000
theorem ybb (s:ByteArray):seq s s=true:=by rw [veo];exact decide_eq_true rfl
theorem seq_eq {a b:ByteArray} (h:seq a b=true):a=b:=by rw [veo] at h;exact of_decide_eq_true h
theorem ve4 {α:Type} (d:α) (s:ByteArray):∀ V:List (ByteArray×α),vkc (updF V s d) s=some d
 | []=>by simp [updF,vkc,ybb]
 | p::V=>by
  unfold updF
  cases h:seq s p.1 with
  | true=>simp [vkc,ybb]
  | false=>simp [vkc,h,ve4 d s V]
theorem y27 {α:Type} (d:α) {s s':ByteArray} (hs:seq s' s=false):∀ V:List (ByteArray×α),vkc (updF V s d) s'=vkc V s'
 | []=>by simp [updF,vkc,hs]
 | p::V=>by
  unfold updF
  cases h:seq s p.1 with
  | true=>have e:=seq_eq h;subst e;simp [vkc,hs]
  | false=>simp [vkc,y27 d hs V]
theorem xku {α:Type} (d:α) (s:ByteArray):∀ V:List (ByteArray×α),(updF V s d).length<=V.length+1/\((updF V s d).length=V.length+1->vkc V s=none)
 | []=>⟨by simp [updF],fun _=>rfl⟩
 | p::V=>by
  unfold updF
  cases h:seq s p.1 with
  | true=>exact ⟨by simp,fun h2=>by simp at h2⟩
  | false=>
   have:=xku d s V
   exact ⟨by simp;omega,fun h2=>by simp at h2;simp [vkc,h,this.2 h2]⟩
theorem zpp:∀(vs:List Vr) (V W:List (ByteArray×Dm)),rV V vs=some W->W.length<=V.length+vs.length
 | [],V,W,h=>by rw [rV] at h;cases h;simp
 | v::vs,V,W,h=>by
  rw [rV] at h
  cases hb:(!isName v.name||isWord v.name||!vk8 v.d) with
  | true=>rw [hb] at h;cases h
  | false=>
   rw [hb] at h;have h1:=zpp vs _ W h;have h2:=(xku v.d v.name V).1;simp only [List.length_cons];omega
theorem z1y:∀(vs:List Vr) (V W:List (ByteArray×Dm)),rV V vs=some W->W.length=V.length+vs.length->(∀ v∈vs,vkc W v.name=some v.d)/\(∀ s d,vkc V s=some d->vkc W s=some d)
 | [],V,W,h,_=>by rw [rV] at h;cases h;exact ⟨fun v hv=>by simp at hv,fun s d hd=>hd⟩
 | v::vs,V,W,h,hlen=>by
  rw [rV] at h
  cases hb:(!isName v.name||isWord v.name||!vk8 v.d) with
  | true=>rw [hb] at h;cases h
  | false=>
   rw [hb] at h;have h1:=zpp vs _ W h;have h2:=xku v.d v.name V;simp only [List.length_cons] at hlen
   have h3:(updF V v.name v.d).length=V.length+1:=by omega
   obtain ⟨h4,h5⟩:=z1y vs _ W h (by omega);have hn:=h2.2 h3;refine ⟨fun u hu=>?_,fun s d hd=>?_⟩
   . rcases List.mem_cons.1 hu with rfl | hu
     . exact h5 _ _ (ve4 _ _ _)
     . exact h4 u hu
   . refine h5 s d ?_
     cases hs:seq s v.name with
     | true=>have e:=seq_eq hs;subst e;rw [hn] at hd;cases hd
     | false=>rw [y27 _ hs];exact hd
theorem wg4 {vs:List Vr} {ms:List Tb} {V T:List (ByteArray×Dm)} (h:yz2 vs ms=some (V,T)):∀ v∈vs,vkc V v.name=some v.d:=by
 unfold yz2 at h
 cases hV:rV [] vs with
 | none=>rw [hV] at h;cases h
 | some W=>
  rw [hV] at h;simp only at h
  cases hT:rT W [] ms with
  | none=>rw [hT] at h;cases h
  | some U=>
   rw [hT] at h;simp only at h
   cases hd:(decide ((W.length:Int)=vs.length)&&decide ((U.length:Int)=ms.length)) with
   | false=>rw [hd] at h;cases h
   | true=>
    rw [hd] at h
    cases h;rw [Bool.and_eq_true,decide_eq_true_iff] at hd;exact (z1y vs [] V hV (by simp;omega)).1
theorem y63 {x:Ex} (h:w7g x=true) (ho:x.op=1):x.args=[]:=by
 unfold w7g at h;rw [ho] at h;simp at h;exact h.2.2
end Go.Hp.T
namespace Go.Hp.T
open Go Go.RowKit Go.Slot Go.Hp Go.Slot.T
set_option maxRecDepth 10000
theorem y2n:∀{ms:List Tb} {V V' T0 T T':List (ByteArray×Dm)},rT V T0 ms=some T->rT V' T0 ms=some T'->T=T'
 | [],V,V',T0,T,T',h,h'=>by rw [rT] at h h';cases h;cases h';rfl
 | t::ms,V,V',T0,T,T',h,h'=>by
  rw [rT] at h h'
  cases hb:(vkc V t.name).isSome||decide (¬(whw t.unit).2=0)||!xnl (fun s=>(whw s).2) t||isWord t.name with
  | true=>rw [hb] at h;cases h
  | false=>
  cases hb':(vkc V' t.name).isSome||decide (¬(whw t.unit).2=0)||!xnl (fun s=>(whw s).2) t||isWord t.name with
  | true=>rw [hb'] at h';cases h'
  | false=>
   rw [hb] at h;rw [hb'] at h';exact y2n h h'
theorem yao {vs vs':List Vr} {ms:List Tb} {V V' T T':List (ByteArray×Dm)} (h:yz2 vs ms=some (V,T)) (h':yz2 vs' ms=some (V',T')):T=T':=by
 have key:∀{vs:List Vr} {V T:List (ByteArray×Dm)},yz2 vs ms=some (V,T)->∃ W,rT W [] ms=some T:=by
  intro vs V T h;unfold yz2 at h
  cases hV:rV [] vs with
  | none=>rw [hV] at h;cases h
  | some W=>
   rw [hV] at h;simp only at h
   cases hT:rT W [] ms with
   | none=>rw [hT] at h;cases h
   | some U=>
    rw [hT] at h;simp only at h
    cases hd:(decide ((W.length:Int)=vs.length)&&decide ((U.length:Int)=ms.length)) with
    | false=>rw [hd] at h;cases h
    | true=>rw [hd] at h;cases h;exact ⟨V,hT⟩
 obtain ⟨W,a⟩:=key h;obtain ⟨W',b⟩:=key h';exact y2n a b
def dimP (p:Prm):Dm:=dmO (whw p.unit).1
def varP (p:Prm):Vr:=⟨p.name,dimP p⟩
def ydb (s:ByteArray) (l:List Ex):Ex:=.mk 3 0 ⟨#[]⟩ s l
theorem zra {V T W:List (ByteArray×Dm)} {f:Fnc} {ws:List Wh} (hok:∀ w∈ws,w.ok) (hd:∀ s,0<=wcs f s->(wcs f s).toNat<ws.length/\∃ d,vkc W s=some d/\(ws.getD (wcs f s).toNat default).x.ty V T=(⟨false,d⟩,0)) :
 ∀ b:Ex,(∀ y,Ex.Nd y b->w7g y=true/\(y.op=1->0<=wcs f y.name))->(putF f ws b).full=false->(putF f ws b).x.ty V T=b.ty W T:=by
 refine Ex.ind (fun b ih hb hf=>?_);rw [vvr] at hf ⊢;by_cases h1:b.op=1
 . rw [decide_eq_true h1] at hf ⊢;simp only [cond_true];obtain ⟨_,d,e1,e2⟩:=hd _ ((hb b .here).2 h1);rw [e2,Ex.yyn,y63 (hb b .here).1 h1];unfold xaq;rw [h1,e1];rfl
 . rw [decide_eq_false h1] at hf ⊢;simp only [cond_false] at hf ⊢
   cases hr:yda f ws b.args with
   | inl z=>
    rw [hr] at hf;obtain ⟨y,_,rfl,hz⟩:=wj6 hr;simp only at hf;rw [hz] at hf;cases hf
   | inr us=>
    rw [hr] at hf;simp only at hf ⊢;obtain ⟨rfl,hn⟩:=xez hr
    have hoks:∀ w∈b.args.map (putF f ws),w.ok:=fun w hw=>by
     obtain ⟨y,hy,rfl⟩:=List.mem_map.1 hw;exact (wuk (V:=fun _=>True) (fun _ _ _ _=>trivial) hok (fun _ _ _ _ _=>trivial) y (fun _ _ _=>trivial) (fun z hz h1=>(hd _ ((hb z (.arg hy hz)).2 h1)).1)).1
    rcases ygy b _ hoks with ⟨_,e⟩ | ⟨_,e⟩
    . rw [e];dsimp only
      have hL:∀ l:List Ex,(∀ z∈l,z∈b.args)->Ex.tyL V T ((l.map (putF f ws)).map Wh.x)=Ex.tyL W T l:=by
       intro l
       induction l with
       | nil=>intro _;rw [List.map_nil,List.map_nil,Ex.tyL,Ex.tyL]
       | cons z l ihl=>
        intro h;have hz:=h z (by simp);rw [List.map_cons,List.map_cons,Ex.tyL,Ex.tyL,ih z hz (fun y hy=>hb y (.arg hz hy)) (hn z hz),ihl (fun w hw=>h w (by simp [hw]))]
      rw [Ex.yyn,Ex.yyn W T b];rw [show (b.withArgs ((b.args.map (putF f ws)).map Wh.x)).args=(b.args.map (putF f ws)).map Wh.x from rfl,hL b.args (fun z h=>h),List.length_map,List.length_map];rw [show (b.withArgs ((b.args.map (putF f ws)).map Wh.x)).op=b.op from rfl,show (b.withArgs ((b.args.map (putF f ws)).map Wh.x)).name=b.name from rfl]
      congr 1
      unfold xaq;rw [show (b.withArgs ((b.args.map (putF f ws)).map Wh.x)).op=b.op from rfl,decide_eq_false h1];rfl
    . rw [e] at hf;cases hf
theorem z3w {n:Int}:∀{l:List Ex},(∀ a∈l,a.sz<=n)->Ex.szL l<=n*l.length
 | [],_=>by rw [Ex.szL];simp
 | a::l,h=>by
  have:=z3w (fun b hb=>h b (List.mem_cons_of_mem _ hb))
  have:=h a (by simp)
  rw [Ex.szL,List.length_cons]
  have e:n*((l.length+1:Nat):Int)=n*l.length+n:=by rw [Int.natCast_succ,Int.mul_add,Int.mul_one]
  omega
theorem v65 {n:Int} (h0:0<=n):∀{l:List Ex},(∀ a∈l,a.dp<=n)->Ex.dpL l<=n
 | [],_=>by rw [Ex.dpL];exact h0
 | a::l,h=>by
  have:=v65 h0 (fun b hb=>h b (List.mem_cons_of_mem _ hb))
  have:=h a (by simp)
  rw [Ex.dpL];omega
theorem xlp {F:List Fnc} {x:Ex} (h:valid F) (hx:z7n x=true) (hk:kn F x):((expF F x).full=true/\(yc3 F x).2=6)\/((expF F x).full=false/\yc3 F x=((expF F x).x,0)):=by
 cases hf:(expF F x).full with
 | false=>exact .inr ⟨rfl,vdr h hx hk hf⟩
 | true=>
  left
  unfold yc3;rw [hx,y5o.2 h,(xwo hk).1,(xwo hk).2,hf];exact ⟨rfl,rfl⟩
theorem yz4 {f:Fnc} (h:wtj f=true):isNamed f.name=true/\1<=(f.params.length:Int)/\(f.params.length:Int)<=6/\z7n f.body=true:=by
 unfold wtj at h;simp only [Bool.and_eq_true,decide_eq_true_eq] at h;exact ⟨h.1.1.1.1,h.1.1.1.2,h.1.1.2,h.2⟩
theorem w1c {F:List Fnc} {i:Nat} (hi:i<F.length) (hv:wa2 F=0) (args:List Ex) (vs:List Vr) (ms:List Tb) (hlen:args.length=(F.getD i default).params.length)
 (hfew:∀ a∈args,0<=a.rsz 30 10) (hty:∀ j,j<args.length->ofF (args.getD j default) vs ms=(⟨false,dimP ((F.getD i default).params.getD j default)⟩,0)) :
 ((yc3 F (F.getD i default).body).2=0\/(yc3 F (F.getD i default).body).2=6)/\
 ((yc3 F (F.getD i default).body).2=0->(ofF (yc3 F (F.getD i default).body).1 ((F.getD i default).params.map varP) ms).2=0->
   (yc3 F (ydb (F.getD i default).name args)).2=6\/((yc3 F (ydb (F.getD i default).name args)).2=0/\
     ofF (yc3 F (ydb (F.getD i default).name args)).1 vs ms=ofF (yc3 F (F.getD i default).body).1 ((F.getD i default).params.map varP) ms)):=by
 have v:=y5o.1 hv;have hk:=v.ok hi;obtain ⟨f1,f2,f3,f4⟩:=yz4 hk.form;have hb:=xlp v hk.right hk.kn;refine ⟨by rcases hb with ⟨_,e⟩ | ⟨_,e⟩<;>rw [e]<;>simp,fun hb0 hw=>?_⟩
 have hbf:(expF F (F.getD i default).body).full=false/\yc3 F (F.getD i default).body=((expF F (F.getD i default).body).x,0):=by
  rcases hb with ⟨_,e⟩ | e
  . rw [e] at hb0;cases hb0
  . exact e
 have hbd:expF F (F.getD i default).body=bdF F i:=(xew v.ac hi).symm;rw [hbd] at hbf;rw [hbf.2] at hw ⊢;obtain ⟨hbf,hbe⟩:=hbf;obtain ⟨_,hbV⟩:=yqu v i hi
 replace hbV:=hbV hbf
 have ha:∀ a∈args,z7n a=true/\a.yp0=false/\a.sz<=30/\a.dp<=10:=fun a ham=>by
  obtain ⟨j,hj,rfl⟩:=List.getElem_of_mem ham;have h1:=hty j hj;rw [show args.getD j default=args[j] by simp [hj]] at h1;unfold ofF at h1
  cases hr:(!z7n args[j]||args[j].yp0) with
  | true=>rw [hr] at h1;exact absurd (show (2:Int)=0 from congrArg Prod.snd h1) (by decide)
  | false=>
   rw [Bool.or_eq_false_iff,Bool.not_eq_false'] at hr
   have:=((Ex.v19 args[j] 30 10).1).1 (hfew _ ham)
   exact ⟨hr.1,hr.2,this⟩
 have hsz:Ex.szL args<=30*args.length:=z3w (fun a h=>(ha a h).2.2.1);have hdp:Ex.dpL args<=10:=v65 (by decide) (fun a h=>(ha a h).2.2.2)
 have hxr:z7n (ydb (F.getD i default).name args)=true:=by
  refine (yqj _).2 ⟨?_,?_,?_⟩
  . rw [Ex.ziq];show 1+Ex.szL args<=200;omega
  . rw [Ex.ynm];show 1+Ex.dpL args<=20;omega
  . rw [Ex.vjs,Bool.and_eq_true,List.all_eq_true];refine ⟨?_,fun a h=>((yqj a).1 (ha a h).1).2.2⟩;show (isNamed (F.getD i default).name&&decide (1<=(args.length:Int))&&decide ((args.length:Int)<=6))=true;rw [f1,hlen,decide_eq_true f2,decide_eq_true f3];rfl
 have hfi:findF F (F.getD i default).name=(i:Int):=vld.find v.dis hi rfl
 have hxk:kn F (ydb (F.getD i default).name args):=fun y hy h3=>by
  cases hy with
  | here=>
   show 0<=findF F (F.getD i default).name/\args.length=(F.getD (findF F (F.getD i default).name).toNat default).params.length;rw [hfi];exact ⟨by omega,hlen⟩
  | arg hz hy=>exact absurd h3 ((Ex.wsm _).1 (ha _ hz).2.1 y hy)
 rcases xlp v hxr hxk with ⟨_,e⟩ | ⟨hxf,e⟩
 . exact .inl e
 right
 have g:=x0s F (ydb (F.getD i default).name args);rw [e] at g ⊢;refine ⟨rfl,?_⟩;obtain ⟨_,g1,g2,_,_⟩:=g.2.2 rfl;have hp:args.map (expG F (bdF F))=args.map (fun a=>(⟨a,a.sz,a.dp,false⟩:Wh)):=List.map_congr_left (fun a h=>ztv _ (ha a h).2.1 (by have:=(ha a h).2.2.1;omega) (by have:=(ha a h).2.2.2;omega))
 have hxe:expF F (ydb (F.getD i default).name args)=putF (F.getD i default) (args.map (fun a=>(⟨a,a.sz,a.dp,false⟩:Wh))) (bdF F i).x:=by
  unfold expF;rw [wpu];show (bif !(bdF F (findF F (F.getD i default).name).toNat).full then putF (F.getD (findF F (F.getD i default).name).toNat default) (args.map (expG F (bdF F))) (bdF F (findF F (F.getD i default).name).toNat).x else Wh.none)=_;rw [hfi,hp];show (bif !(bdF F i).full then _ else _)=_;rw [hbf];rfl
 rw [hxe] at hxf g1 g2 ⊢
 have hoks:∀ w∈args.map (fun a=>(⟨a,a.sz,a.dp,false⟩:Wh)),w.ok:=fun w hw=>by
  obtain ⟨a,h,rfl⟩:=List.mem_map.1 hw
  have:=ha a h
  exact .inr ⟨rfl,rfl,rfl,by show a.sz<=200;omega,by show a.dp<=20;omega⟩
 have hpos:0<args.length:=by omega
 have h0:=hty 0 hpos;unfold ofF at h0 hw ⊢;rw [(ha _ (xdq hpos)).1,(ha _ (xdq hpos)).2.1] at h0;simp only [Bool.not_true,Bool.or_false,cond_false] at h0
 have hbr:(!z7n (bdF F i).x||(bdF F i).x.yp0)=false:=by
  cases hbr:(!z7n (bdF F i).x||(bdF F i).x.yp0) with
  | false=>rfl
  | true=>rw [hbr] at hw;cases hw
 rw [hbr] at hw ⊢;rw [g1,g2];simp only [Bool.not_true,Bool.or_false,cond_false] at hw ⊢
 cases hr:yz2 vs ms with
 | none=>rw [hr] at h0;exact absurd (show (1:Int)=0 from congrArg Prod.snd h0) (by decide)
 | some p=>
 cases hr':yz2 ((F.getD i default).params.map varP) ms with
 | none=>rw [hr'] at hw;cases hw
 | some p'=>
  obtain ⟨V,T⟩:=p;obtain ⟨W,T'⟩:=p';have eT:=yao hr hr';subst eT;simp only;refine zra hoks (fun s hs=>?_) _ (fun y hy=>⟨(hbV y hy).1,(hbV y hy).2.2.1⟩) hxf;have hj:=xqh hs
  have hj':(wcs (F.getD i default) s).toNat<args.length:=by rw [hlen];exact hj
  have hnm:((F.getD i default).params.getD (wcs (F.getD i default) s).toNat default).name=s:=by
   have:=xjt (p:=fun q:Prm=>seq q.name s) hs
   rw [veo] at this;exact of_decide_eq_true this
  refine ⟨by rw [List.length_map];exact hj',dimP ((F.getD i default).params.getD (wcs (F.getD i default) s).toNat default),?_,?_⟩
  . have:=wg4 hr' _ (List.mem_map_of_mem (f:=varP) (xdq hj))
    rw [show (varP ((F.getD i default).params.getD (idxF (fun p=>seq p.name s) (F.getD i default).params).toNat default)).name=s from hnm] at this;exact this
  . have h1:=hty _ hj';unfold ofF at h1;rw [(ha _ (xdq hj')).1,(ha _ (xdq hj')).2.1,hr] at h1;simp only [Bool.not_true,Bool.or_false,cond_false] at h1;rw [getD_map' (fun a=>(⟨a,a.sz,a.dp,false⟩:Wh)) default args _ hj'];exact h1
end Go.Hp.T
namespace Go.Hp.T
open Go Go.RowKit Go.Slot Go.Hp Go.Slot.T
open Go.Proofs.Tryz (prog)
attribute [local irreducible] hide RH
set_option maxRecDepth 10000
set_option maxHeartbeats 8000000
variable {Γ:List (Nat×List Cell)}
end Go.Hp.T
