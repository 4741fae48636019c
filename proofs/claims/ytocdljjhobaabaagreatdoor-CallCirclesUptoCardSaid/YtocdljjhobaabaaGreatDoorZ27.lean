/- The proof, part Z27: 1a, 1b, Qa, Ij, Qb, 1c. -/
import Derived.Test.YtocdljjhobaabaaGreatDoorZ26
import Derived.Test.YtocdljjhobaabaaGreatDoorZ22
namespace Go.Hp.T
open Go Go.RowKit Go.Slot Go.Hp Go.Slot.T
set_option maxRecDepth 10000
structure Prm where
 name:ByteArray
 unit:ByteArray
structure Fnc where
 name:ByteArray
 params:List Prm
 body:Ex
def Prm.C (x:Prm):List Cell:=[cS x.name,cS x.unit]
abbrev prmC (x:Prm):List Cell:=[cS x.name,cS x.unit]
theorem Prm.C_eq (x:Prm):x.C=prmC x:=rfl
def Fnc.C (x:Fnc):List Cell:=[cS x.name,.sl 2 (x.params.map Prm.C),cI x.body.op,cI x.body.n,cS x.body.unit,cS x.body.name,.sl 5 (x.body.args.map Ex.cells)]
abbrev fncC (x:Fnc):List Cell:=[cS x.name,.sl 2 (x.params.map Prm.C),cI x.body.op,cI x.body.n,cS x.body.unit,cS x.body.name,.sl 5 (x.body.args.map Ex.cells)]
theorem Fnc.C_eq (x:Fnc):x.C=fncC x:=rfl
attribute [go_sem] Prm.C_eq Fnc.C_eq
instance:Inhabited Prm:=⟨⟨⟨#[]⟩,⟨#[]⟩⟩⟩
instance:Inhabited Fnc:=⟨⟨⟨#[]⟩,[],default⟩⟩
structure Fnc.Sm (f:Fnc):Prop where
 s:f.name.size<=1073741824
 len:f.params.length<=1073741824
 p:∀ p∈f.params,p.name.size<=1073741824/\p.unit.size<=1073741824
 b:f.body.Sm
mutual
def Ex.anyN (p:Ex->Bool):Ex->Bool
 | .mk o n u s l=>p (.mk o n u s l)||Ex.ww2 p l
def Ex.ww2 (p:Ex->Bool):List Ex->Bool
 | []=>false
 | y::l=>Ex.anyN p y||Ex.ww2 p l
end
theorem Ex.vww (p:Ex->Bool):∀ l:List Ex,Ex.ww2 p l=l.any (Ex.anyN p)
 | []=>by rw [Ex.ww2];rfl
 | y::l=>by rw [Ex.ww2,Ex.vww p l];rfl
theorem Ex.x9i (p:Ex->Bool) (x:Ex):x.anyN p=(p x||x.args.any (Ex.anyN p)):=by cases x;rw [Ex.anyN,Ex.vww];rfl
inductive Ex.Nd (y:Ex):Ex->Prop
 | here:Ex.Nd y y
 | arg {x z:Ex} (h:z∈x.args) (h2:Ex.Nd y z):Ex.Nd y x
theorem Ex.x8x (p:Ex->Bool):∀ x:Ex,x.anyN p=true↔∃ y,Ex.Nd y x/\p y=true:=by
 refine Ex.ind (fun x ih=>?_);rw [Ex.x9i,Bool.or_eq_true,List.any_eq_true];constructor
 . rintro (h | ⟨y,hy,h⟩)
   . exact ⟨x,.here,h⟩
   . obtain ⟨z,hz,h⟩:=(ih y hy).1 h;exact ⟨z,.arg hy hz,h⟩
 . rintro ⟨y,hy,h⟩
   cases hy with
   | here=>exact .inl h
   | arg hz h2=>exact .inr ⟨_,hz,(ih _ hz).2 ⟨y,h2,h⟩⟩
theorem Ex.vaz {p:Ex->Bool} {x:Ex} (h:x.anyN p=false) {y:Ex} (hy:Ex.Nd y x):p y=false:=by
 cases hp:p y with
 | false=>rfl
 | true=>rw [(Ex.x8x p x).2 ⟨y,hy,hp⟩] at h;cases h
mutual
def Ex.anyS {S:Type} (g:S->Ex->S×Bool):Ex->S->S×Bool
 | .mk o n u s l,t=>match g t (.mk o n u s l) with
  | (t',true)=>(t',true)
  | (t',false)=>Ex.y4w g l t'
def Ex.y4w {S:Type} (g:S->Ex->S×Bool):List Ex->S->S×Bool
 | [],t=>(t,false)
 | y::l,t=>match Ex.anyS g y t with
  | (t',true)=>(t',true)
  | (t',false)=>Ex.y4w g l t'
end
theorem Ex.zvm {S:Type} (g:S->Ex->S×Bool) (x:Ex) (t:S):x.anyS g t=match g t x with
 | (t',true)=>(t',true)
 | (t',false)=>Ex.y4w g x.args t':=by cases x;rw [Ex.anyS];rfl
def findF (F:List Fnc) (s:ByteArray):Int:=idxF (fun f=>seq f.name s) F
def wcs (f:Fnc) (s:ByteArray):Int:=idxF (fun p=>seq p.name s) f.params
def oddP (p:Prm):Bool:=!x6w p.unit||!isNamed p.name
def wtj (f:Fnc):Bool:=isNamed f.name&&decide (1<=(f.params.length:Int))&&decide ((f.params.length:Int)<=6)&&!f.params.any oddP&&z7n f.body
def x5q (F:List Fnc) (x:Ex):Bool:=decide (x.op=3)&&decide (findF F x.name<0)
def zs4 (F:List Fnc) (x:Ex):Bool:=decide (x.op=3)&&decide (¬(x.args.length:Int)=((F.getD (findF F x.name).toNat default).params.length:Int))
def znq (f:Fnc) (x:Ex):Bool:=decide (x.op=1)&&decide (wcs f x.name<0)
def ziv (p:Prm):Bool:=decide (¬(whw p.unit).2=0)
def zlh (F:List Fnc) (i:Nat):Bool:=decide (findF F (F.getD i default).name<(i:Int))||(List.range (F.getD i default).params.length).any fun k=>decide (wcs (F.getD i default) ((F.getD i default).params.getD k default).name<(k:Int))
def yum (F:List Fnc) (i:Nat):Int:=
 bif !wtj (F.getD i default) then 2 else
 bif zlh F i then 5 else
 bif (F.getD i default).params.any ziv then 14 else
 bif (F.getD i default).body.anyN (znq (F.getD i default))||(F.getD i default).body.anyN (x5q F) then 11 else
 bif (F.getD i default).body.anyN (zs4 F) then 1 else 0
def thrF (F:List Fnc):Nat->List Int->Int->List Int×Bool
 | 0,st,_=>(st,false)
 | k+1,st,i=>bif !decide (st.getD i.toNat 0=0) then (st,decide (st.getD i.toNat 0=1)) else
  (((F.getD i.toNat default).body.anyS (fun t y=>bif decide (y.op=3) then thrF F k t (findF F y.name) else (t,false)) (st.set i.toNat 1)).1.set i.toNat 2,
   ((F.getD i.toNat default).body.anyS (fun t y=>bif decide (y.op=3) then thrF F k t (findF F y.name) else (t,false)) (st.set i.toNat 1)).2)
def w1r (F:List Fnc):Nat->Nat->Int
 | 0,_=>0
 | n+1,i=>bif !decide (yum F i=0) then yum F i else w1r F n (i+1)
def y38 (F:List Fnc):Nat->Nat->List Int->Bool
 | 0,_,_=>false
 | n+1,i,st=>bif (thrF F (F.length+1) st i).2 then true else y38 F n (i+1) (thrF F (F.length+1) st i).1
def wa2 (F:List Fnc):Int:=
 bif decide (100<(F.length:Int)) then 6 else
 bif !decide (w1r F F.length 0=0) then w1r F F.length 0 else
 bif y38 F F.length 0 (List.replicate F.length 0) then 23 else 0
structure Wh where
 x:Ex
 nodes:Int
 levels:Int
 full:Bool
def Wh.none:Wh:=⟨Ex.zero,0,0,true⟩
instance:Inhabited Wh:=⟨⟨Ex.zero,0,0,false⟩⟩
def Wh.C (w:Wh):List Cell:=[cI w.x.op,cI w.x.n,cS w.x.unit,cS w.x.name,.sl 5 (w.x.args.map Ex.cells),cI w.nodes,cI w.levels,cB w.full]
abbrev whC (w:Wh):List Cell:=[cI w.x.op,cI w.x.n,cS w.x.unit,cS w.x.name,.sl 5 (w.x.args.map Ex.cells),cI w.nodes,cI w.levels,cB w.full]
theorem Wh.C_eq (x:Wh):x.C=whC x:=rfl
attribute [go_sem] Wh.C_eq
def Ex.withArgs (x:Ex) (l:List Ex):Ex:=.mk x.op x.n x.unit x.name l
def vd1 (x:Ex):List Wh->Int->Int->List Ex->Wh
 | [],n,lv,l=>⟨x.withArgs l,n,lv,false⟩
 | y::ys,n,lv,l=>bif y.full||decide (200<n+y.nodes)||decide (20<max lv (y.levels+1)) then Wh.none else vd1 x ys (n+y.nodes) (max lv (y.levels+1)) (l++[y.x])
def xi7 (x:Ex) (ws:List Wh):Wh:=vd1 x ws 1 1 []
mutual
def putF (f:Fnc) (args:List Wh):Ex->Wh
 | .mk o n u s l=>bif decide (o=1) then args.getD (wcs f s).toNat default else
  match yda f args l with
  | .inl z=>z
  | .inr ws=>xi7 (.mk o n u s l) ws
def yda (f:Fnc) (args:List Wh):List Ex->Wh ⊕ List Wh
 | []=>.inr []
 | y::l=>match (putF f args y).full with
  | true=>.inl (putF f args y)
  | false=>match yda f args l with
   | .inl z=>.inl z
   | .inr ws=>.inr (putF f args y::ws)
end
mutual
def expG (F:List Fnc) (B:Nat->Wh):Ex->Wh
 | .mk o n u s l=>bif !decide (o=3) then xi7 (.mk o n u s l) (xgd F B l) else
  bif !(B (findF F s).toNat).full then putF (F.getD (findF F s).toNat default) (xgd F B l) (B (findF F s).toNat).x else Wh.none
def xgd (F:List Fnc) (B:Nat->Wh):List Ex->List Wh
 | []=>[]
 | y::l=>expG F B y::xgd F B l
end
theorem v2n (F:List Fnc) (B:Nat->Wh):∀ l:List Ex,xgd F B l=l.map (expG F B)
 | []=>by rw [xgd];rfl
 | y::l=>by rw [xgd,v2n F B l];rfl
theorem wpu (F:List Fnc) (B:Nat->Wh) (x:Ex):expG F B x=bif !decide (x.op=3) then xi7 x (x.args.map (expG F B)) else
 bif !(B (findF F x.name).toNat).full then putF (F.getD (findF F x.name).toNat default) (x.args.map (expG F B)) (B (findF F x.name).toNat).x else Wh.none:=by
 cases x;rw [expG,v2n];rfl
theorem vvr (f:Fnc) (args:List Wh) (x:Ex):putF f args x=bif decide (x.op=1) then args.getD (wcs f x.name).toNat default else
 match yda f args x.args with
 | .inl z=>z
 | .inr ws=>xi7 x ws:=by cases x;rw [putF];rfl
def vax (F:List Fnc):Nat->Nat->Wh
 | 0,_=>default
 | k+1,i=>expG F (vax F k) (F.getD i default).body
def expF (F:List Fnc) (x:Ex):Wh:=expG F (vax F F.length) x
def yc3 (F:List Fnc) (x:Ex):Ex×Int:=
 bif !z7n x||!decide (wa2 F=0) then (Ex.zero,2) else
 bif x.anyN (x5q F) then (Ex.zero,11) else
 bif x.anyN (zs4 F) then (Ex.zero,1) else
 bif (expF F x).full then (Ex.zero,6) else ((expF F x).x,0)
theorem Ex.wcm {S:Type} {g:S->Ex->S×Bool} {P:S->Prop} {R:Ex->S->Prop}:∀(l:List Ex),
 (∀ z∈l,∀ t,P t->(z.anyS g t).2=false->P (z.anyS g t).1/\(∀ y,Ex.Nd y z->R y (z.anyS g t).1)/\(∀ y,R y t->R y (z.anyS g t).1))->
 ∀ t,P t->(Ex.y4w g l t).2=false->P (Ex.y4w g l t).1/\(∀ z∈l,∀ y,Ex.Nd y z->R y (Ex.y4w g l t).1)/\(∀ y,R y t->R y (Ex.y4w g l t).1)
 | [],_,t,hP,_=>by rw [Ex.y4w];exact ⟨hP,(fun _ h=>by cases h),fun _ h=>h⟩
 | z::l,hz,t,hP,h=>by
  rw [Ex.y4w] at h ⊢
  cases hr:z.anyS g t with
  | mk t1 b=>
   have h1:=hz z (by simp) t hP;rw [hr] at h1 h
   cases b with
   | true=>cases h
   | false=>
    obtain ⟨a1,a2,a3⟩:=h1 rfl;obtain ⟨b1,b2,b3⟩:=Ex.wcm l (fun z hz'=>hz z (by simp [hz'])) t1 a1 h;refine ⟨b1,fun w hw y hy=>?_,fun y hy=>b3 y (a3 y hy)⟩
    cases List.mem_cons.1 hw with
    | inl e=>subst e;exact b3 y (a2 y hy)
    | inr e=>exact b2 w e y hy
theorem Ex.z2s {S:Type} {g:S->Ex->S×Bool} {P:S->Prop} {R:Ex->S->Prop}:∀ x:Ex,
 (∀ t y,Ex.Nd y x->P t->(g t y).2=false->P (g t y).1/\R y (g t y).1/\(∀ z,R z t->R z (g t y).1))->
 ∀ t,P t->(x.anyS g t).2=false->P (x.anyS g t).1/\(∀ y,Ex.Nd y x->R y (x.anyS g t).1)/\(∀ y,R y t->R y (x.anyS g t).1):=by
 refine Ex.ind (fun x ih hg t hP h=>?_);rw [Ex.zvm] at h ⊢;have h0:=hg t x .here hP
 cases hr:g t x with
 | mk t1 b=>
  rw [hr] at h h0
  cases b with
  | true=>cases h
  | false=>
   obtain ⟨a1,a2,a3⟩:=h0 rfl;obtain ⟨b1,b2,b3⟩:=Ex.wcm x.args (fun z hz t' hP' h'=>ih z hz (fun t'' y hy=>hg t'' y (.arg hz hy)) t' hP' h') t1 a1 h;refine ⟨b1,fun y hy=>?_,fun y hy=>b3 y (a3 y hy)⟩
   cases hy with
   | here=>exact b3 _ a2
   | arg hz h2=>exact b2 _ hz y h2
theorem Ex.zcq {S:Type} {g:S->Ex->S×Bool} {P:S->Prop} {C:Prop}:∀(l:List Ex),
 (∀ z∈l,∀ t,P t->(z.anyS g t).2=true->C)->(∀ z∈l,∀ t,P t->(z.anyS g t).2=false->P (z.anyS g t).1)->
 ∀ t,P t->(Ex.y4w g l t).2=true->C
 | [],_,_,t,_,h=>by rw [Ex.y4w] at h;cases h
 | z::l,hz,hz2,t,hP,h=>by
  rw [Ex.y4w] at h
  cases hr:z.anyS g t with
  | mk t1 b=>
   have h1:=hz z (by simp) t hP;have h2:=hz2 z (by simp) t hP;rw [hr] at h1 h2 h
   cases b with
   | true=>exact h1 rfl
   | false=>exact Ex.zcq l (fun z hz'=>hz z (by simp [hz'])) (fun z hz'=>hz2 z (by simp [hz'])) t1 (h2 rfl) h
theorem Ex.x7p {S:Type} {g:S->Ex->S×Bool} {P:S->Prop} {C:Prop}:∀ x:Ex,
 (∀ t y,Ex.Nd y x->P t->(g t y).2=true->C)->(∀ t y,Ex.Nd y x->P t->(g t y).2=false->P (g t y).1)->
 ∀ t,P t->(x.anyS g t).2=true->C:=by
 refine Ex.ind (fun x ih hg hg2 t hP h=>?_);rw [Ex.zvm] at h
 cases hr:g t x with
 | mk t1 b=>
  have h0:=hg t x .here hP;have h2:=hg2 t x .here hP;rw [hr] at h h0 h2
  cases b with
  | true=>exact h0 rfl
  | false=>
   refine Ex.zcq x.args (fun z hz t' hP' h'=>ih z hz (fun t'' y hy=>hg t'' y (.arg hz hy)) (fun t'' y hy=>hg2 t'' y (.arg hz hy)) t' hP' h') (fun z hz t' hP' h'=>?_) t1 (h2 rfl) h;exact (Ex.z2s (R:=fun _ _=>True) z (fun t'' y hy hp hf=>⟨hg2 t'' y (.arg hz hy) hp hf,trivial,fun _ _=>trivial⟩) t' hP' h').1
theorem Ex.xy3 {S:Type} {g:S->Ex->S×Bool} {P:S->Prop}:∀ x:Ex,
 (∀ t y,Ex.Nd y x->P t->P (g t y).1)->∀ t,P t->P (x.anyS g t).1:=by
 have hL:∀ l:List Ex,(∀ z∈l,∀ t,P t->P (z.anyS g t).1)->∀ t,P t->P (Ex.y4w g l t).1:=by
  intro l
  induction l with
  | nil=>intro _ t h;rw [Ex.y4w];exact h
  | cons z l ih=>
   intro hz t h;rw [Ex.y4w];have h1:=hz z (by simp) t h
   cases hr:z.anyS g t with
   | mk t1 b=>
    rw [hr] at h1
    cases b with
    | true=>exact h1
    | false=>exact ih (fun z hz'=>hz z (by simp [hz'])) t1 h1
 refine Ex.ind (fun x ih hg t h=>?_);rw [Ex.zvm];have h1:=hg t x .here h
 cases hr:g t x with
 | mk t1 b=>
  rw [hr] at h1
  cases b with
  | true=>exact h1
  | false=>exact hL x.args (fun z hz t' h'=>ih z hz (fun t'' y hy=>hg t'' y (.arg hz hy)) t' h') t1 h1
def x0t (F:List Fnc) (i j:Nat):Prop:=∃ y,Ex.Nd y (F.getD i default).body/\y.op=3/\(findF F y.name).toNat=j
inductive Path (E:Nat->Nat->Prop):Nat->Nat->Prop
 | one {i j:Nat} (h:E i j):Path E i j
 | more {i j k:Nat} (h:Path E i j) (h2:E j k):Path E i k
theorem Path.rank {E:Nat->Nat->Prop} {r:Nat->Nat} (hr:∀ i j,E i j->r j<r i) {i j:Nat} (h:Path E i j):r j<r i:=by
 induction h with
 | one h=>exact hr _ _ h
 | more _ h2 ih=>exact Nat.lt_trans (hr _ _ h2) ih
def stG (F:List Fnc) (st:List Int):Prop:=st.length=F.length/\∃ r:Nat->Nat,∀ i,st.getD i 0=2->∀ j,x0t F i j->st.getD j 0=2/\r j<r i
def stLe (s t:List Int):Prop:=∀ i,(s.getD i 0=2->t.getD i 0=2)/\(s.getD i 0=1↔t.getD i 0=1)
theorem stLe.refl (s:List Int):stLe s s:=fun _=>⟨id,Iff.rfl⟩
theorem stLe.trans {a b c:List Int} (h:stLe a b) (h2:stLe b c):stLe a c:=fun i=>⟨fun e=>(h2 i).1 ((h i).1 e),(h i).2.trans (h2 i).2⟩
theorem whv {st:List Int} {i:Nat} (h:i<st.length) (v:Int):(st.set i v).getD i 0=v:=by simp [h]
theorem getD_set_ne {st:List Int} {i j:Nat} (h:j≠i) (v:Int):(st.set i v).getD j 0=st.getD j 0:=by
 simp [List.getElem?_set_ne (Ne.symm h)]
def wlq (st:List Int):Nat:=st.countP fun s=>decide (s=0)
theorem wqn {v:Int} (hv:v≠0):∀{st:List Int} {i:Nat},i<st.length->st.getD i 0=0->wlq (st.set i v)+1=wlq st
 | [],i,h,_=>by simp at h
 | s::st,0,_,h0=>by
  simp only [List.getD_cons_zero] at h0;subst h0;simp [wlq,hv]
 | s::st,i+1,h,h0=>by
  have ih:=wqn hv (st:=st) (i:=i) (by simpa using h) (by simpa using h0);unfold wlq at ih ⊢;rw [List.set_cons_succ,List.countP_cons,List.countP_cons];omega
theorem za5 {v:Int} (hv:v≠0):∀{st:List Int} {i:Nat},wlq (st.set i v)<=wlq st
 | [],_=>by simp [wlq]
 | s::st,0=>by
  unfold wlq;rw [List.set_cons_zero,List.countP_cons,List.countP_cons];simp [hv]
 | s::st,i+1=>by
  have ih:=za5 hv (st:=st) (i:=i);unfold wlq at ih ⊢;rw [List.set_cons_succ,List.countP_cons,List.countP_cons];omega
theorem zqk (F : List Fnc) : ∀ (k : Nat) (st : List Int) (i : Int), (thrF F k st i).1.length = st.length ∧ wlq (thrF F k st i).1 ≤ wlq st
 | 0,_,_=>by rw [thrF];exact ⟨rfl,Nat.le_refl _⟩
 | k + 1, st, i => by
  rw [thrF]
  cases decide (st.getD i.toNat 0=0) with
  | false=>exact ⟨rfl,Nat.le_refl _⟩
  | true=>
   simp only [Bool.not_true,cond_false]
   have:=Ex.xy3 (P:=fun t:List Int=>t.length=st.length/\wlq t<=wlq st) (g:=fun t y=>bif decide (y.op=3) then thrF F k t (findF F y.name) else (t,false)) (F.getD i.toNat default).body (fun t y _ ht=>by
    cases decide (y.op=3) with
    | false=>exact ht
    | true=>
     have:=zqk F k t (findF F y.name)
     exact ⟨this.1.trans ht.1,Nat.le_trans this.2 ht.2⟩) (st.set i.toNat 1) ⟨by simp,za5 (by decide)⟩
   refine ⟨by rw [List.length_set];exact this.1,Nat.le_trans (za5 (by decide)) this.2⟩
theorem wuh {α:Type} (p:α->Bool):∀ l:List α,l≠[]->(idxF p l).toNat<l.length
 | [],h=>absurd rfl h
 | [x],_=>by unfold idxF idxF;cases p x<;>simp
 | x::y::l,_=>by
  have ih:=wuh p (y::l) (by simp);have h3:=zah p (y::l);rw [idxF]
  cases p x with
  | true=>simp
  | false=>
   rw [cond_false];by_cases h:idxF p (y::l) = -1
   . simp [h]
   . rw [decide_eq_false h,cond_false];rw [List.length_cons];omega
theorem x4n {F:List Fnc} {i:Nat} (h:i<F.length) (s:ByteArray):(findF F s).toNat<F.length:=wuh _ F (fun e=>by subst e;simp at h)
abbrev thrG (F:List Fnc) (k:Nat):List Int->Ex->List Int×Bool:=fun t y=>bif decide (y.op=3) then thrF F k t (findF F y.name) else (t,false)
theorem v00:∀{l:List Nat} {x:Nat},x∈l->x<=l.sum
 | [],_,h=>by cases h
 | y::l,x,h=>by
  rw [List.sum_cons]
  rcases List.mem_cons.1 h with e | e
  . omega
  . have:=v00 e
    omega
theorem zwe {F:List Fnc}:∀(k:Nat) (st:List Int) (i:Int),i.toNat<F.length->wlq st<k->stG F st->(thrF F k st i).2=false->(∀ j,st.getD j 0=0\/st.getD j 0=1\/st.getD j 0=2)->
 stG F (thrF F k st i).1/\stLe st (thrF F k st i).1/\(thrF F k st i).1.getD i.toNat 0=2/\(∀ j,(thrF F k st i).1.getD j 0=0\/(thrF F k st i).1.getD j 0=1\/(thrF F k st i).1.getD j 0=2)
 | 0,_,_,_,hk,_,_,_=>by omega
 | k + 1, st, i, hi, hk, hG, h, hv => by
  obtain ⟨hl,r,hr⟩:=hG
  have hil:i.toNat<st.length:=by omega
  rw [thrF] at h ⊢;by_cases h0:st.getD i.toNat 0=0
  . rw [decide_eq_true h0] at h ⊢;simp only [Bool.not_true,cond_false] at h ⊢;have hz:=wqn (v:=1) (by decide) hil h0
    have g1:stG F (st.set i.toNat 1):=⟨by simpa using hl,r,fun a ha j hj=>by
     have hai:a≠i.toNat:=fun e=>by rw [e,whv hil] at ha;omega
     rw [getD_set_ne hai] at ha;obtain ⟨e1,e2⟩:=hr a ha j hj;refine ⟨?_,e2⟩;rw [getD_set_ne (fun e=>by rw [e,h0] at e1;omega)]
     exact e1⟩
    have v1:∀ j,(st.set i.toNat 1).getD j 0=0\/(st.set i.toNat 1).getD j 0=1\/(st.set i.toNat 1).getD j 0=2:=fun j=>by
     by_cases e:j=i.toNat
     . rw [e,whv hil];omega
     . rw [getD_set_ne e];exact hv j
    have key:=Ex.z2s (g:=thrG F k) (P:=fun t=>stG F t/\stLe (st.set i.toNat 1) t/\wlq t<k/\∀ j,t.getD j 0=0\/t.getD j 0=1\/t.getD j 0=2)
     (R:=fun y t=>y.op=3->t.getD (findF F y.name).toNat 0=2) (F.getD i.toNat default).body (fun t y _ hP hf=>by
       obtain ⟨p1,p2,p3,p4⟩:=hP;unfold thrG at hf ⊢;by_cases h3:y.op=3
       . rw [decide_eq_true h3,cond_true] at hf ⊢;obtain ⟨q1,q2,q3,q4⟩:=zwe k t (findF F y.name) (x4n hi _) p3 p1 hf p4;refine ⟨⟨q1,p2.trans q2,Nat.lt_of_le_of_lt (zqk F k t _).2 p3,q4⟩,fun _=>q3,fun z hz e=>(q2 _).1 (hz e)⟩
       . rw [decide_eq_false h3,cond_false]
         exact ⟨⟨p1,p2,p3,p4⟩,fun e=>absurd e h3,fun z hz=>hz⟩) (st.set i.toNat 1) ⟨g1,stLe.refl _,by omega,v1⟩ h
    obtain ⟨⟨⟨l2,r2,hr2⟩,a2,_,a4⟩,b2,_⟩:=key;generalize ((F.getD i.toNat default).body.anyS (thrG F k) (st.set i.toNat 1)).1=t at *
    have hit:i.toNat<t.length:=by omega
    have hi1:t.getD i.toNat 0=1:=((a2 i.toNat).2).1 (whv hil 1);refine ⟨⟨by simpa using l2,fun a=>if a=i.toNat then 1+((List.range F.length).map r2).sum else r2 a,fun a ha j hj=>?_⟩,fun j=>?_,whv hit 2,fun j=>?_⟩
    . by_cases e:a=i.toNat
      . subst e;obtain ⟨y,hy,h3,rfl⟩:=hj;have e2:=b2 y hy h3
        have hne:(findF F y.name).toNat≠i.toNat:=fun e=>by rw [e,hi1] at e2;omega
        refine ⟨by rw [getD_set_ne hne];exact e2,?_⟩;dsimp only;rw [if_pos rfl,if_neg hne]
        have:=v00 (List.mem_map_of_mem (f:=r2) (List.mem_range.2 (x4n hi y.name)))
        omega
      . rw [getD_set_ne e] at ha;obtain ⟨e1,e2⟩:=hr2 a ha j hj
        have hne:j≠i.toNat:=fun e=>by rw [e,hi1] at e1;omega
        dsimp only;rw [getD_set_ne hne,if_neg e,if_neg hne];exact ⟨e1,e2⟩
    . by_cases e:j=i.toNat
      . rw [e,whv hit,h0];omega
      . rw [getD_set_ne e,<-getD_set_ne (st:=st) e 1];exact a2 j
    . by_cases e:j=i.toNat
      . rw [e,whv hit];omega
      . rw [getD_set_ne e];exact a4 j
  . rw [decide_eq_false h0] at h ⊢;simp only [Bool.not_false,cond_true,decide_eq_false_iff_not] at h ⊢
    have:=hv i.toNat
    exact ⟨⟨hl,r,hr⟩,stLe.refl _,by omega,hv⟩
theorem wdi {F:List Fnc}:∀(k:Nat) (st:List Int) (i:Int),i.toNat<F.length->wlq st<k->stG F st->(∀ j,st.getD j 0=0\/st.getD j 0=1\/st.getD j 0=2)->(∀ j,st.getD j 0=1->Path (x0t F) j i.toNat)->(thrF F k st i).2=true->∃ c,Path (x0t F) c c
 | 0,_,_,_,hk,_,_,_,_=>by omega
 | k + 1, st, i, hi, hk, hG, hv, ho, h => by
  obtain ⟨hl,r,hr⟩:=hG
  have hil:i.toNat<st.length:=by omega
  rw [thrF] at h;by_cases h0:st.getD i.toNat 0=0
  . rw [decide_eq_true h0] at h;simp only [Bool.not_true,cond_false] at h;have hz:=wqn (v:=1) (by decide) hil h0
    have g1:stG F (st.set i.toNat 1):=⟨by simpa using hl,r,fun a ha j hj=>by
     have hai:a≠i.toNat:=fun e=>by rw [e,whv hil] at ha;omega
     rw [getD_set_ne hai] at ha;obtain ⟨e1,e2⟩:=hr a ha j hj;refine ⟨?_,e2⟩;rw [getD_set_ne (fun e=>by rw [e,h0] at e1;omega)]
     exact e1⟩
    have v1:∀ j,(st.set i.toNat 1).getD j 0=0\/(st.set i.toNat 1).getD j 0=1\/(st.set i.toNat 1).getD j 0=2:=fun j=>by
     by_cases e:j=i.toNat
     . rw [e,whv hil];omega
     . rw [getD_set_ne e];exact hv j
    refine Ex.x7p (g:=thrG F k) (P:=fun t=>stG F t/\wlq t<k/\(∀ j,t.getD j 0=0\/t.getD j 0=1\/t.getD j 0=2)/\∀ j,t.getD j 0=1->j=i.toNat\/Path (x0t F) j i.toNat) (F.getD i.toNat default).body (fun t y hy hP ht=>?_) (fun t y _ hP hf=>?_) (st.set i.toNat 1) ⟨g1,by omega,v1,fun j hj=>?_⟩ h
    . unfold thrG at ht;obtain ⟨p1,p2,p3,p4⟩:=hP;by_cases h3:y.op=3
      . rw [decide_eq_true h3,cond_true] at ht;have he:x0t F i.toNat (findF F y.name).toNat:=⟨y,hy,h3,rfl⟩;refine wdi k t (findF F y.name) (x4n hi _) p2 p1 p3 (fun j hj=>?_) ht
        rcases p4 j hj with e | e
        . rw [e];exact .one he
        . exact .more e he
      . rw [decide_eq_false h3,cond_false] at ht;cases ht
    . unfold thrG at hf ⊢;obtain ⟨p1,p2,p3,p4⟩:=hP;by_cases h3:y.op=3
      . rw [decide_eq_true h3,cond_true] at hf ⊢;obtain ⟨q1,q2,_,q4⟩:=zwe k t (findF F y.name) (x4n hi _) p2 p1 hf p3;exact ⟨q1,Nat.lt_of_le_of_lt (zqk F k t _).2 p2,q4,fun j hj=>p4 j ((q2 j).2.2 hj)⟩
      . rw [decide_eq_false h3,cond_false];exact ⟨p1,p2,p3,p4⟩
    . by_cases e:j=i.toNat
      . exact .inl e
      . rw [getD_set_ne e] at hj;exact .inr (ho j hj)
  . rw [decide_eq_false h0] at h;simp only [Bool.not_false,cond_true,decide_eq_true_eq] at h;exact ⟨_,ho _ h⟩
def acyc (F:List Fnc):Prop:=∃ r:Nat->Nat,∀ i,i<F.length->∀ j,x0t F i j->r j<r i
theorem vwd {F:List Fnc} {i j:Nat} (h:x0t F i j):i<F.length:=by
 obtain ⟨y,hy,h3,_⟩:=h;by_cases hi:i<F.length
 . exact hi
 . rw [show F.getD i default=default from by simp [List.getElem?_eq_none (Nat.le_of_not_lt hi)]] at hy
   cases hy with
   | here=>cases h3
   | arg hz _=>cases hz
theorem xxg {F:List Fnc}:∀(n i:Nat) (st:List Int),i+n=F.length->stG F st->(∀ j,st.getD j 0=0\/st.getD j 0=2)->(∀ j,j<i->st.getD j 0=2)->(y38 F n i st=false↔acyc F)
 | 0,i,st,hn,hG,hv,hd=>by
  rw [y38];obtain ⟨hl,r,hr⟩:=hG;exact ⟨fun _=>⟨r,fun a ha j hj=>(hr a (hd a (by omega)) j hj).2⟩,fun _=>rfl⟩
 | n+1,i,st,hn,hG,hv,hd=>by
  rw [y38]
  have hi:((i:Int)).toNat<F.length:=by omega
  have hz:wlq st<F.length+1:=by
   have:=List.countP_le_length (p:=fun s:Int=>decide (s=0)) (l:=st)
   rw [hG.1] at this;exact Nat.lt_succ_of_le this
  have hv3:∀ j,st.getD j 0=0\/st.getD j 0=1\/st.getD j 0=2:=fun j=>by have:=hv j;omega
  cases hr:(thrF F (F.length+1) st i).2 with
  | true=>
   simp only [cond_true];refine ⟨fun h=>(by cases h),fun ⟨r,h⟩=>?_⟩;obtain ⟨c,hc⟩:=wdi (F.length+1) st i hi hz hG hv3 (fun j hj=>by have:=hv j;omega) hr;exact absurd (hc.rank (fun a b hab=>h a (vwd hab) b hab)) (Nat.lt_irrefl _)
  | false=>
   simp only [cond_false];obtain ⟨q1,q2,q3,q4⟩:=zwe (F.length+1) st i hi hz hG hr hv3;refine xxg n (i+1) _ (by omega) q1 (fun j=>?_) (fun j hj=>?_)
   . have h1:=(q2 j).2;have h2:=hv j;have h3:=q4 j;omega
   . by_cases e:j=i
     . subst e;simpa using q3
     . exact (q2 j).1 (hd j (by omega))
end Go.Hp.T
namespace Go.Hp.T
open Go Go.RowKit Go.Slot Go.Hp Go.Slot.T
open Go.Proofs.Tryz (prog)
set_option maxRecDepth 10000
set_option maxHeartbeats 4000000
variable {Γ:List (Nat×List Cell)}
end Go.Hp.T
namespace Go.Hp.T
open Go Go.RowKit Go.Slot Go.Hp Go.Slot.T
set_option maxRecDepth 10000
def za9 (place:Nat->Option (Nat×Nat)) (cs:List HC) (ps:List (Nat×SV)):Option (List HC):=zjl place cs ps
def zdn (place:Nat->Option (Nat×Nat)) (cs:List HC) (r:List (Nat×SV)) (a:Option (Nat×Nat)) (b:Option (List HC)):Option (List HC):=match a,b with
 | some (off,size),some us=>if us.length=size/\off+size<=cs.length then zjl place (cs.take off++us++cs.drop (off+size)) r else none
 | _,_=>none
def wkp (place:Nat->Option (Nat×Nat)) (cs:List HC) (r:List (Nat×SV)) (b:Bool):Option (List HC):=bif b then zjl place cs r else none
theorem xrx {place:Nat->Option (Nat×Nat)} {cs:List HC} {ps:List (Nat×SV)}:zjl place cs ps=za9 place cs ps:=rfl
theorem xup {place:Nat->Option (Nat×Nat)} {cs:List HC}:za9 place cs []=some cs:=rfl
theorem wy4 {place:Nat->Option (Nat×Nat)} {cs:List HC} {i:Nat} {x:SV} {r:List (Nat×SV)}:za9 place cs ((i,x)::r)=zdn place cs r (place i) (zxw x):=by
 unfold za9;rw [zjl];rfl
theorem wgs {a b:Nat}:Nat.beq a b=decide (a=b):=by rw [Bool.eq_iff_iff,decide_eq_true_iff,Nat.beq_eq]
theorem xsn {a b:Nat}:Nat.ble a b=decide (a<=b):=by rw [Bool.eq_iff_iff,decide_eq_true_iff,Nat.ble_eq]
theorem vqy {a b:Nat} (h:a<=b):Nat.ble a b=true:=Nat.ble_eq_true_of_le h
theorem zhv {place:Nat->Option (Nat×Nat)} {cs us:List HC} {off size:Nat} {r:List (Nat×SV)}:zdn place cs r (some (off,size)) (some us)=wkp place (cs.take off++(us++cs.drop (off+size))) r (Nat.beq us.length size&&Nat.ble (off+size) cs.length):=by
 rw [<-List.append_assoc];show (if us.length=size/\off+size<=cs.length then zjl place (cs.take off++us++cs.drop (off+size)) r else none)=_;rw [wgs,xsn];by_cases h1:us.length=size
 . by_cases h2:off+size<=cs.length
   . rw [if_pos ⟨h1,h2⟩,decide_eq_true h1,decide_eq_true h2];rfl
   . rw [if_neg (fun h=>h2 h.2),decide_eq_false h2,Bool.and_false];rfl
 . rw [if_neg (fun h=>h1 h.1),decide_eq_false h1];rfl
theorem wow {place:Nat->Option (Nat×Nat)} {cs:List HC} {r:List (Nat×SV)}:wkp place cs r true=za9 place cs r:=rfl
attribute [go_sem ↓ 30000] xrx
attribute [go_sem] xup wy4 zhv wow wgs vqy
end Go.Hp.T
namespace Go.Hp.T
open Go Go.RowKit Go.Slot Go.Hp Go.Slot.T
open Go.Proofs.Tryz (prog)
attribute [local irreducible] hide RH
set_option maxRecDepth 10000
set_option maxHeartbeats 4000000
variable {Γ:List (Nat×List Cell)}
theorem n12:((12:Nat):Int)=12:=rfl
attribute [go_sem] n12
mutual
def Ex.rsz:Ex->Int->Int->Int
 | .mk _ _ _ _ l,n,lv=>bif decide (n<1)||decide (lv<1) then -1 else Ex.rszL l n lv 1
def Ex.rszL:List Ex->Int->Int->Int->Int
 | [],_,_,k=>k
 | y::l,n,lv,k=>bif decide (Ex.rsz y (n-k) (lv-1)<0) then -1 else Ex.rszL l n lv (k+Ex.rsz y (n-k) (lv-1))
end
theorem Ex.zbq (x:Ex) (n lv:Int):x.rsz n lv=bif decide (n<1)||decide (lv<1) then -1 else Ex.rszL x.args n lv 1:=by cases x;rw [Ex.rsz];rfl
theorem Ex.x2t:∀(l:List Ex),(∀ y∈l,∀ n lv:Int,-1<=y.rsz n lv/\(0<=y.rsz n lv->y.rsz n lv<=n))->∀ n lv k:Int,1<=k->k<=n->-1<=Ex.rszL l n lv k/\(0<=Ex.rszL l n lv k->Ex.rszL l n lv k<=n)
 | [],_,n,lv,k,h1,h2=>by rw [Ex.rszL];omega
 | y::l,h,n,lv,k,h1,h2=>by
  rw [Ex.rszL];have hy:=h y (by simp) (n-k) (lv-1);generalize y.rsz (n-k) (lv-1)=m at hy;by_cases hm:m<0
  . rw [decide_eq_true hm];simp only [cond_true];omega
  . rw [decide_eq_false hm];exact Ex.x2t l (fun z hz=>h z (by simp [hz])) n lv (k+m) (by omega) (by omega)
theorem Ex.vex:∀(x:Ex) (n lv:Int),-1<=x.rsz n lv/\(0<=x.rsz n lv->x.rsz n lv<=n):=by
 refine Ex.ind (fun x ih n lv=>?_);rw [Ex.zbq];by_cases h1:n<1
 . rw [decide_eq_true h1];simp only [Bool.true_or,cond_true];omega
 . by_cases h2:lv<1
   . rw [decide_eq_true h2];simp only [Bool.or_true,cond_true];omega
   . rw [decide_eq_false h1,decide_eq_false h2];exact Ex.x2t x.args ih n lv 1 (by omega) (by omega)
theorem vpf:∀ x:Ex,x.Sm->∀ n lv:Int,n<=1000->lv<=1000->0<=n->0<=lv->CallsD Γ prog 28 [.agg (exC x),.one (cI n),.one (cI lv)] (.one (cI (x.rsz n lv))):=by
 refine Ex.ind (fun x ih hx n lv hn hlv hn0 hlv0=>?_);have hl:=hx.len;refine CallsD.run [] Go.Proofs.Tryz.func28 rfl rfl rfl ?_;simp only [Go.Proofs.Tryz.f28];refine hgR ?_
 repeat' ((first | refine hfk ?_ ?_<;>intros | refine hik ?_)<;>refine hgS ?_)
 . rename_i h1 _ h2 _;exact RLe.ofEq (by rw [Ex.zbq,decide_eq_true h2,Bool.or_true];rfl)
 . rename_i h1 _ h2 _
   have e0:x.rsz n lv=Ex.rszL x.args n lv 1:=by rw [Ex.zbq,decide_eq_false h1,decide_eq_false h2];rfl
   refine yxw [1,2,3] (fun p:Nat×Int=>[(7,.one (.dat (cI p.2))),(8,.one (.dat (cI p.1)))]) (fun _=>[.box ((exC x).map .dat) (some 25)]) (fun p=>p.1<=x.args.length/\1<=p.2/\p.2<=n/\Ex.rszL (x.args.drop p.1) n lv p.2=Ex.rszL x.args n lv 1) (fun p=>x.args.length-p.1) (0,1) ⟨Nat.zero_le _,by simp only;omega,by simp only;omega,rfl⟩ ?_ ?_
   . refine hg ?_;exact StH.same svl rfl
   rintro ⟨i,k⟩ ⟨hi,hk1,hk2,hc⟩;simp only at hi hk1 hk2 hc;refine hg ?_;refine xw4 (fun hlt hd=>?_) (fun hlt _=>?_)
   . have hlt':i<x.args.length:=by omega
     have hy:=xdq hlt';have hcc:=ih _ hy (hx.arg _ hy) (n-k) (lv-1) (by omega) (by omega) (by omega) (by omega);have hb:=Ex.vex (x.args.getD i default) (n-k) (lv-1);rw [wde hlt',Ex.rszL] at hc;generalize (x.args.getD i default).rsz (n-k) (lv-1)=m at hcc hb hc;rw [e0,<-hc];clear e0 hc;refine hg1 @hd ?_
     repeat' ((first | refine hfk ?_ ?_<;>intros | refine hik ?_ | with_reducible first | refine v47 (hcc) ?_ | refine vrf (hcc) ?_)<;>refine hgS ?_)
     . exact RLe.ofEq rfl
     . exact ⟨(i+1,k+m),⟨by simp only;omega,by simp only;omega,by simp only;omega,rfl⟩,by simp only;omega,StH.same svl rfl⟩
   . refine hg ?_;rw [e0,<-hc,List.drop_eq_nil_of_le (by omega),Ex.rszL];exact RLe.ofEq rfl
 . rename_i h1 _;exact RLe.ofEq (by rw [Ex.zbq,decide_eq_true h1];rfl)
theorem rFew (x:Ex) (hx:x.Sm) (n lv:Int) (hn:n<=1000) (hlv:lv<=1000) (hn0:0<=n) (hlv0:0<=lv):CallsD Γ prog 10 [.agg (exC x),.one (cI n),.one (cI lv)] (.one (cB (decide (0<=x.rsz n lv)))):=by
 have h:=vpf (Γ:=Γ) x hx n lv hn hlv hn0 hlv0;refine CallsD.run [] Go.Proofs.Tryz.func10 rfl rfl rfl ?_;simp only [Go.Proofs.Tryz.f10];refine hgR ?_
 repeat' ((first | refine hfk ?_ ?_<;>intros | refine hik ?_ | with_reducible first | refine v47 (h) ?_ | refine vrf (h) ?_)<;>refine hgS ?_)
 all_goals exact RLe.ofEq rfl
end Go.Hp.T
namespace Go.Hp.T
open Go Go.RowKit Go.Slot Go.Hp Go.Slot.T
set_option maxRecDepth 10000
mutual
def Ex.sz:Ex->Int
 | .mk _ _ _ _ l=>1+Ex.szL l
def Ex.szL:List Ex->Int
 | []=>0
 | y::l=>Ex.sz y+Ex.szL l
end
mutual
def Ex.dp:Ex->Int
 | .mk _ _ _ _ l=>1+Ex.dpL l
def Ex.dpL:List Ex->Int
 | []=>0
 | y::l=>max (Ex.dp y) (Ex.dpL l)
end
theorem Ex.zis (x:Ex):x.sz=1+Ex.szL x.args:=by cases x;rw [Ex.sz];rfl
theorem Ex.ynm (x:Ex):x.dp=1+Ex.dpL x.args:=by cases x;rw [Ex.dp];rfl
theorem Ex.vr0:∀{l:List Ex},(∀ y∈l,1<=y.sz)->0<=Ex.szL l
 | [],_=>by rw [Ex.szL];omega
 | y::l,h=>by
  have:=h y (by simp)
  have:=Ex.vr0 (fun z hz=>h z (List.mem_cons_of_mem _ hz))
  rw [Ex.szL];omega
theorem Ex.vkb:∀ x:Ex,1<=x.sz:=by
 refine Ex.ind (fun x ih=>?_)
 have:=Ex.vr0 ih
 rw [Ex.zis];omega
theorem Ex.x9a:∀ l:List Ex,0<=Ex.dpL l
 | []=>by rw [Ex.dpL];omega
 | y::l=>by
  have:=Ex.x9a l
  rw [Ex.dpL];omega
theorem Ex.wli (x:Ex):1<=x.dp:=by have:=Ex.x9a x.args;rw [Ex.ynm];omega
theorem Ex.vhc (l:List Ex):0<=Ex.szL l:=Ex.vr0 (fun y _=>Ex.vkb y)
theorem Ex.vr4:∀ l m:List Ex,Ex.szL (l++m)=Ex.szL l+Ex.szL m
 | [],m=>by rw [Ex.szL];simp
 | y::l,m=>by rw [List.cons_append,Ex.szL,Ex.szL,Ex.vr4 l m];omega
theorem Ex.wzp:∀ l m:List Ex,Ex.dpL (l++m)=max (Ex.dpL l) (Ex.dpL m)
 | [],m=>by have:=Ex.x9a m;rw [List.nil_append,show Ex.dpL []=0 by rw [Ex.dpL]];omega
 | y::l,m=>by rw [List.cons_append,Ex.dpL,Ex.dpL,Ex.wzp l m];omega
theorem Ex.wza:∀ l:List Ex,(∀ y∈l,∀ n lv:Int,(y.cnt n lv).1=decide (n+y.sz<=200/\lv+y.dp<=21)/\((y.cnt n lv).1=true->(y.cnt n lv).2=n+y.sz))->
 ∀ n lv:Int,n<=200->lv<=21->(Ex.cntL l n lv).1=decide (n+Ex.szL l<=200/\lv+Ex.dpL l<=21)/\((Ex.cntL l n lv).1=true->(Ex.cntL l n lv).2=n+Ex.szL l)
 | [],_,n,lv,h1,h2=>by
  rw [Ex.cntL,Ex.szL,Ex.dpL];exact ⟨(decide_eq_true (by omega)).symm,fun _=>by simp⟩
 | y::l,hy,n,lv,h1,h2=>by
  rw [Ex.cntL,Ex.szL,Ex.dpL];obtain ⟨a1,a2⟩:=hy y (by simp) n lv
  have:=Ex.vhc l
  have:=Ex.x9a l
  have:=Ex.vkb y
  cases hr:y.cnt n lv with
  | mk b m=>
   rw [hr] at a1 a2
   cases b with
   | false=>
    have a1:=of_decide_eq_false a1.symm;exact ⟨(decide_eq_false (by omega)).symm,fun h=>by cases h⟩
   | true=>
    have e:=a2 rfl;have a1:=of_decide_eq_true a1.symm;simp only at e;subst e;obtain ⟨b1,b2⟩:=Ex.wza l (fun z hz=>hy z (List.mem_cons_of_mem _ hz)) (n+y.sz) lv (by omega) h2;refine ⟨b1.trans ?_,fun h=>(b2 h).trans (by omega)⟩;by_cases h:n+y.sz+Ex.szL l<=200/\lv+Ex.dpL l<=21
    . rw [decide_eq_true h,decide_eq_true (by omega)]
    . rw [decide_eq_false h,decide_eq_false (by omega)]
theorem Ex.x9f:∀(x:Ex) (n lv:Int),(x.cnt n lv).1=decide (n+x.sz<=200/\lv+x.dp<=21)/\((x.cnt n lv).1=true->(x.cnt n lv).2=n+x.sz):=by
 refine Ex.ind (fun x ih n lv=>?_);have h3:=Ex.vhc x.args;have h4:=Ex.x9a x.args;rw [Ex.zl2,Ex.zis,Ex.ynm];by_cases h1:200<n+1
 . rw [decide_eq_true h1];exact ⟨(decide_eq_false (by omega)).symm,fun h=>by cases h⟩
 . by_cases h2:20<lv
   . rw [decide_eq_true h2,Bool.or_true];exact ⟨(decide_eq_false (by omega)).symm,fun h=>by cases h⟩
   . rw [decide_eq_false h1,decide_eq_false h2];obtain ⟨b1,b2⟩:=Ex.wza x.args ih (n+1) (lv+1) (by omega) (by omega);refine ⟨b1.trans ?_,fun h=>(b2 h).trans (by omega)⟩;by_cases h:n+1+Ex.szL x.args<=200/\lv+1+Ex.dpL x.args<=21
     . rw [decide_eq_true h,decide_eq_true (by omega)]
     . rw [decide_eq_false h,decide_eq_false (by omega)]
theorem yqj (x:Ex):z7n x=true↔x.sz<=200/\x.dp<=20/\x.shaped=true:=by
 have h:=(Ex.x9f x 0 1).1;unfold z7n;rw [Bool.and_eq_true,h,decide_eq_true_eq];constructor
 . rintro ⟨a,b⟩;exact ⟨by omega,by omega,b⟩
 . rintro ⟨a,b,c⟩;exact ⟨by omega,c⟩
theorem Ex.xa5:∀ l:List Ex,(∀ y∈l,∀ n lv:Int,(0<=y.rsz n lv↔y.sz<=n/\y.dp<=lv)/\(0<=y.rsz n lv->y.rsz n lv=y.sz))->
 ∀ n lv k:Int,0<=k->k<=n->1<=lv->(0<=Ex.rszL l n lv k↔k+Ex.szL l<=n/\1+Ex.dpL l<=lv)/\(0<=Ex.rszL l n lv k->Ex.rszL l n lv k=k+Ex.szL l)
 | [],_,n,lv,k,h0,h1,h2=>by rw [Ex.rszL,Ex.szL,Ex.dpL];omega
 | y::l,hy,n,lv,k,h0,h1,h2=>by
  rw [Ex.rszL,Ex.szL,Ex.dpL];have a:=hy y (by simp) (n-k) (lv-1)
  have:=Ex.vhc l
  have:=Ex.x9a l
  have:=Ex.vkb y
  generalize y.rsz (n-k) (lv-1)=m at a;by_cases hm:m<0
  . rw [decide_eq_true hm];simp only [cond_true];omega
  . rw [decide_eq_false hm];simp only [cond_false];have e:=a.2 (by omega);subst e;have b:=Ex.xa5 l (fun z hz=>hy z (List.mem_cons_of_mem _ hz)) n lv (k+y.sz) (by omega) (by omega) h2;omega
theorem Ex.v19:∀(x:Ex) (n lv:Int),(0<=x.rsz n lv↔x.sz<=n/\x.dp<=lv)/\(0<=x.rsz n lv->x.rsz n lv=x.sz):=by
 refine Ex.ind (fun x ih n lv=>?_);have h3:=Ex.vhc x.args;have h4:=Ex.x9a x.args;rw [Ex.zbq,Ex.zis,Ex.ynm];by_cases h1:n<1
 . rw [decide_eq_true h1];simp only [Bool.true_or,cond_true];omega
 . by_cases h2:lv<1
   . rw [decide_eq_true h2];simp only [Bool.or_true,cond_true];omega
   . rw [decide_eq_false h1,decide_eq_false h2];simp only [Bool.or_false,cond_false]
     have:=Ex.xa5 x.args ih n lv 1 (by omega) (by omega) (by omega)
     omega
def Wh.ok (w:Wh):Prop:=w=Wh.none\/(w.full=false/\w.nodes=w.x.sz/\w.levels=w.x.dp/\w.x.sz<=200/\w.x.dp<=20)
theorem Wh.ok_none:Wh.none.ok:=.inl rfl
theorem Wh.ok.no {w:Wh} (h:w.ok) (hf:w.full=false):w.nodes=w.x.sz/\w.levels=w.x.dp/\w.x.sz<=200/\w.x.dp<=20:=by
 rcases h with h | h
 . rw [h] at hf;cases hf
 . exact h.2
theorem Wh.ok.yes {w:Wh} (h:w.ok) (hf:w.full=true):w=Wh.none:=by
 rcases h with h | h
 . exact h
 . rw [hf] at h;cases h.1
theorem va5 (x:Ex):∀(ws:List Wh) (n lv:Int) (l:List Ex),(∀ w∈ws,w.ok)->n=1+Ex.szL l->lv=1+Ex.dpL l->n<=200->lv<=20->
 vd1 x ws n lv l=if (∀ w∈ws,w.full=false)/\1+Ex.szL (l++ws.map Wh.x)<=200/\1+Ex.dpL (l++ws.map Wh.x)<=20 then ⟨x.withArgs (l++ws.map Wh.x),1+Ex.szL (l++ws.map Wh.x),1+Ex.dpL (l++ws.map Wh.x),false⟩ else Wh.none
 | [],n,lv,l,_,h1,h2,h3,h4=>by
  rw [vd1,if_pos ⟨fun w hw=>(by cases hw),by simp;omega,by simp;omega⟩,h1,h2];simp
 | y::ws,n,lv,l,hw,h1,h2,h3,h4=>by
  rw [vd1];have hy:=hw y (by simp);have p1:=Ex.vhc (ws.map Wh.x);have p2:=Ex.x9a (ws.map Wh.x);have p3:=Ex.vkb y.x
  have s1:Ex.szL (l++(y::ws).map Wh.x)=Ex.szL l+y.x.sz+Ex.szL (ws.map Wh.x):=by rw [Ex.vr4,List.map_cons,Ex.szL];omega
  have s2:Ex.dpL (l++(y::ws).map Wh.x)=max (Ex.dpL l) (max y.x.dp (Ex.dpL (ws.map Wh.x))):=by rw [Ex.wzp,List.map_cons,Ex.dpL]
  cases hf:y.full with
  | true=>
   simp only [Bool.true_or,cond_true];rw [if_neg (fun h=>by have:=h.1 y (by simp);rw [hf] at this;cases this)]
  | false=>
   obtain ⟨e1,e2,e3,e4⟩:=hy.no hf;by_cases c1:200<n+y.nodes
   . rw [decide_eq_true c1];simp only [Bool.or_true,Bool.true_or,cond_true];rw [if_neg (fun h=>by rw [s1] at h;omega)]
   by_cases c2:20<max lv (y.levels+1)
   . rw [decide_eq_true c2];simp only [Bool.or_true,cond_true];rw [if_neg (fun h=>by rw [s2] at h;omega)]
   rw [decide_eq_false c1,decide_eq_false c2];simp only [Bool.or_false,cond_false]
   have q1:Ex.szL (l++[y.x])=Ex.szL l+y.x.sz:=by rw [Ex.vr4,Ex.szL,Ex.szL];omega
   have q2:Ex.dpL (l++[y.x])=max (Ex.dpL l) y.x.dp:=by rw [Ex.wzp,Ex.dpL,Ex.dpL];have:=Ex.wli y.x;omega
   rw [va5 x ws _ _ (l++[y.x]) (fun w h=>hw w (List.mem_cons_of_mem _ h)) (by rw [q1];omega) (by rw [q2];omega) (by omega) (by omega)];rw [show l++[y.x]++ws.map Wh.x=l++(y::ws).map Wh.x by simp]
   have ef:(∀ w∈y::ws,w.full=false)↔(∀ w∈ws,w.full=false):=⟨fun h w hw=>h w (List.mem_cons_of_mem _ hw),fun h w hw=>by
    rcases List.mem_cons.1 hw with e | e
    . rw [e];exact hf
    . exact h w e⟩
   simp only [ef]
def xpr (x:Ex) (ws:List Wh):Prop:=(∀ w∈ws,w.full=false)/\(x.withArgs (ws.map Wh.x)).sz<=200/\(x.withArgs (ws.map Wh.x)).dp<=20
theorem ygy (x:Ex) (ws:List Wh) (h:∀ w∈ws,w.ok):(xpr x ws/\xi7 x ws=⟨x.withArgs (ws.map Wh.x),(x.withArgs (ws.map Wh.x)).sz,(x.withArgs (ws.map Wh.x)).dp,false⟩)\/(¬xpr x ws/\xi7 x ws=Wh.none):=by
 unfold xi7 xpr;rw [va5 x ws 1 1 [] h (by rw [Ex.szL];omega) (by rw [Ex.dpL];omega) (by omega) (by omega),Ex.zis,Ex.ynm,List.nil_append];show (_/\(if _ then _ else _)=Wh.mk (x.withArgs (ws.map Wh.x)) (1+Ex.szL (ws.map Wh.x)) (1+Ex.dpL (ws.map Wh.x)) false)\/_
 split
 . rename_i hh;exact .inl ⟨hh,rfl⟩
 . rename_i hh;exact .inr ⟨hh,rfl⟩
theorem xeh (x:Ex) (ws:List Wh) (h:∀ w∈ws,w.ok):(xi7 x ws).ok:=by
 rcases ygy x ws h with ⟨h1,h2⟩ | ⟨_,h2⟩<;>rw [h2]
 . exact .inr ⟨rfl,rfl,rfl,h1.2.1,h1.2.2⟩
 . exact Wh.ok_none
end Go.Hp.T
