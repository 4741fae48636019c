/- The proof, part B24: A1, Ir, Ie, If, Ih, A2, Li. -/
import Derived.Test.YtglblfkobflpmaaGreatB23
import Derived.Test.YtglblfkobflpmaaGreatB19
namespace Go.Hp.T
open Go Go.RowKit Go.Slot Go.Hp Go.Slot.T
open Go.Proofs.Tryz (prog)
attribute [local irreducible] hide RH
set_option maxRecDepth 10000
set_option maxHeartbeats 8000000
variable {Γ:List (Nat×List Cell)}
theorem xam (f:Fc) (h:f.sz<=67108864):CallsD Γ prog 72 [.agg f.C] (.one (.raw (.bool (!decide f.ok)))):=by
 refine CallsD.run [] Go.Proofs.Tryz.func72 rfl rfl rfl ?_;simp only [Go.Proofs.Tryz.f72];refine hgR ?_
 first | refine wml (yg0 f (by omega)) ?_ | refine ysi (yg0 f (by omega)) ?_
 refine hg ?_;exact (.one (.refl _))
theorem zmm {l:List Fc} {n:Nat} (h:∀ f∈l,f.sz<=n) {i:Nat} (hi:i<l.length):(l.getD i Fc.zero).sz<=n:=h _ (by simp [hi])
theorem z6u (l:List Fc) (hl:l.length<=1048576) (hs:∀ f∈l,f.sz<=67108864) :
 CallsD Γ prog 46 [.one (.sl 4 (l.map Fc.C)),.one (.raw (.func (.func 72) #[] #[]))] (.one (.raw (.bool (!decide (oks l))))):=by
 have:=xmx (Γ:=Γ) 72 (fun f=>!decide f.ok) l (by omega) (fun i hi=>xam _ (zmm hs hi))
 rwa [zbr] at this
theorem x52 (a:Af) (n:Int) (hl:a.l.length<=1048576) (hs:a.le 67108864) :
 CallsD Γ prog 57 [.agg a.C,.one (.raw (.int .i64 n))] (.one (.raw (.bool (decide ((a.l.length:Int)=n/\a.c.ok/\oks a.l))))):=by
 obtain ⟨r,hr⟩:∃ r,r=decide ((a.l.length:Int)=n/\a.c.ok/\oks a.l):=⟨_,rfl⟩;rw [<-hr];have hw:=z6u (Γ:=Γ) a.l hl hs.2;by_cases h2:a.c.ok
 . refine CallsD.run [] Go.Proofs.Tryz.func57 rfl rfl rfl ?_;simp only [Go.Proofs.Tryz.f57];refine hgR ?_;refine ywj (fun h1 _=>?_) (fun h1 _=>?_)
   . have h1':=decide_eq_true h1;refine hg1 @h1' ?_
     first | refine wml (znq a.c (by have:=hs.1;omega) h2) ?_ | refine ysi (znq a.c (by have:=hs.1;omega) h2) ?_
     refine hg ?_
     first | refine wml hw ?_ | refine ysi hw ?_
     conv=>simp (maxSteps:=2000000) (disch:=omega) only [go_sem,Nat.reduceAdd,Nat.reduceSub,Nat.reduceMul,Int.reduceToNat,Nat.reduceEqDiff,Nat.reduceBEq,Nat.reduceBneDiff,Nat.reduceLT,Int.reduceEq,Int.reduceLT,Int.reduceLE,Int.reduceNeg,Int.reduceAdd,Int.reduceSub,Int.reduceMul,Bool.not_not]
     have e:decide (oks a.l)=r:=by rw [hr];exact decide_eq_decide.2 ⟨fun h=>⟨h1,h2,h⟩,fun h=>h.2.2⟩
     exact (by rw [show decide (¬¬oks a.l)=r by rw [<-e];exact decide_eq_decide.2 Decidable.not_not];exact .one (.refl _))
   . have h1':=decide_eq_false h1;refine hg1 @h1' ?_;exact (by rw [hr,decide_eq_false (fun h=>h1 h.1)];exact .one (.refl _))
 . rw [hr,decide_eq_false (fun h=>h2 h.2.1)];refine CallsD.run [] Go.Proofs.Tryz.func57 rfl rfl rfl ?_;simp only [Go.Proofs.Tryz.f57];refine hgR ?_;refine ywj (fun h1 _=>?_) (fun h1 _=>?_)
   . have h1':=decide_eq_true h1;refine hg1 @h1' ?_
     first | refine wml (zd1 a.c (by have:=hs.1;omega) h2) ?_ | refine ysi (zd1 a.c (by have:=hs.1;omega) h2) ?_
     refine hg ?_;exact (.one (.refl _))
   . have h1':=decide_eq_false h1;refine hg1 @h1' ?_;exact (.one (.refl _))
theorem v1n (a:Af) (n:Nat) (hl:a.l.length<=1048576) (hs:a.le 67108864) :
 CallsD Γ prog 57 [.agg a.C,.one (.raw (.int .i64 n))] (.one (.raw (.bool (decide (a.ok n))))):=by
 have:=x52 (Γ:=Γ) a n hl hs
 rwa [show decide ((a.l.length:Int)=n/\a.c.ok/\oks a.l)=decide (a.ok n) from decide_eq_decide.2 ⟨fun h=>⟨by have:=h.1;omega,h.2⟩,fun h=>⟨by have:=h.1;omega,h.2⟩⟩] at this
theorem yp0:(Fc.of 0).sz<=1:=by
 show max (dig (0:Int).natAbs).length (dig 1).length<=1;rw [show (0:Int).natAbs=0 from rfl,y89,xxw (by decide),y89];decide
theorem vrk (f:Fc) (h:f.sz<=67108864):CallsD Γ prog 73 [.agg f.C] (.agg (Af.copy f).C):=by
 have hz:=yp0;have hA:=wza (Γ:=Γ) f (Fc.of 0) h (by omega);refine CallsD.run [] Go.Proofs.Tryz.func73 rfl rfl rfl ?_;simp only [Go.Proofs.Tryz.f73];refine hgR ?_
 first | refine wml (wma 0 (by decide)) ?_ | refine ysi (wma 0 (by decide)) ?_
 refine hg ?_
 first | refine wml hA ?_ | refine ysi hA ?_
 refine hg ?_;refine hik ?_;refine hg ?_;exact (.one (.refl _))
theorem w9x (f:Fc):(Af.copy f).sz<=f.sz+2:=by
 have:=Fc.wiu f (Fc.of 0)
 have:=yp0
 unfold Af.copy;omega
theorem vjl {B:Nat}:∀(l v:List Fc) (s:Fc),(∀ f∈l,f.sz<=B)->(∀ f∈v,f.sz<=B)->(Af.sum s l v).sz<=s.sz+l.length*(2*B+1)
 | [],v,s,_,_=>by cases v<;>simp [Af.sum]
 | c::cs,[],s,_,_=>by simp [Af.sum]
 | c::cs,x::vs,s,hl,hv=>by
  have h:=vjl cs vs (Fc.add s (Fc.mul c x)) (fun f hf=>hl f (by simp [hf])) (fun f hf=>hv f (by simp [hf]));have h1:=Fc.wiu s (Fc.mul c x);have h2:=Fc.z5x c x;have h3:=hl c (by simp);have h4:=hv x (by simp);simp only [Af.sum,List.length_cons];rw [Nat.add_mul,Nat.one_mul];omega
theorem cAt (a:Af) (v:List Fc) {B:Nat} (hl:a.l.length<=1048576) (hv:v.length<=1048576) (hs:a.le B) (hsv:∀ f∈v,f.sz<=B) (hB:B+2+v.length*(2*B+1)<=67108864) :
 CallsD Γ prog 34 [.agg a.C,.one (.sl 4 (v.map Fc.C))] (.tup [.agg (a.at' v).C,.one (.raw (.bool (decide (a.ok v.length/\oks v))))]):=by
 obtain ⟨D,hD⟩:∃ D,D=2*B+1:=⟨_,rfl⟩;rw [<-hD] at hB;have hs':a.le 67108864:=⟨by have:=hs.1;omega,fun f hf=>by have:=hs.2 f hf;omega⟩
 have hsv':∀ f∈v,f.sz<=67108864:=fun f hf=>by have:=hsv f hf;omega
 have hr:=v1n (Γ:=Γ) a v.length (by omega) hs';have hw:=z6u (Γ:=Γ) v (by omega) hsv';by_cases h1:a.ok v.length
 . rw [decide_eq_true h1] at hr;by_cases h2:oks v
   . rw [decide_eq_true h2] at hw;rw [decide_eq_true ⟨h1,h2⟩,show a.at' v=Af.sum (Af.copy a.c) a.l v from if_pos ⟨h1,h2⟩];have hlen:=h1.1;refine CallsD.run [] Go.Proofs.Tryz.func34 rfl rfl rfl ?_;simp only [Go.Proofs.Tryz.f34];refine hgR ?_
     first | refine wml hr ?_ | refine ysi hr ?_
     refine hg ?_
     first | refine wml hw ?_ | refine ysi hw ?_
     refine hg ?_
     first | refine wml (vrk a.c hs'.1) ?_ | refine ysi (vrk a.c hs'.1) ?_
     refine hg ?_;have hcs:=w9x a.c;have hc1:=hs.1;refine x20 [2,4,6,24,25] (fun x:Nat×Fc=>[(26,.one (.dat (cI (x.1))))]) (fun x=>[.box (a.C.map .dat) (some 37),.box [.dat (cI 0),.dat .zc,.dat (cI 0),.dat .zc] (some 34),.box (x.2.C.map .dat) (some 34)])
      (fun x=>x.1<=v.length/\x.2.sz<=B+2+x.1*D/\Af.sum (Af.copy a.c) a.l v=Af.sum x.2 (a.l.drop x.1) (v.drop x.1)) (fun x=>v.length-x.1) (0,Af.copy a.c) ⟨Nat.zero_le _,by dsimp only;omega,rfl⟩ ?_ ?_
     . refine hg ?_;exact StH.same svl rfl
     rintro ⟨i,s⟩ ⟨hi,hss,he⟩;simp only at hi hss he;refine hg ?_;refine vt2 (fun h _=>?_) (fun h _=>?_)
     . have hi1:i<v.length:=by omega
       have hi2:i<a.l.length:=by omega
       have hb1:=zmm hs.2 hi2;have hb2:=zmm hsv hi1;rw [drop_cons Fc.zero hi2,drop_cons Fc.zero hi1] at he;have hm:=Fc.z5x (a.l.getD i Fc.zero) (v.getD i Fc.zero);have ha:=Fc.wiu s (Fc.mul (a.l.getD i Fc.zero) (v.getD i Fc.zero));have hi3:(i+1)*D<=v.length*D:=Nat.mul_le_mul_right _ (by omega);have hi4:(i+1)*D=i*D+D:=Nat.succ_mul i D;refine hg ?_
       first | refine wml (zu5 (a.l.getD i Fc.zero) (v.getD i Fc.zero) (by omega) (by omega)) ?_ | refine ysi (zu5 (a.l.getD i Fc.zero) (v.getD i Fc.zero) (by omega) (by omega)) ?_
       refine hg ?_;refine hik ?_;refine hg ?_
       first | refine wml (wza s (Fc.mul (a.l.getD i Fc.zero) (v.getD i Fc.zero)) (by omega) (by omega)) ?_ | refine ysi (wza s (Fc.mul (a.l.getD i Fc.zero) (v.getD i Fc.zero)) (by omega) (by omega)) ?_
       refine hg ?_;exact ⟨(i+1,Fc.add s (Fc.mul (a.l.getD i Fc.zero) (v.getD i Fc.zero))),⟨by dsimp only;omega,by dsimp only;omega,he⟩,by dsimp only;omega,StH.back [2,4,6,24,25,26] 0 0 3 rfl rfl rfl rfl rfl (by kernel_rfl) (StH.same svl rfl)⟩
     . have hi':i=v.length:=by omega
       rw [hi',List.drop_length] at he
       have he:Af.sum (Af.copy a.c) a.l v=s:=by rw [he];cases List.drop v.length a.l<;>rfl
       refine hg ?_;exact (by rw [he];exact .tup (.cons (.refl _) (.cons (.refl _) .nil)))
   . rw [decide_eq_false h2] at hw;rw [decide_eq_false (fun h=>h2 h.2),show a.at' v=Fc.zero from if_neg (fun h=>h2 h.2)];refine CallsD.run [] Go.Proofs.Tryz.func34 rfl rfl rfl ?_;simp only [Go.Proofs.Tryz.f34];refine hgR ?_
     first | refine wml hr ?_ | refine ysi hr ?_
     refine hg ?_
     first | refine wml hw ?_ | refine ysi hw ?_
     refine hg ?_;exact (.tup (.cons vtk (.cons (.refl _) .nil)))
 . rw [decide_eq_false h1] at hr;rw [decide_eq_false (fun h=>h1 h.1),show a.at' v=Fc.zero from if_neg (fun h=>h1 h.1)];refine CallsD.run [] Go.Proofs.Tryz.func34 rfl rfl rfl ?_;simp only [Go.Proofs.Tryz.f34];refine hgR ?_
   first | refine wml hr ?_ | refine ysi hr ?_
   refine hg ?_;exact (.tup (.cons vtk (.cons (.refl _) .nil)))
end Go.Hp.T
namespace Go.Hp
open Go Go.RowKit Go.Slot
variable {P:Program} {Γ:List (Nat×List Cell)} {e:List SB}
theorem StH.frzT {l sl:List SV} {J:List SB} {avs:List AV} {bs:List Nat} (h:zfb J l=some (avs,bs)) (hs:vug avs=some sl):StH Γ e [.tup l] J [.tup sl] (appL (frzE J bs) J):=fun E ρ a w _ hR=>by
 obtain ⟨h1,h2⟩:=hR.frz (yig h);refine ⟨ρ,h1.hd,h1.hs,fun i x hi=>?_,h1.went⟩
 cases i with
 | zero=>
  simp only [List.getElem?_cons_zero,Option.some.injEq] at hi;subst hi;obtain ⟨vs,hv,hr⟩:=h1.slot 0 (.tup l) rfl;exact ⟨vs,hv,yzo hs (zlh h1.inv h h2 hr)⟩
 | succ i=>simp at hi
theorem StH.frzA {x y:SV} {J:List SB} {av:AV} {bs:List Nat} (h:zfb J [x]=some ([av],bs)) (hs:vug [av]=some [y]) (hx:∀ l,x≠.tup l) (hy:∀ l,y≠.tup l):StH Γ e [x] J [y] (appL (frzE J bs) J):=fun E ρ a w _ hR=>by
 obtain ⟨h1,h2⟩:=hR.frz (yig h);refine ⟨ρ,h1.hd,h1.hs,fun i z hi=>?_,h1.went⟩
 cases i with
 | zero=>
  simp only [List.getElem?_cons_zero,Option.some.injEq] at hi;subst hi;have hr:=h1.slot 0 x rfl
  have hr:SRL _ ρ _ w [a.tmps.getD 0 Go.undef] [x]:=⟨by
   cases x with
   | tup l=>exact absurd rfl (hx l)
   | _=>exact hr,trivial⟩
  have h3:=(yzo (J:=appL (frzE J bs) J) (ρ:=ρ) hs (zlh h1.inv h h2 hr)).1
  cases y with
  | tup l=>exact absurd rfl (hy l)
  | _=>exact h3
 | succ i=>simp at hi
theorem StH.agg1 {l l':List HC} {J:List SB} (h:SVle (.agg l) (.agg l')):StH Γ e [.agg l] J [.agg l'] J:=StH.same (.cons h .nil) rfl
theorem StH.v0g {l sl:List SV} {J:List SB} {avs:List AV} {bs:List Nat} {I':List SV} (h:zfb J l=some (avs,bs)) (hs:vug avs=some sl) (he:(appL (frzE J bs) J).take e.length=e) (hb:([SV.tup sl].all fun x=>(wj3 x).all fun b=>Nat.blt b e.length)=true) (hσ:[SV.tup sl]=I'):StH Γ e [.tup l] J I' e:=
 StH.trans (StH.frzT h hs) (StH.vzq he hb hσ)
theorem StH.yww {x y:SV} {J:List SB} {av:AV} {bs:List Nat} {I':List SV} (h:zfb J [x]=some ([av],bs)) (hs:vug [av]=some [y]) (hx:∀ l,x≠.tup l) (hy:∀ l,y≠.tup l) (he:(appL (frzE J bs) J).take e.length=e) (hb:([y].all fun x=>(wj3 x).all fun b=>Nat.blt b e.length)=true) (hσ:[y]=I'):StH Γ e [x] J I' e:=
 StH.trans (@StH.frzA Γ e x y J av bs h hs hx hy) (StH.vzq he hb hσ)
end Go.Hp
namespace Go.Hp.T
open Go Go.RowKit Go.Slot Go.Hp
set_option maxRecDepth 10000
inductive Ex where
 | mk (op n:Int) (unit name:ByteArray) (args:List Ex)
def Ex.op:Ex->Int | .mk o _ _ _ _=>o
def Ex.n:Ex->Int | .mk _ n _ _ _=>n
def Ex.unit:Ex->ByteArray | .mk _ _ u _ _=>u
def Ex.name:Ex->ByteArray | .mk _ _ _ s _=>s
def Ex.args:Ex->List Ex | .mk _ _ _ _ l=>l
def Ex.zero:Ex:=.mk 0 0 ⟨#[]⟩ ⟨#[]⟩ []
instance:Inhabited Ex:=⟨Ex.zero⟩
theorem Ex.ind {Q:Ex->Prop} (h:∀ x:Ex,(∀ y∈x.args,Q y)->Q x):∀ x,Q x
 | .mk o n u s l=>h _ (fun y _hy=>Ex.ind h y)
termination_by x=>SizeOf.sizeOf x
decreasing_by
 have:=List.sizeOf_lt_of_mem (show y∈l from _hy)
 simp only [Ex.mk.sizeOf_spec];omega
mutual
def Ex.cells:Ex->List Cell
 | .mk o n u s l=>[cI o,cI n,cS u,cS s,.sl 5 (Ex.y0z l)]
def Ex.y0z:List Ex->List (List Cell)
 | []=>[]
 | x::l=>Ex.cells x::Ex.y0z l
end
theorem Ex.vgx:∀ l:List Ex,Ex.y0z l=l.map Ex.cells
 | []=>by rw [Ex.y0z];rfl
 | x::l=>by rw [Ex.y0z,Ex.vgx l];rfl
abbrev exC (x:Ex):List Cell:=[cI x.op,cI x.n,cS x.unit,cS x.name,.sl 5 (x.args.map Ex.cells)]
theorem Ex.wbs (x:Ex):Ex.cells x=exC x:=by
 cases x with
 | mk o n u s l=>rw [Ex.cells,Ex.vgx];rfl
theorem getD_map' {α β:Type} [Inhabited α] (f:α->β) (d:β):∀(l:List α) (i:Nat),i<l.length->(l.map f).getD i d=f (l.getD i default)
 | [],_,h=>by simp at h
 | _::_,0,_=>rfl
 | _::l,i+1,h=>by simpa using getD_map' f d l i (by simpa using h)
theorem getD_map {α β:Type} [Inhabited α] {f:α->β} {d:β} {l:List α} {i:Nat} (h:i<l.length):(l.map f).getD i d=f (l.getD i default):=getD_map' f d l i h
attribute [go_sem] getD_map Ex.wbs
theorem y7p {α:Type} [Inhabited α] {l:List α} {i:Nat} (h:i<l.length):l.getD i default∈l:=by
 have:l.getD i default=l[i]:=by simp [h]
 rw [this];exact List.getElem_mem h
theorem xfc {α:Type} [Inhabited α] {l:List α} {i:Nat} (h:i<l.length):l.drop i=l.getD i default::l.drop (i+1):=by
 have:l.getD i default=l[i]:=by simp [h]
 rw [this];exact List.drop_eq_getElem_cons h
theorem wcz {α:Type} [Inhabited α] {l:List α} {i:Nat} (h:i<l.length):l.take (i+1)=l.take i++[l.getD i default]:=by
 have:l.getD i default=l[i]:=by simp [h]
 rw [this,List.take_add_one];simp [h]
inductive Ex.Sm:Ex->Prop
 | mk (x:Ex) (hl:x.args.length<=1073741824) (hu:x.unit.size<=1073741824) (hs:x.name.size<=1073741824) (h:∀ y∈x.args,Ex.Sm y):Ex.Sm x
theorem Ex.Sm.len {x:Ex} (h:x.Sm):x.args.length<=1073741824:=by cases h;assumption
theorem Ex.Sm.u {x:Ex} (h:x.Sm):x.unit.size<=1073741824:=by cases h;assumption
theorem Ex.Sm.s {x:Ex} (h:x.Sm):x.name.size<=1073741824:=by cases h;assumption
theorem Ex.Sm.arg {x:Ex} (h:x.Sm):∀ y∈x.args,y.Sm:=by cases h;assumption
def isWord (s:ByteArray):Bool:=seq s ⟨#[110,111,116]⟩||seq s ⟨#[105,102]⟩||seq s ⟨#[116,104,101,110]⟩||seq s ⟨#[101,108,115,101]⟩||seq s ⟨#[97,110,100]⟩||seq s ⟨#[111,114]⟩||seq s ⟨#[108,111,111,107]⟩||seq s ⟨#[109,105,110]⟩||seq s ⟨#[109,97,120]⟩||seq s ⟨#[105,110,116,111]⟩||seq s ⟨#[116,111]⟩||seq s ⟨#[97,115]⟩
def isNamed (s:ByteArray):Bool:=isName s&&!isWord s
def y1g (o:Int):ByteArray:=bif decide (o=6) then ⟨#[43]⟩ else bif decide (o=7) then ⟨#[45]⟩ else bif decide (o=8) then ⟨#[42]⟩ else bif decide (o=9) then ⟨#[47]⟩ else bif decide (o=12) then ⟨#[60]⟩ else bif decide (o=13) then ⟨#[61]⟩ else bif decide (o=14) then ⟨#[97,110,100]⟩ else bif decide (o=15) then ⟨#[111,114]⟩ else ⟨#[]⟩
def isOp (o:Int):Bool:=decide (o=6)||decide (o=7)||decide (o=8)||decide (o=9)||decide (o=12)||decide (o=13)||decide (o=14)||decide (o=15)
mutual
def Ex.cnt:Ex->Int->Int->Bool×Int
 | .mk _ _ _ _ l,n,lv=>bif decide (200<n+1)||decide (20<lv) then (false,n+1) else Ex.cntL l (n+1) (lv+1)
def Ex.cntL:List Ex->Int->Int->Bool×Int
 | [],n,_=>(true,n)
 | y::l,n,lv=>match Ex.cnt y n lv with
  | (false,m)=>(false,m)
  | (true,m)=>Ex.cntL l m lv
end
theorem Ex.yn2 (x:Ex) (n lv:Int):x.cnt n lv=bif decide (200<n+1)||decide (20<lv) then (false,n+1) else Ex.cntL x.args (n+1) (lv+1):=by cases x;rw [Ex.cnt];rfl
theorem Ex.xh3:∀(x:Ex) (n lv k:Int),x.cnt n lv=(true,k)->n<k/\k<=200:=by
 have hL:∀ l:List Ex,(∀ y∈l,∀(n lv k:Int),y.cnt n lv=(true,k)->n<k/\k<=200)->∀ n lv k:Int,n<=200->Ex.cntL l n lv=(true,k)->n<=k/\k<=200:=by
  intro l
  induction l with
  | nil=>intro _ n lv k hn h;rw [Ex.cntL] at h;cases h;omega
  | cons y l ih=>
   intro hy n lv k hn h;rw [Ex.cntL] at h;split at h
   . cases h
   . rename_i m hm;have h1:=hy y (by simp) _ _ _ hm;have h2:=ih (fun z hz=>hy z (by simp [hz])) _ _ _ h1.2 h;omega
 refine Ex.ind (fun x ih n lv k h=>?_);rw [Ex.yn2] at h;by_cases h1:200<n+1
 . simp [h1] at h
 . by_cases h2:20<lv
   . simp [h2] at h
   . simp only [h1,h2,decide_false,Bool.or_self,cond_false] at h
     have:=hL x.args ih _ _ _ (by omega) h
     omega
def xes (x:Ex):Bool:=
 bif decide (x.op=0) then yn7 x.unit&&decide (0<=x.n)&&decide (x.n<=1099511627776)&&decide (x.name.size=0)&&decide ((x.args.length:Int)=0) else
 bif decide (¬x.n=0)||decide (¬x.unit.size=0) then false else
 bif decide (x.op=1) then isNamed x.name&&decide ((x.args.length:Int)=0) else
 bif decide (x.op=2) then isNamed x.name&&decide ((x.args.length:Int)=1) else
 bif decide (x.op=3) then isNamed x.name&&decide (1<=(x.args.length:Int))&&decide ((x.args.length:Int)<=6) else
 bif decide (x.op=4) then decide (x.name.size=0)&&decide ((x.args.length:Int)=1) else
 bif decide (x.op=5) then decide (x.name.size=0)&&decide ((x.args.length:Int)=3) else
 bif decide (x.op=10)||decide (x.op=11) then decide (x.name.size=0)&&decide ((x.args.length:Int)=2) else
 isOp x.op&&decide (x.name.size=0)&&decide ((x.args.length:Int)=2)
mutual
def Ex.shaped:Ex->Bool
 | .mk o n u s l=>xes (.mk o n u s l)&&Ex.zsn l
def Ex.zsn:List Ex->Bool
 | []=>true
 | y::l=>Ex.shaped y&&Ex.zsn l
end
theorem Ex.wgp:∀ l:List Ex,Ex.zsn l=l.all Ex.shaped
 | []=>by rw [Ex.zsn];rfl
 | y::l=>by rw [Ex.zsn,Ex.wgp l];rfl
theorem Ex.ypb (x:Ex):x.shaped=(xes x&&x.args.all Ex.shaped):=by cases x;rw [Ex.shaped,Ex.wgp];rfl
def zqs (x:Ex):Bool:=(x.cnt 0 1).1&&x.shaped
def idxF {α:Type} (p:α->Bool):List α->Int
 | []=>-1
 | x::l=>bif p x then 0 else bif decide (idxF p l = -1) then -1 else idxF p l+1
theorem zrk {α:Type} (p:α->Bool):∀ l:List α,-1<=idxF p l
 | []=>by unfold idxF;omega
 | x::l=>by
  have:=zrk p l
  unfold idxF
  cases p x with
  | true=>simp
  | false=>
   by_cases h:idxF p l = -1
   . simp [h]
   . simp [h];omega
theorem z9z {α:Type} (p:α->Bool):∀ l:List α,decide (0<=idxF p l)=l.any p
 | []=>rfl
 | x::l=>by
  have h2:=z9z p l;have h3:=zrk p l;unfold idxF;rw [List.any_cons,<-h2]
  cases p x with
  | true=>simp
  | false=>
   by_cases h:idxF p l = -1
   . simp [h]
   . simp [h];omega
theorem w7a {α:Type} [Inhabited α] {p:α->Bool}:∀{l:List α} {i:Nat},i<=l.length->(∀ j,j<i->p (l.getD j default)=false)->(i=l.length->idxF p l = -1)/\(i<l.length->p (l.getD i default)=true->idxF p l=i)
 | [],i,hi,_=>by simp at hi;subst hi;exact ⟨fun _=>rfl,fun h=>by simp at h⟩
 | x::l,0,_,_=>⟨fun h=>by simp at h,fun _ h=>by unfold idxF;have:p x=true:=h;rw [this];rfl⟩
 | x::l,i+1,hi,hj=>by
  have h0:p x=false:=hj 0 (by omega);obtain ⟨h1,h2⟩:=w7a (l:=l) (i:=i) (by simpa using hi) (fun j hj'=>by simpa using hj (j+1) (by omega));unfold idxF;rw [h0];refine ⟨fun h=>?_,fun h hp=>?_⟩
  . rw [h1 (by simpa using h)];rfl
  . rw [h2 (by simpa using h) (by simpa using hp)]
    have:¬((i:Int) = -1):=by omega
    simp [this]
structure Dm where
 a:Int
 b:Int
 c:Int
 d:Int
 e:Int
 f:Int
deriving DecidableEq
def Dm.zero:Dm:=⟨0,0,0,0,0,0⟩
instance:Inhabited Dm:=⟨Dm.zero⟩
abbrev dmC (x:Dm):List Cell:=[cI x.a,cI x.b,cI x.c,cI x.d,cI x.e,cI x.f]
def bad9 (n:Int):Bool:=decide (n < -9)||decide (9<n)
def ytl (x:Dm):Bool:=!bad9 x.a&&!bad9 x.b&&!bad9 x.c&&!bad9 x.d&&!bad9 x.e&&!bad9 x.f
structure Ty where
 t:Bool
 d:Dm
deriving DecidableEq
def Ty.zero:Ty:=⟨false,Dm.zero⟩
instance:Inhabited Ty:=⟨Ty.zero⟩
mutual
def Ex.wqm:Ex->Bool
 | .mk o _ _ _ l=>decide (o=3)||Ex.xym l
def Ex.xym:List Ex->Bool
 | []=>false
 | y::l=>Ex.wqm y||Ex.xym l
end
theorem Ex.wc0:∀ l:List Ex,Ex.xym l=l.any Ex.wqm
 | []=>by rw [Ex.xym];rfl
 | y::l=>by rw [Ex.xym,Ex.wc0 l];rfl
theorem Ex.xrx (x:Ex):x.wqm=(decide (x.op=3)||x.args.any Ex.wqm):=by cases x;rw [Ex.wqm,Ex.wc0];rfl
structure Rw where
 k:Int
 v:Int
instance:Inhabited Rw:=⟨⟨0,0⟩⟩
def Rw.C (x:Rw):List Cell:=[cI x.k,cI x.v]
abbrev rwC (x:Rw):List Cell:=[cI x.k,cI x.v]
theorem Rw.C_eq (x:Rw):x.C=rwC x:=rfl
structure Tb where
 name:ByteArray
 unit:ByteArray
 rows:List Rw
instance:Inhabited Tb:=⟨⟨⟨#[]⟩,⟨#[]⟩,[]⟩⟩
def Tb.C (x:Tb):List Cell:=[cS x.name,cS x.unit,.sl 2 (x.rows.map Rw.C)]
abbrev tbC (x:Tb):List Cell:=[cS x.name,cS x.unit,.sl 2 (x.rows.map Rw.C)]
theorem Tb.C_eq (x:Tb):x.C=tbC x:=rfl
structure Vr where
 name:ByteArray
 d:Dm
instance:Inhabited Vr:=⟨⟨⟨#[]⟩,Dm.zero⟩⟩
attribute [go_sem] Rw.C_eq Tb.C_eq
def inT (n:Int):Bool:=decide (-1099511627776<=n)&&decide (n<=1099511627776)
def rowAt (l:List Rw) (i:Nat):Bool:=inT (l.getD i default).k&&inT (l.getD i default).v&&!(decide (0<(i:Int))&&decide ((l.getD i default).k<=(l.getD (i-1) default).k))
def wzj (l:List Rw):Bool:=(List.range l.length).all (rowAt l)
theorem y45 {p:Nat->Bool} {n:Nat}:(∀ j,j<n->p j=true)->(List.range n).all p=true:=fun h=>by
 rw [List.all_eq_true];exact fun x hx=>h x (List.mem_range.1 hx)
theorem v76 {p:Nat->Bool} {n j:Nat} (hj:j<n) (h:p j=false):(List.range n).all p=false:=by
 cases ha:(List.range n).all p with
 | false=>rfl
 | true=>rw [List.all_eq_true.1 ha j (List.mem_range.2 hj)] at h;cases h
def vgr (uerr:ByteArray->Int) (t:Tb):Bool:=!decide (¬uerr t.unit=0)&&isName t.name&&!decide (100<(t.rows.length:Int))&&wzj t.rows
theorem xm4 {p:Nat->Prop} {i:Nat} (h:∀ j,j<i->p j) (hi:p i):∀ j,j<i+1->p j:=fun j hj=>by
 rcases Nat.lt_or_eq_of_le (Nat.le_of_lt_succ hj) with h2 | h2
 . exact h j h2
 . rw [h2];exact hi
end Go.Hp.T
namespace Go.Hp
open Go Go.RowKit Go.Slot
variable {P:Program} {Γ:List (Nat×List Cell)}
theorem yjm {n N i:Nat} (h:i<n):atR (List.range n) N i=i:=zj8 (by simp [h])
theorem xpp.pre {f:FuncId} {ηs ξ:List SB} {args:List SV} {res:SV} (h:xpp Γ P f ηs args ηs res) (hs:∀ r,ηs.map (rnSB r)=ηs) (ha:args.map (v3y (atR (List.range ηs.length) (ηs++ξ).length))=args) (hr:rnSV (atR (List.range ηs.length) (ηs++ξ).length) res=res):xpp Γ P f (ηs++ξ) args (ηs++ξ) res:=by
 have hfix:∀(r:Nat->Nat) (i:Nat) (x:SB),ηs[i]? = some x->rnSB r x=x:=fun r i x hx=>by
  have:=congrArg (fun l=>l[i]?) (hs r)
  simp only [List.getElem?_map,hx,Option.map_some] at this;exact Option.some.inj this
 have hlt:∀ j∈List.range ηs.length,j<(ηs++ξ).length:=fun j hj=>by
  rw [List.mem_range] at hj;rw [List.length_append];omega
 have hk:=xpp.frame (φ:=List.range ηs.length) (J:=ηs++ξ) List.nodup_range hlt ⟨by simp,fun i x hx=>by
  have hi:i<ηs.length:=(List.getElem?_eq_some_iff.1 hx).1
  exact ⟨i,by simp [hi],by rw [hfix _ i x hx,List.getElem?_append_left hi];exact hx⟩⟩ (by simp) h
 rw [ha,hr] at hk
 have hp:putR (List.range ηs.length) (ηs++ξ) ηs=ηs++ξ:=by
  apply List.ext_getElem?;intro i;by_cases hi:i<ηs.length
  . have h1:=xje (φ:=List.range ηs.length) (J:=ηs++ξ) (ηs':=ηs) List.nodup_range hlt (List.getElem?_eq_getElem hi);rw [yjm hi,hfix _ i _ (List.getElem?_eq_getElem hi)] at h1;rw [h1,List.getElem?_append_left hi,List.getElem?_eq_getElem hi]
  . by_cases hi2:i<(ηs++ξ).length
    . exact zn3 hi2 (by simpa using hi)
    . rw [List.getElem?_eq_none (by rw [wb2];simp at hi2 ⊢;omega),List.getElem?_eq_none (by omega)]
 rw [hp] at hk;exact hk
end Go.Hp
namespace Go.Hp.T
open Go Go.RowKit Go.Slot Go.Hp
theorem zd3 {x:Ex} (h:xes x=true) (h3:x.op≠3) (h0:x.args.length≠0):(x.op≠2->x.op≠4->2<=x.args.length)/\(x.op=5->3<=x.args.length):=by
 unfold xes at h;by_cases a0:x.op=0
 . rw [decide_eq_true a0,cond_true] at h;simp only [Bool.and_eq_true,decide_eq_true_eq] at h;omega
 rw [decide_eq_false a0,cond_false] at h
 cases hb:(decide (¬x.n=0)||decide (¬x.unit.size=0)) with
 | true=>rw [hb,cond_true] at h;cases h
 | false=>
 rw [hb,cond_false] at h;by_cases a1:x.op=1
 . rw [decide_eq_true a1,cond_true] at h;simp only [Bool.and_eq_true,decide_eq_true_eq] at h;omega
 rw [decide_eq_false a1,cond_false] at h;by_cases a2:x.op=2
 . rw [decide_eq_true a2,cond_true] at h;simp only [Bool.and_eq_true,decide_eq_true_eq] at h;omega
 rw [decide_eq_false a2,cond_false] at h;by_cases a3:x.op=3
 . rw [decide_eq_true a3,cond_true] at h;simp only [Bool.and_eq_true,decide_eq_true_eq] at h;omega
 rw [decide_eq_false a3,cond_false] at h;by_cases a4:x.op=4
 . rw [decide_eq_true a4,cond_true] at h;simp only [Bool.and_eq_true,decide_eq_true_eq] at h;omega
 rw [decide_eq_false a4,cond_false] at h;by_cases a5:x.op=5
 . rw [decide_eq_true a5,cond_true] at h;simp only [Bool.and_eq_true,decide_eq_true_eq] at h;omega
 rw [decide_eq_false a5,cond_false] at h
 cases hc:(decide (x.op=10)||decide (x.op=11)) with
 | true=>rw [hc,cond_true] at h;simp only [Bool.and_eq_true,decide_eq_true_eq] at h;omega
 | false=>rw [hc,cond_false] at h;simp only [Bool.and_eq_true,decide_eq_true_eq] at h;omega
end Go.Hp.T
namespace Go.Hp.T
open Go Go.RowKit Go.Slot Go.Hp Go.Slot.T
open Go.Proofs.Tryz (prog)
attribute [local irreducible] hide RH
set_option maxRecDepth 10000
set_option maxHeartbeats 8000000
variable {Γ:List (Nat×List Cell)}
def FF (B:Nat) (op:Fc->Fc->Fc) (e:Fc->Fc->Int) (args:List AV) (res:AV):Prop:=
 ∃ x y:Fc,x.sz<=B/\y.sz<=B/\args=[.agg x.C,.agg y.C]/\res=.tup [.agg (op x y).C,.one (.raw (.int .i64 (e x y)))]
theorem xr0 {M:Nat->Nat->Prop} {w:World} {v:Value} {f:FuncId} {F:List AV->AV->Prop} (hc:yss prog f) (hF:∀ args res,F args res->CallsD Γ prog f args res) (h:RdC M w v (.raw (.func (.func f) #[] #[]))):RdC M w v (.fnp (zw4 Γ prog F)):=by
 have e:=RdC.x18 h;subst e;exact RdC.fnp rfl (fun M' w' hk=>⟨f,#[],rfl,hc,fun args res vs hres hb hgl hrd=>by simpa using (hF args res hres).2 M' w' vs hb hgl hrd⟩)
theorem CallsD.fn2 {f g:FuncId} {F:List AV->AV->Prop} {a b res:AV} (h:CallsD Γ prog f [a,b,.one (.fnp (zw4 Γ prog F))] res) (hc:yss prog g) (hF:∀ args res,F args res->CallsD Γ prog g args res) :
 CallsD Γ prog f [a,b,.one (.raw (.func (.func g) #[] #[]))] res:=
 ⟨h.1,fun M w vs hM hgl hr=>h.2 M w vs hM hgl (by
  match vs,hr with
  | [u,v,x],hr=>exact ⟨hr.1,hr.2.1,xr0 hc hF hr.2.2.1,trivial⟩)⟩
theorem vnp {op:Fc->Fc->Fc} {l m:List Fc} {i:Nat} (h1:i<l.length) (h2:i<m.length) :
 (List.zipWith op (l.take i) (m.take i)).map Fc.C++[(op (l.getD i Fc.zero) (m.getD i Fc.zero)).C]=(List.zipWith op (l.take (i+1)) (m.take (i+1))).map Fc.C:=by
 have e1:l.take (i+1)=l.take i++[l.getD i Fc.zero]:=by rw [List.take_add_one];simp [h1]
 have e2:m.take (i+1)=m.take i++[m.getD i Fc.zero]:=by rw [List.take_add_one];simp [h2]
 rw [e1,e2,List.zipWith_append (by simp;omega)];simp
def eaB (op:Fc->Fc->Fc) (a b:Af):Nat->List SB
 | 0=>[.box (a.C.map .dat) (some 37),.box (b.C.map .dat) (some 37),.box [.dat (cI 0),.dat .zc,.dat (cI 0),.dat .zc,.dat .zc] (some 37),.box [.dat (.raw (.int .i64 (op a.c b.c).s)),.dat (.ints .i64 (op a.c b.c).L),.dat (.raw (.int .i64 (op a.c b.c).t)),.dat (.ints .i64 (op a.c b.c).M),.dat .zc] (some 37)]
 | n+1=>[.box (a.C.map .dat) (some 37),.box (b.C.map .dat) (some 37),.box [.dat (cI 0),.dat .zc,.dat (cI 0),.dat .zc,.dat .zc] (some 37),.box [.dat (.raw (.int .i64 (op a.c b.c).s)),.dat (.ints .i64 (op a.c b.c).L),.dat (.raw (.int .i64 (op a.c b.c).t)),.dat (.ints .i64 (op a.c b.c).M),.sl 4 4 0 (n+1)] (some 37),.arr (.sl 4 ((List.zipWith op (a.l.take (n+1)) (b.l.take (n+1))).map Fc.C)) 0 (some 34)]
theorem ylz (B:Nat) (op:Fc->Fc->Fc) (e:Fc->Fc->Int) (a b:Af) (hl:a.l.length<=b.l.length) (hb:a.l.length<=1048576) (ha:a.le B) (hbb:b.le B) :
 CallsD Γ prog 108 [.agg a.C,.agg b.C,.one (.fnp (zw4 Γ prog (FF B op e)))] (.agg (Af.each op a b).C):=by
 have body:∀ i,i<a.l.length->FF B op e [.agg (a.l.getD i Fc.zero).C,.agg (b.l.getD i Fc.zero).C] (.tup [.agg (op (a.l.getD i Fc.zero) (b.l.getD i Fc.zero)).C,.one (.raw (.int .i64 (e (a.l.getD i Fc.zero) (b.l.getD i Fc.zero))))]):=fun i h=>
  ⟨_,_,zmm ha.2 h,zmm hbb.2 (by omega),rfl,rfl⟩
 have fin:List.zipWith op (a.l.take a.l.length) (b.l.take a.l.length)=List.zipWith op a.l b.l:=by
  rw [List.take_length]
  conv=>rhs;rw [List.zipWith_eq_zipWith_take_min]
  rw [Nat.min_eq_left hl,List.take_length]
 refine CallsD.run [] Go.Proofs.Tryz.func108 rfl rfl rfl ?_;simp only [Go.Proofs.Tryz.f108];refine hgR ?_;refine hfn (F:=FF B op e) ⟨a.c,b.c,ha.1,hbb.1,rfl,rfl⟩ ?_;refine hg ?_
 repeat' ((first | refine hfk ?_ ?_<;>intros | refine hik ?_)<;>refine hgS ?_)
 refine x20 [2,3,4,6,7,23,24] (fun i:Nat=>[(25,.one (.dat (cI (i))))]) (eaB op a b)
  (fun i=>i<=a.l.length) (fun i=>a.l.length-i) 0 (Nat.zero_le _) ?_ ?_
 . refine hg ?_;exact StH.same svl rfl
 intro i hi
 rcases i with _ | i
 . simp only [eaB];refine hg ?_;refine vt2 (fun h _=>?_) (fun h _=>?_)
   . have hsn:=vnp (op:=op) (l:=a.l) (m:=b.l) (i:=0) (by omega) (by omega);simp only [List.take_zero,List.zipWith_nil_left,List.map_nil,List.nil_append] at hsn;refine hg ?_;refine hfn (F:=FF B op e) (body 0 (by omega)) ?_;refine hg ?_
     repeat' ((first | refine hfk ?_ ?_<;>intros | refine hik ?_)<;>refine hgS ?_)
     refine ⟨1,by omega,by omega,?_⟩;simp only;rw [<-hsn];exact StH.back [2,3,4,6,7,23,24,25] 4 6 5 rfl rfl rfl rfl rfl (by kernel_rfl) (StH.same svl rfl)
   . have h0:a.l=[]:=List.eq_nil_of_length_eq_zero (by omega);refine hg ?_;unfold Af.each;rw [h0];exact .one (.agg (.cons (.refl _) (.cons (.refl _) (.cons (.refl _) (.cons (.refl _) (.cons (.zcSl _) .nil))))))
 . simp only [eaB]
   have hz:(List.zipWith op (a.l.take (i+1)) (b.l.take (i+1))).length=i+1:=by simp;omega
   refine hg1 @hz ?_;refine vt2 (fun h _=>?_) (fun h _=>?_)
   . have hsn:=vnp (op:=op) (l:=a.l) (m:=b.l) (i:=i+1) (by omega) (by omega);refine hg1 @hz ?_;refine hfn (F:=FF B op e) (body (i+1) (by omega)) ?_;refine hg1 @hz ?_
     repeat' ((first | refine hfk ?_ ?_<;>intros | refine hik ?_)<;>refine hgS ?_)
     refine ⟨i+1+1,by omega,by omega,?_⟩;simp only;rw [<-hsn];refine StH.back [2,3,4,6,7,23,24,25] 4 7 5 rfl rfl rfl rfl rfl (by kernel_rfl) (StH.same svl ?_);simp only [List.length_append,List.length_map,List.length_singleton,hz];rfl
   . have e1:i+1=a.l.length:=by omega
     refine hg1 @hz ?_;unfold Af.each;rw [<-fin,e1];exact RLe.ofEq rfl
theorem z8v:AV.Le (.agg [.raw (.int .i64 0),.zc,.raw (.int .i64 0),.zc,.zc]) (.agg Af.zero.C):=
 .agg (.cons (.refl _) (.cons (.zud _) (.cons (.refl _) (.cons (.zud _) (.cons (.zcSl _) .nil)))))
abbrev frB (f:Fc):SB:=.box (f.C.map .dat) (some 34)
theorem xyo (x y f:Fc) (hx:x.sz<=67108864) (hf:f.sz<=67108864) :
 xpp Γ prog 147 [frB f] [.agg (x.C.map .dat),.agg (y.C.map .dat),.one (.ptr 0 0)] [frB f] (.tup [.agg ((Fc.mul x f).C.map .dat),.one (.dat (.raw (.int .i64 (Fc.er (x.ok/\f.ok)))))]):=by
 have h:=zu5 (Γ:=Γ) x f hx hf;generalize Fc.mul x f=m at h ⊢;simp only [Fc.C_eq] at h;refine xpp.run [] Go.Proofs.Tryz.func147 rfl rfl ?_;simp only [Go.Proofs.Tryz.f147];refine hgR ?_
 repeat' ((first | refine hfk ?_ ?_<;>intros | refine hik ?_ | with_reducible first | refine wml (h) ?_ | refine ysi (h) ?_)<;>refine hgS ?_)
 exact StH.vzq rfl (by kernel_rfl) rfl
def etB (a:Af) (f:Fc):Nat->List SB
 | 0=>[frB f,.clo 147 [.one (.ptr 0 0)],.box (a.C.map .dat) (some 37),.box (a.C.map .dat) (some 37),.box [.dat (cI 0),.dat .zc,.dat (cI 0),.dat .zc,.dat .zc] (some 37),.box [.dat (.raw (.int .i64 (Fc.mul a.c f).s)),.dat (.ints .i64 (Fc.mul a.c f).L),.dat (.raw (.int .i64 (Fc.mul a.c f).t)),.dat (.ints .i64 (Fc.mul a.c f).M),.dat .zc] (some 37)]
 | n+1=>[frB f,.clo 147 [.one (.ptr 0 0)],.box (a.C.map .dat) (some 37),.box (a.C.map .dat) (some 37),.box [.dat (cI 0),.dat .zc,.dat (cI 0),.dat .zc,.dat .zc] (some 37),.box [.dat (.raw (.int .i64 (Fc.mul a.c f).s)),.dat (.ints .i64 (Fc.mul a.c f).L),.dat (.raw (.int .i64 (Fc.mul a.c f).t)),.dat (.ints .i64 (Fc.mul a.c f).M),.sl 6 4 0 (n+1)] (some 37),.arr (.sl 4 (((a.l.take (n+1)).map fun x=>Fc.mul x f).map Fc.C)) 0 (some 34)]
theorem wv1 (a:Af) (f:Fc):Af.each (fun x _=>Fc.mul x f) a a=⟨Fc.mul a.c f,a.l.map fun x=>Fc.mul x f⟩:=by
 unfold Af.each
 congr 1
 generalize a.l=l
 induction l with
 | nil=>rfl
 | cons x l ih=>rw [List.zipWith_cons_cons,List.map_cons,ih]
theorem v7o (a:Af) (f:Fc) (hb:a.l.length<=1048576) (ha:a.le 67108864) (hf:f.sz<=67108864) :
 xpp Γ prog 108 [frB f,.clo 147 [.one (.ptr 0 0)]] [.agg (a.C.map .dat),.agg (a.C.map .dat),.one (.fnr 1)] [frB f,.clo 147 [.one (.ptr 0 0)]] (.agg ((Af.each (fun x _=>Fc.mul x f) a a).C.map .dat)):=by
 have hfx:∀ r:Nat->Nat,[frB f].map (rnSB r)=[frB f]:=fun r=>rfl
 have h0:=xyo (Γ:=Γ) a.c a.c f ha.1 hf
 have body:∀ i,i<a.l.length->xpp Γ prog 147 [frB f] [.agg ((a.l.getD i Fc.zero).C.map .dat),.agg ((a.l.getD i Fc.zero).C.map .dat),.one (.ptr 0 0)] [frB f] (.tup [.agg ((Fc.mul (a.l.getD i Fc.zero) f).C.map .dat),.one (.dat (.raw (.int .i64 (Fc.er ((a.l.getD i Fc.zero).ok/\f.ok)))))]):=fun i h=>
  xyo _ _ f (zmm ha.2 h) hf
 rw [wv1];refine xpp.run [] Go.Proofs.Tryz.func108 rfl rfl ?_;simp only [Go.Proofs.Tryz.f108];refine hgR ?_
 repeat' ((first | refine hfk ?_ ?_<;>intros | refine hik ?_)<;>refine hgS ?_)
 refine x6x (xpp.pre h0 hfx rfl rfl) ?_;refine hg ?_
 repeat' ((first | refine hfk ?_ ?_<;>intros | refine hik ?_)<;>refine hgS ?_)
 refine x20 [2,3,4,6,7,23,24] (fun i:Nat=>[(25,.one (.dat (cI (i))))]) (etB a f)
  (fun i=>i<=a.l.length) (fun i=>a.l.length-i) 0 (Nat.zero_le _) ?_ ?_
 . refine hg ?_;exact StH.same svl rfl
 intro i hi
 rcases i with _ | i
 . simp only [etB];refine hg ?_;refine vt2 (fun h _=>?_) (fun h _=>?_)
   . have hsn:[(Fc.mul (a.l.getD 0 Fc.zero) f).C]=((a.l.take (0+1)).map fun x=>Fc.mul x f).map Fc.C:=by
      rw [List.take_add_one];simp [show 0<a.l.length by omega]
     have b0:=body 0 (by omega);clear body;refine hg ?_
     repeat' ((first | refine hfk ?_ ?_<;>intros | refine hik ?_)<;>refine hgS ?_)
     refine xhw 2 (fun ξ=>xpp.pre (ξ:=SB.clo 147 [.one (.ptr 0 0)]::ξ) b0 hfx rfl rfl) rfl rfl ?_;refine hg ?_
     repeat' ((first | refine hfk ?_ ?_<;>intros | refine hik ?_)<;>refine hgS ?_)
     refine ⟨1,by omega,by omega,?_⟩;simp only;rw [<-hsn];exact StH.z04 [2,3,4,6,7,23,24,25] 6 8 7 rfl rfl rfl rfl rfl rfl rfl (by kernel_rfl) (StH.same svl rfl)
   . have h0:a.l=[]:=List.eq_nil_of_length_eq_zero (by omega);refine hg ?_;rw [h0];exact StH.trans (StH.vzq rfl (by kernel_rfl) rfl) (StH.agg1 (.agg (.cons (.refl _) (.cons (.refl _) (.cons (.refl _) (.cons (.refl _) (.cons (.dat (.zcSl _)) .nil)))))))
 . simp only [etB]
   have hz:(a.l.take (i+1)).length=i+1:=by simp;omega
   refine hg1 @hz ?_;refine vt2 (fun h _=>?_) (fun h _=>?_)
   . have hsn:((a.l.take (i+1)).map fun x=>Fc.mul x f).map Fc.C++[(Fc.mul (a.l.getD (i+1) Fc.zero) f).C]=((a.l.take (i+1+1)).map fun x=>Fc.mul x f).map Fc.C:=by
      rw [show a.l.take (i+1+1)=a.l.take (i+1)++[a.l.getD (i+1) Fc.zero] by rw [List.take_add_one (i:=i+1)];simp [show i+1<a.l.length by omega],List.map_append,List.map_append];rfl
     have b0:=body (i+1) (by omega);clear body;refine hg1 @hz ?_
     repeat' ((first | refine hfk ?_ ?_<;>intros | refine hik ?_)<;>refine hgS ?_)
     refine xhw 2 (fun ξ=>xpp.pre (ξ:=SB.clo 147 [.one (.ptr 0 0)]::ξ) b0 hfx rfl rfl) rfl rfl ?_;refine hg1 @hz ?_
     repeat' ((first | refine hfk ?_ ?_<;>intros | refine hik ?_)<;>refine hgS ?_)
     refine ⟨i+1+1,by omega,by omega,?_⟩;simp only;rw [<-hsn];refine StH.z04 [2,3,4,6,7,23,24,25] 6 9 7 rfl rfl rfl rfl rfl rfl rfl (by kernel_rfl) (StH.same svl ?_);simp only [List.length_append,List.length_map,List.length_singleton,hz];rfl
   . have e1:i+1=a.l.length:=by omega
     have e2:a.l.take (i+1)=a.l:=by rw [e1,List.take_length]
     refine hg1 @hz ?_;rw [e2];refine StH.yww (av:=.agg (Af.C ⟨Fc.mul a.c f,a.l.map fun x=>Fc.mul x f⟩)) (bs:=[6]) ?_ rfl (fun l h=>by cases h) (fun l h=>by cases h) rfl rfl rfl;simp [zfb,argD,w8n,zyf,gB,Cell.esz,Cell.cnt,subC,e1];rw [Af.C_eq,List.map_map]
theorem zy8 (a:Af) (f:Fc) (la:a.l.length<=1048576) (ha:a.le 67108864) (hf:f.sz<=67108864) :
 CallsD Γ prog 107 [.agg a.C,.agg f.C] (.tup [.agg (Af.times a f).C,.one (.raw (.int .i64 (Fc.er (a.ok a.l.length/\f.ok))))]):=by
 have hra:=v1n (Γ:=Γ) a a.l.length la ha;have hw:=xam (Γ:=Γ) f hf;simp only [Af.C_eq] at hra;simp only [Fc.C_eq] at hw;by_cases h1:a.ok a.l.length
 . rw [decide_eq_true h1] at hra;by_cases h2:f.ok
   . rw [decide_eq_true h2] at hw;rw [Fc.wop ⟨h1,h2⟩,show Af.times a f=Af.each (fun x _=>Fc.mul x f) a a from if_pos ⟨h1,h2⟩];have hE:=v7o (Γ:=Γ) a f la ha hf;generalize Af.each (fun x _=>Fc.mul x f) a a=R at hE ⊢;have hE:xpp Γ prog 108 [.box [.dat (.raw (.int .i64 f.s)),.dat (.ints .i64 f.L),.dat (.raw (.int .i64 f.t)),.dat (.ints .i64 f.M)] (some 34),.clo 147 [.one (.ptr 0 0)]] _ _ _:=hE;refine CallsD.run [(3,[.clo])] Go.Proofs.Tryz.func107 rfl rfl rfl ?_;simp only [Go.Proofs.Tryz.f107];refine hgR ?_
     repeat' ((first | refine hfk ?_ ?_<;>intros | refine hik ?_ | with_reducible first | refine wml (hra) ?_ | refine ysi (hra) ?_ | refine wml (hw) ?_ | refine ysi (hw) ?_)<;>refine hgS ?_)
     refine vvn [1,3] hE rfl (by decide) rfl rfl rfl ?_;refine hg ?_
     repeat' ((first | refine hfk ?_ ?_<;>intros | refine hik ?_)<;>refine hgS ?_)
     exact RLe.ofEq rfl
   . rw [decide_eq_false h2] at hw;rw [Fc.w7p (fun h=>h2 h.2),show Af.times a f=Af.zero from if_neg (fun h=>h2 h.2)];refine CallsD.run [] Go.Proofs.Tryz.func107 rfl rfl rfl ?_;simp only [Go.Proofs.Tryz.f107];refine hgR ?_
     repeat' ((first | refine hfk ?_ ?_<;>intros | refine hik ?_ | with_reducible first | refine wml (hra) ?_ | refine ysi (hra) ?_ | refine wml (hw) ?_ | refine ysi (hw) ?_)<;>refine hgS ?_)
     exact (.tup (.cons z8v (.cons (.refl _) .nil)))
 . rw [decide_eq_false h1] at hra;rw [Fc.w7p (fun h=>h1 h.1),show Af.times a f=Af.zero from if_neg (fun h=>h1 h.1)];refine CallsD.run [] Go.Proofs.Tryz.func107 rfl rfl rfl ?_;simp only [Go.Proofs.Tryz.f107];refine hgR ?_
   repeat' ((first | refine hfk ?_ ?_<;>intros | refine hik ?_ | with_reducible first | refine wml (hra) ?_ | refine ysi (hra) ?_)<;>refine hgS ?_)
   exact (.tup (.cons z8v (.cons (.refl _) .nil)))
end Go.Hp.T
namespace Go.Slot
open Go Go.RowKit Go.Slot.T
def okS (l:List Sc):Prop:=∀ s∈l,s.ok
instance (l:List Sc):Decidable (okS l):=inferInstanceAs (Decidable (∀ s∈l,s.ok))
theorem vff {f:Sc} {l:List Sc}:okS (f::l)↔f.ok/\okS l:=⟨fun h=>⟨h f (by simp),fun g hg=>h g (by simp [hg])⟩,fun h g hg=>by
 rcases List.mem_cons.1 hg with rfl | hg
 . exact h.1
 . exact h.2 g hg⟩
theorem w5r:∀(l:List Sc),(l.any fun f=>!decide f.ok) = !decide (okS l)
 | []=>by simp [okS]
 | f::l=>by
  rw [List.any_cons,w5r l,decide_eq_decide.2 vff,Bool.decide_and,Bool.not_and]
namespace Bk
def ok (f:Af) (l:List Sc):Prop:=f.ok l.length/\okS l
instance (f:Af) (l:List Sc):Decidable (ok f l):=inferInstanceAs (Decidable (_/\_))
def lo (c:Fc) (s:Sc):Fc:=if Fc.sign c<0 then Af.copy s.high else Af.copy s.low
def hi (c:Fc) (s:Sc):Fc:=if Fc.sign c<0 then Af.copy s.low else Af.copy s.high
def lows (f:Af) (l:List Sc):List Fc:=List.zipWith lo f.l l
def vwi (f:Af) (l:List Sc):List Fc:=List.zipWith hi f.l l
def bounds (f:Af) (l:List Sc):Sc:=if ok f l then ⟨f.at' (lows f l),f.at' (vwi f l)⟩ else Sc.zero
def v41 (c:Fc) (s:Sc):Fc:=Fc.maxf (Fc.mul c (Sc.width s)) (Fc.neg (Fc.mul c (Sc.width s)))
def nar:Nat->Int×Fc->List Fc->List Sc->Int×Fc
 | i,st,c::cs,s::ss=>nar (i+1) (if Fc.cmp (v41 c s) st.2 > 0 then ((i:Int),v41 c s) else st) cs ss
 | _,st,_,_=>st
def narrow (f:Af) (l:List Sc):Int×Fc×Int:=if ok f l then (if l.length=0 then (0,Fc.zero,4) else ((nar 0 (0,Fc.of 0) f.l l).1,(nar 0 (0,Fc.of 0) f.l l).2,0)) else (0,Fc.zero,1)
def flo:Fc->List Fc->List Fc->List Sc->Option Fc
 | s,u::d::ms,c::cs,p::ps=>if Fc.sub u d=c then flo (Fc.add s (Fc.sub (Fc.mul u p.low) (Fc.mul d p.high))) ms cs ps else none
 | s,_,_,_=>some s
def okM (l:List Fc):Prop:=∀ m∈l,m.ok/\0<=Fc.sign m
instance (l:List Fc):Decidable (okM l):=inferInstanceAs (Decidable (∀ m∈l,_/\_))
def verdict (v:Fc):Option Fc->Bool
 | some s=>decide (0<=Fc.cmp s v)
 | none=>false
def floor (f:Af) (l:List Sc) (v:Fc) (ms:List Fc):Bool:=if ok f l/\v.ok/\ms.length=2*l.length/\okM ms then verdict v (flo f.c ms f.l l) else false
theorem xbg {f:Fc} {l:List Fc}:okM (f::l)↔(f.ok/\0<=Fc.sign f)/\okM l:=⟨fun h=>⟨h f (by simp),fun g hg=>h g (by simp [hg])⟩,fun h g hg=>by
 rcases List.mem_cons.1 hg with rfl | hg
 . exact h.1
 . exact h.2 g hg⟩
theorem zsp:∀(l:List Fc),(l.any fun f=>!decide (f.ok/\0<=Fc.sign f)) = !decide (okM l)
 | []=>by simp [okM]
 | f::l=>by
  rw [List.any_cons,zsp l,decide_eq_decide.2 xbg,Bool.decide_and (f.ok/\0<=Fc.sign f),Bool.not_and]
end Bk
theorem x4e {α:Type} {l:List α} {i:Nat} (d:α) (h:i<l.length):l.take (i+1)=l.take i++[l.getD i d]:=by
 rw [List.take_add_one];simp [h]
theorem v2g {α β:Type} {op:α->β->Fc} {l:List α} {m:List β} {i:Nat} (a:α) (b:β) (h1:i<l.length) (h2:i<m.length) :
 (List.zipWith op (l.take i) (m.take i)).map Fc.C++[(op (l.getD i a) (m.getD i b)).C]=(List.zipWith op (l.take (i+1)) (m.take (i+1))).map Fc.C:=by
 rw [x4e a h1,x4e b h2,List.zipWith_append (by simp;omega)];simp
end Go.Slot
