/- The proof, part Z27: 5c, 5d, 6a, 6b, Iy, 6c. -/
import Derived.Test.YtkbkjjahlafhoaaGreatDoorZ15
import Derived.Test.YtkbkjjahlafhoaaGreatDoorZ26
import Derived.Test.YtkbkjjahlafhoaaGreatDoorZ12
import Derived.Test.YtkbkjjahlafhoaaGreatDoorZ20
namespace Go.Hp.T
open Go Go.RowKit Go.Slot Go.Hp Go.Slot.T
open Go.Proofs.Tryz
attribute [local irreducible] hide RH
set_option maxRecDepth 10000
set_option maxHeartbeats 8000000
variable {Γ:List (Nat×List Cell)}
def impU (x:Imp):Us:=(x.name,zf8 x.unit,amtS x.amount&&(decide (0<=x.house)&&(decide (x.house<400)&&(decide (0<=x.version)&&(decide (x.version<=2000)&&z6s x.port)))))
def inpU (x:Inp):Us:=(x.name,zf8 x.unit,seq x.kind ⟨#[]⟩||z6s x.kind)
def porU (x:Por):Us:=(x.name,zf8 x.unit,amtS x.amount)
def stoU (x:Sto):Us:=(x.name,zf8 x.unit,decide (0<=x.rule)&&decide (x.rule<3))
def tabU (x:Tb):Us:=(x.name,true,zjr (fun s=>(xe6 s).2) x)
def fncU (x:Fnc):Us:=(x.name,!x.params.any (fun p=>!z6s p.name||!zf8 p.unit),decide (1<=(x.params.length:Int))&&(decide ((x.params.length:Int)<=6)&&wck x.body))
def celU (x:Cel):Us:=(x.name,zf8 x.unit,wck x.x)
def vzt {α:Type} (U:α->Us) (l:List α) (c:Scu):Scu:=l.foldl (fun c x=>useM c (U x)) c
theorem vf9 {α:Type} [Inhabited α] {U:α->Us} {l:List α} {c:Scu} {i:Nat} (h:i<l.length):vzt U (l.take (i+1)) c=useM (vzt U (l.take i) c) (U (l.getD i default)):=by
 unfold vzt;rw [List.take_succ_eq_append_getElem h,List.foldl_append,List.getD_eq_getElem?_getD,List.getElem?_eq_getElem h];rfl
theorem yjk {α:Type} {U:α->Us} {l:List α} {c:Scu} {i:Nat} (h:l.length<=i):vzt U (l.take i) c=vzt U l c:=by rw [List.take_of_length_le h]
def xll (s:Sht) (c:Scu):Scu:=vzt stoU s.stores (vzt porU s.ports (vzt inpU s.inputs (vzt impU s.imports c)))
def y1t (s:Sht) (c:Scu):Scu:=vzt celU s.cells (vzt fncU s.funcs (vzt tabU s.tables c))
structure Sht.Sm (s:Sht):Prop where
 nm:s.name.size<=1073741824
 il:s.imports.length<=1073741824
 nl:s.inputs.length<=1073741824
 tl:s.tables.length<=1073741824
 fl:s.funcs.length<=1073741824
 cl:s.cells.length<=1073741824
 pl:s.ports.length<=1073741824
 sl:s.stores.length<=1073741824
 rl:s.recipes.length<=1073741824
 i:∀ x∈s.imports,x.name.size<=1073741824/\x.unit.size<=1073741824/\x.port.size<=1073741824
 n:∀ x∈s.inputs,x.name.size<=1073741824/\x.unit.size<=1073741824/\x.kind.size<=1073741824
 t:∀ x∈s.tables,x.Sm
 f:∀ x∈s.funcs,x.name.size<=1073741824/\x.params.length<=1073741824/\(∀ y∈x.params,y.name.size<=1073741824/\y.unit.size<=1073741824)/\x.body.Sm
 c:∀ x∈s.cells,x.name.size<=1073741824/\x.unit.size<=1073741824/\x.x.Sm
 p:∀ x∈s.ports,x.name.size<=1073741824/\x.unit.size<=1073741824
 o:∀ x∈s.stores,x.name.size<=1073741824/\x.unit.size<=1073741824
 r:∀ x∈s.recipes,x.kind.size<=1073741824/\x.steps.length<=1073741824/\∀ y∈x.steps,y.Sm
theorem x40 (c:Scu) (l:List SB):[0,1].map (fun j=>(scBs c++l)[j]?)=(scBs c).map (fun x=>some (rnSB (atR [0,1] (scBs c++l).length) x)):=by
 show [some (scB c.1),some (mU c.2)]=[some (rnSB _ (scB c.1)),some (rnSB _ (mU c.2))];rw [xf9];rfl
theorem vqm (c d:Scu) (l:List SB):putR [0,1] (scBs c++l) (scBs d)=appL [(0,scB d.1),(1,mU d.2)] (scBs c++l):=by
 unfold putR;show appL [(0,rnSB _ (scB d.1)),(1,rnSB _ (mU d.2))] _++[]=_;rw [xf9,List.append_nil];rfl
theorem wij (s:Sht) (hs:s.Sm) (c:Scu):z00 Γ prog 52 (scBs c) [.one (.ptr 0 0),.agg ((shtC s).map .dat)] (scBs (xll s c)) (.tup []):=by
 unfold xll;refine hEh [] func52 f52.eq_1 ?_
 repeat' first | refine hF ?_ ?_<;>intros | refine hI ?_
 refine vi3 [0,3,13,14] (fun i:Nat=>[(15,.one (.dat (cI i)))]) (fun i=>scBs (vzt impU (s.imports.take i) c)++[.box ((shtC s).map .dat) (some 31)])
  (fun i=>i<=s.imports.length) (fun i=>s.imports.length-i) 0 (Nat.zero_le _) ?_ ?_
 . refine hg ?_;exact sS
 intro i hi;have hsl:=hs.il;refine hg ?_;refine vdi (fun hlt _=>?_) (fun hlt _=>?_)
 . have hlt':i<s.imports.length:=by omega
   have hy:=hs.i _ (vdv hlt');have hU:=vf9 (U:=impU) (c:=c) hlt';clear hs;have c1:=yb8 (Γ:=Γ) (s.imports.getD i default).unit hy.2.1;have c2:=zjz (Γ:=Γ) (s.imports.getD i default).amount;have c3:=xg4 (Γ:=Γ) (s.imports.getD i default).port hy.2.2;generalize vzt impU (s.imports.take i) c=d at *;refine hg ?_
   repeat' first | refine hF ?_ ?_<;>intros | refine hI ?_ | (with_reducible first | refine w5a (c1) ?_ | refine xqd (c1) ?_ | refine w5a (c2) ?_ | refine xqd (c2) ?_ | refine w5a (c3) ?_ | refine xqd (c3) ?_)<;>refine hgS ?_
   all_goals generalize s.imports.getD i default=x at *
   all_goals first
    | (have hE:impU x=(x.name,zf8 x.unit,false):=by simp [impU, *]
       rw [hE] at hU;refine yqt [0,1] [(0,scB (useM d (x.name,zf8 x.unit,false)).1),(1,mU (useM d (x.name,zf8 x.unit,false)).2)] (cUse d _ _ _ hy.1) rfl (by decide) rfl (x40 d _) rfl (vqm d _ _) ?_;refine hg ?_
       repeat' first | refine hF ?_ ?_<;>intros | refine hI ?_
       refine ⟨i+1,by omega,by omega,?_⟩;rw [hU];refine StH.cutN [0,3,13,14,15] 3 rfl ?_ ?_
       . refine hg ?_;exact trivial
       exact sS)
    | (have hE:impU x=(x.name,zf8 x.unit,z6s x.port):=by simp [impU, *]
       rw [hE] at hU;refine yqt [0,1] [(0,scB (useM d (x.name,zf8 x.unit,z6s x.port)).1),(1,mU (useM d (x.name,zf8 x.unit,z6s x.port)).2)] (cUse d _ _ _ hy.1) rfl (by decide) rfl (x40 d _) rfl (vqm d _ _) ?_;refine hg ?_
       repeat' first | refine hF ?_ ?_<;>intros | refine hI ?_
       refine ⟨i+1,by omega,by omega,?_⟩;rw [hU];refine StH.cutN [0,3,13,14,15] 3 rfl ?_ ?_
       . refine hg ?_;exact trivial
       exact sS)
 rw [yjk (show s.imports.length<=i by omega)];refine hg ?_;refine vi3 [0,3,56,57] (fun i:Nat=>[(58,.one (.dat (cI i)))]) (fun i=>scBs (vzt inpU (s.inputs.take i) (vzt impU s.imports c))++[.box ((shtC s).map .dat) (some 31)])
  (fun i=>i<=s.inputs.length) (fun i=>s.inputs.length-i) 0 (Nat.zero_le _) ?_ ?_
 . refine hg ?_;exact sS
 intro i hi;have hsl:=hs.nl;refine hg ?_;refine vdi (fun hlt _=>?_) (fun hlt _=>?_)
 . have hlt':i<s.inputs.length:=by omega
   have hy:=hs.n _ (vdv hlt');have hU:=vf9 (U:=inpU) (c:=(vzt impU s.imports c)) hlt';clear hs;have c1:=yb8 (Γ:=Γ) (s.inputs.getD i default).unit hy.2.1;have c2:=xg4 (Γ:=Γ) (s.inputs.getD i default).kind hy.2.2;generalize vzt inpU (s.inputs.take i) (vzt impU s.imports c)=d at *;refine hg ?_
   repeat' first | refine hF ?_ ?_<;>intros | refine hI ?_ | (with_reducible first | refine w5a (c1) ?_ | refine xqd (c1) ?_ | refine w5a (c2) ?_ | refine xqd (c2) ?_)<;>refine hgS ?_
   all_goals generalize s.inputs.getD i default=x at *
   all_goals first
    | (have hE:inpU x=(x.name,zf8 x.unit,true):=by simp [inpU,v2l, *]
       rw [hE] at hU;refine yqt [0,1] [(0,scB (useM d (x.name,zf8 x.unit,true)).1),(1,mU (useM d (x.name,zf8 x.unit,true)).2)] (cUse d _ _ _ hy.1) rfl (by decide) rfl (x40 d _) rfl (vqm d _ _) ?_;refine hg ?_
       repeat' first | refine hF ?_ ?_<;>intros | refine hI ?_
       refine ⟨i+1,by omega,by omega,?_⟩;rw [hU];refine StH.cutN [0,3,56,57,58] 3 rfl ?_ ?_
       . refine hg ?_;exact trivial
       exact sS)
    | (have hE:inpU x=(x.name,zf8 x.unit,z6s x.kind):=by simp [inpU,v2l, *]
       rw [hE] at hU;refine yqt [0,1] [(0,scB (useM d (x.name,zf8 x.unit,z6s x.kind)).1),(1,mU (useM d (x.name,zf8 x.unit,z6s x.kind)).2)] (cUse d _ _ _ hy.1) rfl (by decide) rfl (x40 d _) rfl (vqm d _ _) ?_;refine hg ?_
       repeat' first | refine hF ?_ ?_<;>intros | refine hI ?_
       refine ⟨i+1,by omega,by omega,?_⟩;rw [hU];refine StH.cutN [0,3,56,57,58] 3 rfl ?_ ?_
       . refine hg ?_;exact trivial
       exact sS)
 rw [yjk (show s.inputs.length<=i by omega)];refine hg ?_;refine vi3 [0,3,79,80] (fun i:Nat=>[(81,.one (.dat (cI i)))]) (fun i=>scBs (vzt porU (s.ports.take i) (vzt inpU s.inputs (vzt impU s.imports c)))++[.box ((shtC s).map .dat) (some 31)])
  (fun i=>i<=s.ports.length) (fun i=>s.ports.length-i) 0 (Nat.zero_le _) ?_ ?_
 . refine hg ?_;exact sS
 intro i hi;have hsl:=hs.pl;refine hg ?_;refine vdi (fun hlt _=>?_) (fun hlt _=>?_)
 . have hlt':i<s.ports.length:=by omega
   have hy:=hs.p _ (vdv hlt');have hU:=vf9 (U:=porU) (c:=(vzt inpU s.inputs (vzt impU s.imports c))) hlt';clear hs;have c1:=yb8 (Γ:=Γ) (s.ports.getD i default).unit hy.2;have c2:=zjz (Γ:=Γ) (s.ports.getD i default).amount;generalize vzt porU (s.ports.take i) (vzt inpU s.inputs (vzt impU s.imports c))=d at *;refine hg ?_
   repeat' first | refine hF ?_ ?_<;>intros | refine hI ?_ | (with_reducible first | refine w5a (c1) ?_ | refine xqd (c1) ?_ | refine w5a (c2) ?_ | refine xqd (c2) ?_)<;>refine hgS ?_
   all_goals generalize s.ports.getD i default=x at *
   all_goals first
    | (have hE:porU x=(x.name,zf8 x.unit,amtS x.amount):=by simp [porU, *]
       rw [hE] at hU;refine yqt [0,1] [(0,scB (useM d (x.name,zf8 x.unit,amtS x.amount)).1),(1,mU (useM d (x.name,zf8 x.unit,amtS x.amount)).2)] (cUse d _ _ _ hy.1) rfl (by decide) rfl (x40 d _) rfl (vqm d _ _) ?_;refine hg ?_
       repeat' first | refine hF ?_ ?_<;>intros | refine hI ?_
       refine ⟨i+1,by omega,by omega,?_⟩;rw [hU];refine StH.cutN [0,3,79,80,81] 3 rfl ?_ ?_
       . refine hg ?_;exact trivial
       exact sS)
 rw [yjk (show s.ports.length<=i by omega)];refine hg ?_;refine vi3 [0,97,98] (fun i:Nat=>[(99,.one (.dat (cI i)))]) (fun i=>scBs (vzt stoU (s.stores.take i) (vzt porU s.ports (vzt inpU s.inputs (vzt impU s.imports c))))++[.box ((shtC s).map .dat) (some 31)])
  (fun i=>i<=s.stores.length) (fun i=>s.stores.length-i) 0 (Nat.zero_le _) ?_ ?_
 . refine hg ?_;exact sS
 intro i hi;have hsl:=hs.sl;refine hg ?_;refine vdi (fun hlt _=>?_) (fun hlt _=>?_)
 . have hlt':i<s.stores.length:=by omega
   have hy:=hs.o _ (vdv hlt');have hU:=vf9 (U:=stoU) (c:=(vzt porU s.ports (vzt inpU s.inputs (vzt impU s.imports c)))) hlt';clear hs;have c1:=yb8 (Γ:=Γ) (s.stores.getD i default).unit hy.2;generalize vzt stoU (s.stores.take i) (vzt porU s.ports (vzt inpU s.inputs (vzt impU s.imports c)))=d at *;refine hg ?_
   repeat' first | refine hF ?_ ?_<;>intros | refine hI ?_ | (with_reducible first | refine w5a (c1) ?_ | refine xqd (c1) ?_)<;>refine hgS ?_
   all_goals generalize s.stores.getD i default=x at *
   all_goals first
    | (have hE:stoU x=(x.name,zf8 x.unit,false):=by simp [stoU, *]
       rw [hE] at hU;refine yqt [0,1] [(0,scB (useM d (x.name,zf8 x.unit,false)).1),(1,mU (useM d (x.name,zf8 x.unit,false)).2)] (cUse d _ _ _ hy.1) rfl (by decide) rfl (x40 d _) rfl (vqm d _ _) ?_;refine hg ?_
       repeat' first | refine hF ?_ ?_<;>intros | refine hI ?_
       refine ⟨i+1,by omega,by omega,?_⟩;rw [hU];refine StH.cutN [0,97,98,99] 3 rfl ?_ ?_
       . refine hg ?_;exact trivial
       exact sS)
    | (have hE:stoU x=(x.name,zf8 x.unit,decide (x.rule<3)):=by simp [stoU, *]
       rw [hE] at hU;refine yqt [0,1] [(0,scB (useM d (x.name,zf8 x.unit,decide (x.rule<3))).1),(1,mU (useM d (x.name,zf8 x.unit,decide (x.rule<3))).2)] (cUse d _ _ _ hy.1) rfl (by decide) rfl (x40 d _) rfl (vqm d _ _) ?_;refine hg ?_
       repeat' first | refine hF ?_ ?_<;>intros | refine hI ?_
       refine ⟨i+1,by omega,by omega,?_⟩;rw [hU];refine StH.cutN [0,97,98,99] 3 rfl ?_ ?_
       . refine hg ?_;exact trivial
       exact sS)
 rw [yjk (show s.stores.length<=i by omega)];refine hg ?_;refine StH.cutN [0] 2 rfl ?_ ?_
 . refine hg ?_;exact trivial
 exact sS
theorem wx3 (x:Prm) (h1:x.name.size<=1073741824) (h2:x.unit.size<=1073741824):CallsD Γ prog 104 [.agg (prmC x)] (.one (cB (!z6s x.name||!zf8 x.unit))):=by
 have c1:=xg4 (Γ:=Γ) x.name h1;have c2:=yb8 (Γ:=Γ) x.unit h2;generalize z6s x.name=b1 at *;generalize zf8 x.unit=b2 at *;refine hE [] func104 f104.eq_1 ?_
 repeat' first | refine hF ?_ ?_<;>intros | refine hI ?_ | (with_reducible first | refine w5a (c1) ?_ | refine xqd (c1) ?_ | refine w5a (c2) ?_ | refine xqd (c2) ?_)<;>refine hgS ?_
 all_goals refine lfE ?_;first | exact trivial | rfl
theorem x25 (s:Sht) (hs:s.Sm) (c:Scu):z00 Γ prog 53 (scBs c) [.one (.ptr 0 0),.agg ((shtC s).map .dat)] (scBs (y1t s c)) (.tup []):=by
 unfold y1t;refine hEh [] func53 f53.eq_1 ?_
 repeat' first | refine hF ?_ ?_<;>intros | refine hI ?_
 refine vi3 [0,3,12,13] (fun i:Nat=>[(14,.one (.dat (cI i)))]) (fun i=>scBs (vzt tabU (s.tables.take i) c)++[.box ((shtC s).map .dat) (some 31)])
  (fun i=>i<=s.tables.length) (fun i=>s.tables.length-i) 0 (Nat.zero_le _) ?_ ?_
 . refine hg ?_;exact sS
 intro i hi;have hsl:=hs.tl;refine hg ?_;refine vdi (fun hlt _=>?_) (fun hlt _=>?_)
 . have hlt':i<s.tables.length:=by omega
   have hy:=hs.t _ (vdv hlt');have hU:=vf9 (U:=tabU) (c:=c) hlt';clear hs;have c1:=ydk (Γ:=Γ) (s.tables.getD i default) hy.n hy.u hy.r;generalize vzt tabU (s.tables.take i) c=d at *;refine hg ?_
   repeat' first | refine hF ?_ ?_<;>intros | refine hI ?_ | (with_reducible first | refine w5a (c1) ?_ | refine xqd (c1) ?_)<;>refine hgS ?_
   all_goals generalize s.tables.getD i default=x at *
   all_goals first
    | (have hE:tabU x=(x.name,true,zjr (fun s=>(xe6 s).2) x):=by simp [tabU, *]
       rw [hE] at hU;refine yqt [0,1] [(0,scB (useM d (x.name,true,zjr (fun s=>(xe6 s).2) x)).1),(1,mU (useM d (x.name,true,zjr (fun s=>(xe6 s).2) x)).2)] (cUse d _ _ _ hy.n) rfl (by decide) rfl (x40 d _) rfl (vqm d _ _) ?_;refine hg ?_
       repeat' first | refine hF ?_ ?_<;>intros | refine hI ?_
       refine ⟨i+1,by omega,by omega,?_⟩;rw [hU];refine StH.cutN [0,3,12,13,14] 3 rfl ?_ ?_
       . refine hg ?_;exact trivial
       exact sS)
 rw [yjk (show s.tables.length<=i by omega)];refine hg ?_;refine vi3 [0,3,26,27] (fun i:Nat=>[(28,.one (.dat (cI i)))]) (fun i=>scBs (vzt fncU (s.funcs.take i) (vzt tabU s.tables c))++[.box ((shtC s).map .dat) (some 31)])
  (fun i=>i<=s.funcs.length) (fun i=>s.funcs.length-i) 0 (Nat.zero_le _) ?_ ?_
 . refine hg ?_;exact sS
 intro i hi;have hsl:=hs.fl;refine hg ?_;refine vdi (fun hlt _=>?_) (fun hlt _=>?_)
 . have hlt':i<s.funcs.length:=by omega
   have hy:=hs.f _ (vdv hlt');have hU:=vf9 (U:=fncU) (c:=(vzt tabU s.tables c)) hlt';clear hs;have c1:=yjd (Γ:=Γ) (s.funcs.getD i default).params 104 (fun p=>!z6s p.name||!zf8 p.unit) hy.2.1 (fun y hh=>wx3 y (hy.2.2.1 y hh).1 (hy.2.2.1 y hh).2);have c2:=xcn (Γ:=Γ) (s.funcs.getD i default).body hy.2.2.2;generalize vzt fncU (s.funcs.take i) (vzt tabU s.tables c)=d at *;refine hg ?_
   repeat' first | refine hF ?_ ?_<;>intros | refine hI ?_ | (with_reducible first | refine w5a (c1) ?_ | refine xqd (c1) ?_ | refine w5a (c2) ?_ | refine xqd (c2) ?_)<;>refine hgS ?_
   all_goals generalize s.funcs.getD i default=x at *
   all_goals first
    | (have hE:fncU x=(x.name,!x.params.any (fun p=>!z6s p.name||!zf8 p.unit),false):=by simp [fncU, *]
       rw [hE] at hU;refine yqt [0,1] [(0,scB (useM d (x.name,!x.params.any (fun p=>!z6s p.name||!zf8 p.unit),false)).1),(1,mU (useM d (x.name,!x.params.any (fun p=>!z6s p.name||!zf8 p.unit),false)).2)] (cUse d _ _ _ hy.1) rfl (by decide) rfl (x40 d _) rfl (vqm d _ _) ?_;refine hg ?_
       repeat' first | refine hF ?_ ?_<;>intros | refine hI ?_
       refine ⟨i+1,by omega,by omega,?_⟩;rw [hU];refine StH.cutN [0,3,26,27,28] 3 rfl ?_ ?_
       . refine hg ?_;exact trivial
       exact sS)
    | (have hE:fncU x=(x.name,!x.params.any (fun p=>!z6s p.name||!zf8 p.unit),wck x.body):=by simp [fncU, *]
       rw [hE] at hU;refine yqt [0,1] [(0,scB (useM d (x.name,!x.params.any (fun p=>!z6s p.name||!zf8 p.unit),wck x.body)).1),(1,mU (useM d (x.name,!x.params.any (fun p=>!z6s p.name||!zf8 p.unit),wck x.body)).2)] (cUse d _ _ _ hy.1) rfl (by decide) rfl (x40 d _) rfl (vqm d _ _) ?_;refine hg ?_
       repeat' first | refine hF ?_ ?_<;>intros | refine hI ?_
       refine ⟨i+1,by omega,by omega,?_⟩;rw [hU];refine StH.cutN [0,3,26,27,28] 3 rfl ?_ ?_
       . refine hg ?_;exact trivial
       exact sS)
 rw [yjk (show s.funcs.length<=i by omega)];refine hg ?_;refine vi3 [0,58,59] (fun i:Nat=>[(60,.one (.dat (cI i)))]) (fun i=>scBs (vzt celU (s.cells.take i) (vzt fncU s.funcs (vzt tabU s.tables c)))++[.box ((shtC s).map .dat) (some 31)])
  (fun i=>i<=s.cells.length) (fun i=>s.cells.length-i) 0 (Nat.zero_le _) ?_ ?_
 . refine hg ?_;exact sS
 intro i hi;have hsl:=hs.cl;refine hg ?_;refine vdi (fun hlt _=>?_) (fun hlt _=>?_)
 . have hlt':i<s.cells.length:=by omega
   have hy:=hs.c _ (vdv hlt');have hU:=vf9 (U:=celU) (c:=(vzt fncU s.funcs (vzt tabU s.tables c))) hlt';clear hs;have c1:=yb8 (Γ:=Γ) (s.cells.getD i default).unit hy.2.1;have c2:=xcn (Γ:=Γ) (s.cells.getD i default).x hy.2.2;generalize vzt celU (s.cells.take i) (vzt fncU s.funcs (vzt tabU s.tables c))=d at *;refine hg ?_
   repeat' first | refine hF ?_ ?_<;>intros | refine hI ?_ | (with_reducible first | refine w5a (c1) ?_ | refine xqd (c1) ?_ | refine w5a (c2) ?_ | refine xqd (c2) ?_)<;>refine hgS ?_
   all_goals generalize s.cells.getD i default=x at *
   all_goals first
    | (have hE:celU x=(x.name,zf8 x.unit,wck x.x):=by simp [celU, *]
       rw [hE] at hU;refine yqt [0,1] [(0,scB (useM d (x.name,zf8 x.unit,wck x.x)).1),(1,mU (useM d (x.name,zf8 x.unit,wck x.x)).2)] (cUse d _ _ _ hy.1) rfl (by decide) rfl (x40 d _) rfl (vqm d _ _) ?_;refine hg ?_
       repeat' first | refine hF ?_ ?_<;>intros | refine hI ?_
       refine ⟨i+1,by omega,by omega,?_⟩;rw [hU];refine StH.cutN [0,58,59,60] 3 rfl ?_ ?_
       . refine hg ?_;exact trivial
       exact sS)
 rw [yjk (show s.cells.length<=i by omega)];refine hg ?_;refine StH.cutN [0] 2 rfl ?_ ?_
 . refine hg ?_;exact trivial
 exact sS
def rcpU (x:Rcp):Us:=(x.kind,true,decide ((x.steps.length:Int)<=100)&&!x.steps.any fun y=>!vdf y)
def wp4 (s:Sht):Bool:=(y1t s (xll s (z6s s.name,[]))).1&&!decide (100<((y1t s (xll s (z6s s.name,[]))).2.length:Int)+s.recipes.length)&&(vzt rcpU s.recipes (true,[])).1
theorem w05 {α:Type} {s:ByteArray} {v:α}:∀{l:List (ByteArray×α)},(updF l s v).length<=l.length+1
 | []=>Nat.le_refl _
 | p::l=>by
  rw [updF]
  cases seq s p.1 with
  | true=>exact Nat.le_succ _
  | false=>rw [cond_false,List.length_cons,List.length_cons];have:=w05 (s:=s) (v:=v) (l:=l);omega
theorem zxb {α:Type} {U:α->Us}:∀{l:List α} {c:Scu},(vzt U l c).2.length<=c.2.length+l.length
 | [],c=>Nat.le_refl _
 | x::l,c=>by
  have h1:=zxb (U:=U) (l:=l) (c:=useM c (U x));have h2:(useM c (U x)).2.length<=c.2.length+1:=w05;show (vzt U l (useM c (U x))).2.length<=_;rw [List.length_cons];omega
theorem vj2 (x:Stp) (hx:x.Sm):CallsD Γ prog 56 [.agg (stpC x)] (.one (cB (!vdf x))):=by
 have h:=zbf (Γ:=Γ) x hx;refine hE [] func56 f56.eq_1 ?_
 repeat' first | refine hF ?_ ?_<;>intros | refine hI ?_ | (with_reducible first | refine w5a (h) ?_ | refine xqd (h) ?_)<;>refine hgS ?_
 all_goals refine lfE ?_;first | exact trivial | rfl
theorem wlm (a b:Nat) (l _l':List SB) (c:Scu) (h1:(l)[a]? = some (.box [.mp b,.dat (cB c.1)] (some 112))) (h2:l[b]? = some (mU c.2)) (_hab:a≠b):[a,b].map (fun j=>l[j]?)=(scBs c).map (fun x=>some (rnSB (atR [a,b] l.length) x)):=by
 show [l[a]?,l[b]?]=[some (rnSB _ (scB c.1)),some (rnSB _ (mU c.2))];rw [xf9,h1,h2]
 have:atR [a,b] l.length 1=b:=rfl
 show _=[some (SB.box [HC.mp (atR [a,b] l.length 1),_] _),_];rw [this];rfl
theorem x6u (a b:Nat) (l:List SB) (d:Scu):putR [a,b] l (scBs d)=(l.set a (.box [.mp b,.dat (cB d.1)] (some 112))).set b (mU d.2):=by
 unfold putR;show appL [(a,rnSB (atR [a,b] l.length) (scB d.1)),(b,rnSB _ (mU d.2))] l++[]=_;rw [xf9,List.append_nil];rfl
theorem v1e (a b:Nat) {f:FuncId} {η:List SB} {c d:Scu} {args l:List SV} {K:Bool->List SB->SV->Prop} (h:z00 Γ prog f (scBs c) args (scBs d) (.tup [])) (hl:args.map (wi2 (atR [a,b] η.length))=l) (hab:a≠b) (hb:([a,b].all fun j=>Nat.blt j η.length)=true)
 (h1:η[a]? = some (.box [.mp b,.dat (cB c.1)] (some 112))) (h2:η[b]? = some (mU c.2)) (hk:K true ((η.set a (.box [.mp b,.dat (cB d.1)] (some 112))).set b (mU d.2)) (.tup [])):w4x Γ prog f η l K:=by
 refine xdg [a,b] h hl (by simp [hab]) hb (wlm a b η [] c h1 h2 hab) rfl ?_;rw [x6u];exact hk
theorem xwi (s:Sht) (hs:s.Sm):CallsD Γ prog 22 [.agg (shtC s)] (.one (cB (wp4 s))):=by
 have h0:=xg4 (Γ:=Γ) s.name hs.nm
 have hb:(y1t s (xll s (z6s s.name,[]))).2.length<=7516192768:=by
  unfold y1t xll;have a1:=zxb (U:=impU) (l:=s.imports) (c:=(z6s s.name,[]));have a2:=zxb (U:=inpU) (l:=s.inputs) (c:=vzt impU s.imports (z6s s.name,[]));have a3:=zxb (U:=porU) (l:=s.ports) (c:=vzt inpU s.inputs (vzt impU s.imports (z6s s.name,[])));have a4:=zxb (U:=stoU) (l:=s.stores) (c:=vzt porU s.ports (vzt inpU s.inputs (vzt impU s.imports (z6s s.name,[]))));generalize vzt stoU s.stores (vzt porU s.ports (vzt inpU s.inputs (vzt impU s.imports (z6s s.name,[]))))=d at *;have b1:=zxb (U:=tabU) (l:=s.tables) (c:=d);have b2:=zxb (U:=fncU) (l:=s.funcs) (c:=vzt tabU s.tables d);have b3:=zxb (U:=celU) (l:=s.cells) (c:=vzt fncU s.funcs (vzt tabU s.tables d))
  have:=hs.il;have:=hs.nl;have:=hs.pl;have:=hs.sl;have:=hs.tl;have:=hs.fl;have:=hs.cl
  have e:((z6s s.name,[]):Scu).2.length=0:=rfl;omega
 have c1:=wij (Γ:=Γ) s hs (z6s s.name,[]);have c2:=x25 (Γ:=Γ) s hs (xll s (z6s s.name,[]));have hR:wp4 s=((y1t s (xll s (z6s s.name,[]))).1&&!decide (100<((y1t s (xll s (z6s s.name,[]))).2.length:Int)+s.recipes.length)&&(vzt rcpU s.recipes (true,[])).1):=rfl;rw [hR];generalize y1t s (xll s (z6s s.name,[]))=d at *;generalize xll s (z6s s.name,[])=c at *;generalize z6s s.name=f at *;have hrl:=hs.rl;have hr:=hs.r;clear hR hs;refine hE [] func22 f22.eq_1 ?_
 repeat' first | refine hF ?_ ?_<;>intros | refine hI ?_ | (with_reducible first | refine w5a (h0) ?_ | refine xqd (h0) ?_)<;>refine hgS ?_
 refine v1e 2 1 c1 rfl (by decide) rfl rfl rfl ?_;refine hg ?_
 repeat' first | refine hF ?_ ?_<;>intros | refine hI ?_
 refine v1e 2 1 c2 rfl (by decide) rfl rfl rfl ?_;refine hg ?_
 repeat' first | refine hF ?_ ?_<;>intros | refine hI ?_
 . exact RLe.ofEq rfl
 . refine vi3 [4,40,41] (fun i:Nat=>[(42,.one (.dat (cI i)))]) (fun i=>[.box ((shtC s).map .dat) (some 31),mU d.2,.box [.mp 1,.dat (cB true)] (some 112),mU (vzt rcpU (s.recipes.take i) (true,[])).2,.box [.mp 3,.dat (cB (vzt rcpU (s.recipes.take i) (true,[])).1)] (some 112)])
    (fun i=>i<=s.recipes.length) (fun i=>s.recipes.length-i) 0 (Nat.zero_le _) ?_ ?_
   . refine hg ?_;exact StH.same svl (by first | rfl | (simp [*];rfl))
   intro i hi;refine hg ?_;refine vdi (fun hlt _=>?_) (fun hlt _=>?_)
   . have hlt':i<s.recipes.length:=by omega
     have hy:=hr _ (vdv hlt');have hU:=vf9 (U:=rcpU) (c:=(true,[])) hlt';have c1:=znd (Γ:=Γ) (s.recipes.getD i default).steps 56 (fun y=>!vdf y) hy.2.1 (fun y hh=>vj2 y (hy.2.2 y hh));clear hr;generalize vzt rcpU (s.recipes.take i) (true,[])=q at *;refine hg ?_
     repeat' first | refine hF ?_ ?_<;>intros | refine hI ?_ | (with_reducible first | refine w5a (c1) ?_ | refine xqd (c1) ?_)<;>refine hgS ?_
     all_goals generalize s.recipes.getD i default=x at *
     all_goals first
     | (have hE:rcpU x=(x.kind,true,!x.steps.any fun y=>!vdf y):=by simp [rcpU, *]
        rw [hE] at hU;refine yqt [4,3] [(4,.box [.mp 3,.dat (cB (useM q (x.kind,true,!x.steps.any fun y=>!vdf y)).1)] (some 112)),(3,mU (useM q (x.kind,true,!x.steps.any fun y=>!vdf y)).2)] (cUse q _ _ _ hy.1) rfl (by decide) rfl (wlm 4 3 _ [] q rfl rfl (by decide)) rfl (x6u 4 3 _ _) ?_;refine hg ?_
        repeat' first | refine hF ?_ ?_<;>intros | refine hI ?_
        refine ⟨i+1,by omega,by omega,?_⟩;rw [hU];refine StH.cutN [4,40,41,42] 5 rfl ?_ ?_
        . refine hg ?_;exact trivial
        exact sS)
     | (have hE:rcpU x=(x.kind,true,false):=by simp [rcpU, *]
        rw [hE] at hU;refine yqt [4,3] [(4,.box [.mp 3,.dat (cB (useM q (x.kind,true,false)).1)] (some 112)),(3,mU (useM q (x.kind,true,false)).2)] (cUse q _ _ _ hy.1) rfl (by decide) rfl (wlm 4 3 _ [] q rfl rfl (by decide)) rfl (x6u 4 3 _ _) ?_;refine hg ?_
        repeat' first | refine hF ?_ ?_<;>intros | refine hI ?_
        refine ⟨i+1,by omega,by omega,?_⟩;rw [hU];refine StH.cutN [4,40,41,42] 5 rfl ?_ ?_
        . refine hg ?_;exact trivial
        exact sS)
   rw [yjk (show s.recipes.length<=i by omega)];refine hg ?_
   repeat' first | refine hF ?_ ?_<;>intros | refine hI ?_
   all_goals refine lfE ?_;first | exact trivial | rfl
 . exact RLe.ofEq rfl
abbrev Tg:=Int×ByteArray
def Tg.C (t:Tg):List Cell:=[cI t.1,cS t.2]
abbrev tgC (t:Tg):List Cell:=[cI t.1,cS t.2]
theorem Tg.C_eq (t:Tg):Tg.C t=tgC t:=rfl
attribute [go_sem] Tg.C_eq
def tgK (t:Tg):Value:=.agg (List.toArray [.int .i64 t.1,.string t.2])
def tgE (a b:Tg):Bool:=decide (a.1=b.1)&&seq a.2 b.2
theorem yxx (a b:Tg):kEq (tgK a) (tgK b)=some (tgE a b):=by
 show eqL [.int .i64 a.1,.string a.2] [.int .i64 b.1,.string b.2]=_;simp [eqL,kEq0,tgE,Bool.beq_eq_decide_eq]
theorem z7l {a b:Tg}:tgE a b=true↔a=b:=by
 unfold tgE;rw [Bool.and_eq_true,decide_eq_true_iff,xju,decide_eq_true_iff];exact ⟨fun h=>Prod.ext h.1 h.2,fun h=>by rw [h];exact ⟨rfl,rfl⟩⟩
theorem wgq {c:Int} {s:ByteArray}:keyT prog 154 [.int .i64 c,.string s]=true:=by kernel_rfl
attribute [go_sem] wgq
def xvm (x:Stp):List Tg:=x.inn.map (fun s=>(0,s))++x.out.map (fun s=>(1,s))++(bif decide (x.kind=0)||(decide (x.kind=1)||decide (x.kind=5)) then [(2+x.kind,x.name)] else [])
theorem y00 (x:Stp) (hi:x.inn.length<=1073741824) (ho:x.out.length<=1073741824):CallsD Γ prog 80 [.agg (stpC x)] (.one (.sl 2 ((xvm x).map Tg.C))):=by
 unfold xvm;refine hE [] func80 f80.eq_1 ?_
 repeat' first | refine hF ?_ ?_<;>intros | refine hI ?_
 refine vi3 [1,9,10] (fun x:Nat×List Tg=>[(3,.one (.sl 1 2 0 x.2.length)),(11,.one (.dat (cI x.1)))]) (fun p=>[.box ((stpC x).map .dat) (some 70),.arr (.sl 2 (p.2.map Tg.C)) 0 (some 154)])
  (fun p=>p.1<=x.inn.length/\p.2=(x.inn.take p.1).map fun s=>((0,s):Tg)) (fun p=>x.inn.length-p.1) (0,[]) ⟨Nat.zero_le _,by simp⟩ ?_ ?_
 . refine hg ?_;refine StH.trans (StH.empty (d:=3) (es:=2) (c:=.sl 2 []) (T:=some 154) rfl rfl (fun r hr=>by cases hr) rfl) ?_;refine hg ?_;exact sS
 rintro ⟨i,acc⟩ ⟨hin,hacc⟩;dsimp only at hin hacc;refine hg ?_;refine vdi (fun hlt _=>?_) (fun hlt _=>?_)
 . have hlt':i<x.inn.length:=by omega
   have hal:acc.length<=2147483648:=by rw [hacc];simp;omega
   refine hg ?_
   repeat' first | refine hF ?_ ?_<;>intros | refine hI ?_
   refine ⟨(i+1,acc++[(0,x.inn.getD i default)]),⟨by dsimp only;omega,?_⟩,by dsimp only;omega,?_⟩
   . dsimp only;rw [hacc,List.take_succ_eq_append_getElem hlt',List.getD_eq_getElem?_getD,List.getElem?_eq_getElem hlt',List.map_append];simp
   refine StH.back [1,3,9,10,11] 1 2 2 rfl rfl rfl rfl rfl (by kernel_rfl) ?_;simp only [List.map_append,List.map_cons,List.map_nil];refine hg2 @List.length_append.{0} @List.length_singleton.{0} ?_;exact sS
 rw [List.take_of_length_le (show x.inn.length<=i by omega)] at hacc;rw [<-hacc]
 have hal:acc.length<=1073741824:=by rw [hacc,List.length_map];exact hi
 clear hacc hlt hin;refine hg ?_;refine vi3 [1,22,23] (fun x:Nat×List Tg=>[(3,.one (.sl 1 2 0 x.2.length)),(24,.one (.dat (cI x.1)))]) (fun p=>[.box ((stpC x).map .dat) (some 70),.arr (.sl 2 (p.2.map Tg.C)) 0 (some 154)])
  (fun p=>p.1<=x.out.length/\p.2=acc++(x.out.take p.1).map fun s=>((1,s):Tg)) (fun p=>x.out.length-p.1) (0,acc) ⟨Nat.zero_le _,by simp⟩ ?_ ?_
 . refine hg ?_;exact sS
 rintro ⟨i,ac2⟩ ⟨hin,hacc⟩;dsimp only at hin hacc;refine hg ?_;refine vdi (fun hlt _=>?_) (fun hlt _=>?_)
 . have hlt':i<x.out.length:=by omega
   have hal:ac2.length<=2147483648:=by rw [hacc];simp;omega
   refine hg ?_
   repeat' first | refine hF ?_ ?_<;>intros | refine hI ?_
   refine ⟨(i+1,ac2++[(1,x.out.getD i default)]),⟨by dsimp only;omega,?_⟩,by dsimp only;omega,?_⟩
   . dsimp only;rw [hacc,List.take_succ_eq_append_getElem hlt',List.getD_eq_getElem?_getD,List.getElem?_eq_getElem hlt',List.map_append];simp
   refine StH.back [1,3,22,23,24] 1 2 2 rfl rfl rfl rfl rfl (by kernel_rfl) ?_;simp only [List.map_append,List.map_cons,List.map_nil];refine hg2 @List.length_append.{0} @List.length_singleton.{0} ?_;exact sS
 rw [List.take_of_length_le (show x.out.length<=i by omega)] at hacc;rw [<-hacc]
 have hbl:ac2.length<=2147483648:=by rw [hacc];simp;omega
 clear hacc hlt hin;refine hg ?_
 repeat' first | refine hF ?_ ?_<;>intros | refine hI ?_
 all_goals exact RLe.ofEq (by simp [*,Tg.C])
abbrev Ms:=List (ByteArray×ByteArray)
abbrev Mn:=List (Tg×Unit)
abbrev Mb:=List (Tg×Int)
def envS (l:Ms):List (Value×SV):=envM (fun u=>.one (.dat (cS u))) l
def envN (l:Mn):List (Value×SV):=entG tgK (fun _:Unit=>.one (.dat (cB true))) l
def envK (l:Mb):List (Value×SV):=entG tgK (fun k:Int=>.one (.dat (cI k))) l
theorem vsl {T:Ms} {s:ByteArray}:xpi (envS T) (.string s)=some ((yvz T s).map fun u=>.one (.dat (.raw (.string u)))):=xmv
theorem x44 {T:Ms} {s u:ByteArray}:updM (envS T) (.string s) (.one (.dat (.raw (.string u))))=some (envS (updF T s u)):=yfp (C:=fun u:ByteArray=>.one (.dat (cS u))) (l:=T) (s:=s) (v:=u)
theorem vyp {T:Mn} {c:Int} {s:ByteArray}:xpi (envN T) (.agg (List.toArray [.int .i64 c,.string s]))=some ((vlc tgE T (c,s)).map fun _=>.one (.dat (.raw (.bool true)))):=vgq yxx (s:=(c,s))
theorem w7w {T:Mn} {c:Int} {s:ByteArray}:updM (envN T) (.agg (List.toArray [.int .i64 c,.string s])) (.one (.dat (.raw (.bool true))))=some (envN (updG tgE T (c,s) ())):=xww yxx (C:=fun _:Unit=>.one (.dat (cB true))) (s:=(c,s)) (v:=())
theorem vh3 {T:Mb} {c:Int} {s:ByteArray}:xpi (envK T) (.agg (List.toArray [.int .i64 c,.string s]))=some ((vlc tgE T (c,s)).map fun k=>.one (.dat (.raw (.int .i64 k)))):=vgq yxx (s:=(c,s))
theorem zq1 {T:Mb} {c k:Int} {s:ByteArray}:updM (envK T) (.agg (List.toArray [.int .i64 c,.string s])) (.one (.dat (.raw (.int .i64 k))))=some (envK (updG tgE T (c,s) k)):=xww yxx (C:=fun k:Int=>.one (.dat (cI k))) (s:=(c,s)) (v:=k)
theorem yk0 {r:Nat->Nat} {l:Ms}:rnSB r (.map (envS l))=.map (envS l):=vpy (fun _ _=>rfl) r l
theorem ypi {r:Nat->Nat} {l:Mn}:rnSB r (.map (envN l))=.map (envN l):=vk3 (fun _ _=>rfl) r l
theorem yh3 {r:Nat->Nat} {l:Mb}:rnSB r (.map (envK l))=.map (envK l):=vk3 (fun _ _=>rfl) r l
theorem znv (l:Ms):zj7 (.map (envS l))=[]:=zmc (fun _=>rfl) l
theorem xep (l:Mn):zj7 (.map (envN l))=[]:=x8n (fun _=>rfl) l
theorem xoi (l:Mb):zj7 (.map (envK l))=[]:=x8n (fun _=>rfl) l
attribute [go_sem] vsl x44 vyp w7w vh3 zq1 znv xep xoi
attribute [go_sem 20000] yk0 ypi yh3
abbrev mS (l:Ms):SB:=.map (envS l)
abbrev mN (l:Mn):SB:=.map (envN l)
abbrev mK (l:Mb):SB:=.map (envK l)
theorem w3d {α β:Type} [Inhabited α] {f:β->α->β} {l:List α} {c:β} {i:Nat} (h:i<l.length):(l.take (i+1)).foldl f c=f ((l.take i).foldl f c) (l.getD i default):=by
 rw [List.take_succ_eq_append_getElem h,List.foldl_append,List.getD_eq_getElem?_getD,List.getElem?_eq_getElem h];rfl
def vab (s:Sht):Ms:=s.cells.foldl (fun m x=>updF m x.name x.unit) []
def ytr (s:Sht):Ms:=s.inputs.foldl (fun m x=>updF m x.name x.kind) []
def nm1 (s:Sht):Mn:=s.inputs.foldl (fun m x=>updG tgE m (0,x.name) ()) []
def nm2 (s:Sht):Mn:=s.imports.foldl (fun m x=>updG tgE m (1,x.name) ()) (nm1 s)
def nm3 (s:Sht):Mn:=s.stores.foldl (fun m x=>updG tgE (updG tgE m (2,x.name) ()) (6,x.name) ()) (nm2 s)
def vfj (s:Sht):Mn:=s.ports.foldl (fun m x=>updG tgE m (5,x.name) ()) (nm3 s)
abbrev itB (a b c:Nat):SB:=.box [.mp a,.mp b,.mp c] (some 145)
abbrev colB (s:Sht):List SB:=[.box ((shtC s).map .dat) (some 31),itB 2 3 4,mS (vab s),mS (ytr s),mN (vfj s)]
theorem x1e (s:Sht) (hs:s.Sm):z00 Γ prog 77 [] [.agg ((shtC s).map .dat)] (colB s) (.agg [.mp 2,.mp 3,.mp 4]):=by
 have h1:=hs.cl;have h2:=hs.nl;have h3:=hs.il;have h4:=hs.sl;have h5:=hs.pl;refine hEh [] func77 f77.eq_1 ?_
 repeat' first | refine hF ?_ ?_<;>intros | refine hI ?_
 refine vi3 [1,2,3,19,20] (fun i:Nat=>[(21,.one (.dat (cI i)))]) (fun i=>[.box ((shtC s).map .dat) (some 31),.box [.dat (.raw (.map none)),.dat (.raw (.map none)),.dat (.raw (.map none))] (some 145),mS ((s.cells.take i).foldl (fun m x=>updF m x.name x.unit) ([]:Ms)),mS [],mN [],itB 2 3 4])
  (fun i=>i<=s.cells.length) (fun i=>s.cells.length-i) 0 (Nat.zero_le _) ?_ ?_
 . refine hg ?_;exact sS
 intro i hi;refine hg ?_;refine vdi (fun hlt _=>?_) (fun hlt _=>?_)
 . have hlt':i<s.cells.length:=by omega
   have hU0:=w3d (f:=fun m x=>updF m x.name x.unit) (c:=([]:Ms)) hlt';generalize (s.cells.take i).foldl (fun m x=>updF m x.name x.unit) ([]:Ms)=d0 at *;refine hg ?_
   repeat' first | refine hF ?_ ?_<;>intros | refine hI ?_
   refine ⟨i+1,by omega,by omega,?_⟩;rw [hU0];refine StH.cutN [1,2,3,19,20,21] 6 rfl ?_ ?_
   . refine hg ?_;exact trivial
   exact sS
 rw [List.take_of_length_le (show s.cells.length<=i by omega)];rw [show s.cells.foldl (fun m x=>updF m x.name x.unit) ([]:Ms)=vab s from rfl];refine hg ?_;refine vi3 [1,2,3,33,34] (fun i:Nat=>[(35,.one (.dat (cI i)))]) (fun i=>[.box ((shtC s).map .dat) (some 31),.box [.dat (.raw (.map none)),.dat (.raw (.map none)),.dat (.raw (.map none))] (some 145),mS (vab s),mS ((s.inputs.take i).foldl (fun m x=>updF m x.name x.kind) ([]:Ms)),mN ((s.inputs.take i).foldl (fun m x=>updG tgE m (0,x.name) ()) ([]:Mn)),itB 2 3 4])
  (fun i=>i<=s.inputs.length) (fun i=>s.inputs.length-i) 0 (Nat.zero_le _) ?_ ?_
 . refine hg ?_;exact sS
 intro i hi;refine hg ?_;refine vdi (fun hlt _=>?_) (fun hlt _=>?_)
 . have hlt':i<s.inputs.length:=by omega
   have hU0:=w3d (f:=fun m x=>updF m x.name x.kind) (c:=([]:Ms)) hlt';have hU1:=w3d (f:=fun m x=>updG tgE m (0,x.name) ()) (c:=([]:Mn)) hlt';generalize (s.inputs.take i).foldl (fun m x=>updF m x.name x.kind) ([]:Ms)=d0 at *;generalize (s.inputs.take i).foldl (fun m x=>updG tgE m (0,x.name) ()) ([]:Mn)=d1 at *;refine hg ?_
   repeat' first | refine hF ?_ ?_<;>intros | refine hI ?_
   refine ⟨i+1,by omega,by omega,?_⟩;rw [hU0];rw [hU1];refine StH.cutN [1,2,3,33,34,35] 6 rfl ?_ ?_
   . refine hg ?_;exact trivial
   exact sS
 rw [List.take_of_length_le (show s.inputs.length<=i by omega)];rw [show s.inputs.foldl (fun m x=>updF m x.name x.kind) ([]:Ms)=ytr s from rfl];rw [show s.inputs.foldl (fun m x=>updG tgE m (0,x.name) ()) ([]:Mn)=nm1 s from rfl];refine hg ?_;refine vi3 [1,2,3,52,53] (fun i:Nat=>[(54,.one (.dat (cI i)))]) (fun i=>[.box ((shtC s).map .dat) (some 31),.box [.dat (.raw (.map none)),.dat (.raw (.map none)),.dat (.raw (.map none))] (some 145),mS (vab s),mS (ytr s),mN ((s.imports.take i).foldl (fun m x=>updG tgE m (1,x.name) ()) (nm1 s)),itB 2 3 4])
  (fun i=>i<=s.imports.length) (fun i=>s.imports.length-i) 0 (Nat.zero_le _) ?_ ?_
 . refine hg ?_;exact sS
 intro i hi;refine hg ?_;refine vdi (fun hlt _=>?_) (fun hlt _=>?_)
 . have hlt':i<s.imports.length:=by omega
   have hU0:=w3d (f:=fun m x=>updG tgE m (1,x.name) ()) (c:=(nm1 s)) hlt';generalize (s.imports.take i).foldl (fun m x=>updG tgE m (1,x.name) ()) (nm1 s)=d0 at *;refine hg ?_
   repeat' first | refine hF ?_ ?_<;>intros | refine hI ?_
   refine ⟨i+1,by omega,by omega,?_⟩;rw [hU0];refine StH.cutN [1,2,3,52,53,54] 6 rfl ?_ ?_
   . refine hg ?_;exact trivial
   exact sS
 rw [List.take_of_length_le (show s.imports.length<=i by omega)];rw [show s.imports.foldl (fun m x=>updG tgE m (1,x.name) ()) (nm1 s)=nm2 s from rfl];refine hg ?_;refine vi3 [1,2,3,65,66] (fun i:Nat=>[(67,.one (.dat (cI i)))]) (fun i=>[.box ((shtC s).map .dat) (some 31),.box [.dat (.raw (.map none)),.dat (.raw (.map none)),.dat (.raw (.map none))] (some 145),mS (vab s),mS (ytr s),mN ((s.stores.take i).foldl (fun m x=>updG tgE (updG tgE m (2,x.name) ()) (6,x.name) ()) (nm2 s)),itB 2 3 4])
  (fun i=>i<=s.stores.length) (fun i=>s.stores.length-i) 0 (Nat.zero_le _) ?_ ?_
 . refine hg ?_;exact sS
 intro i hi;refine hg ?_;refine vdi (fun hlt _=>?_) (fun hlt _=>?_)
 . have hlt':i<s.stores.length:=by omega
   have hU0:=w3d (f:=fun m x=>updG tgE (updG tgE m (2,x.name) ()) (6,x.name) ()) (c:=(nm2 s)) hlt';generalize (s.stores.take i).foldl (fun m x=>updG tgE (updG tgE m (2,x.name) ()) (6,x.name) ()) (nm2 s)=d0 at *;refine hg ?_
   repeat' first | refine hF ?_ ?_<;>intros | refine hI ?_
   refine ⟨i+1,by omega,by omega,?_⟩;rw [hU0];refine StH.cutN [1,2,3,65,66,67] 6 rfl ?_ ?_
   . refine hg ?_;exact trivial
   exact sS
 rw [List.take_of_length_le (show s.stores.length<=i by omega)];rw [show s.stores.foldl (fun m x=>updG tgE (updG tgE m (2,x.name) ()) (6,x.name) ()) (nm2 s)=nm3 s from rfl];refine hg ?_;refine vi3 [1,2,3,83,84] (fun i:Nat=>[(85,.one (.dat (cI i)))]) (fun i=>[.box ((shtC s).map .dat) (some 31),.box [.dat (.raw (.map none)),.dat (.raw (.map none)),.dat (.raw (.map none))] (some 145),mS (vab s),mS (ytr s),mN ((s.ports.take i).foldl (fun m x=>updG tgE m (5,x.name) ()) (nm3 s)),itB 2 3 4])
  (fun i=>i<=s.ports.length) (fun i=>s.ports.length-i) 0 (Nat.zero_le _) ?_ ?_
 . refine hg ?_;exact sS
 intro i hi;refine hg ?_;refine vdi (fun hlt _=>?_) (fun hlt _=>?_)
 . have hlt':i<s.ports.length:=by omega
   have hU0:=w3d (f:=fun m x=>updG tgE m (5,x.name) ()) (c:=(nm3 s)) hlt';generalize (s.ports.take i).foldl (fun m x=>updG tgE m (5,x.name) ()) (nm3 s)=d0 at *;refine hg ?_
   repeat' first | refine hF ?_ ?_<;>intros | refine hI ?_
   refine ⟨i+1,by omega,by omega,?_⟩;rw [hU0];refine StH.cutN [1,2,3,83,84,85] 6 rfl ?_ ?_
   . refine hg ?_;exact trivial
   exact sS
 rw [List.take_of_length_le (show s.ports.length<=i by omega)];rw [show s.ports.foldl (fun m x=>updG tgE m (5,x.name) ()) (nm3 s)=vfj s from rfl];refine hg ?_
 repeat' first | refine hF ?_ ?_<;>intros | refine hI ?_
 refine StH.cutN [0] 5 rfl ?_ ?_
 . refine hg ?_;exact trivial
 exact sS
end Go.Hp.T
namespace Go.Hp
open Go Go.RowKit Go.Slot
variable {P:Program} {Γ:List (Nat×List Cell)}
theorem z00.roN (φ:List Nat) {f:FuncId} {η ηs:List SB} {args:List SV} {res:SV} (h:z00 Γ P f ηs args ηs res) (hn:φ.Nodup) (hb:(φ.all fun j=>Nat.blt j η.length)=true) (hp:φ.map (fun j=>η[j]?)=ηs.map (fun x=>some (rnSB (atR φ η.length) x))) :
 z00 Γ P f η (args.map (wi2 (atR φ η.length))) η (rnSV (atR φ η.length) res):=by
 have hb':∀ j∈φ,j<η.length:=fun j hj=>by simpa using List.all_eq_true.1 hb j hj
 have hk:=y71.of hp;have hc:=z00.frame hn hb' hk (by rw [hk.1];exact Nat.le_refl _) h
 have hput:putR φ η ηs=η:=by
  apply List.ext_getElem?;intro i;by_cases hi2:i<η.length
  . by_cases hi:i∈φ
    . obtain ⟨k,hk2,rfl⟩:=List.getElem_of_mem hi
      have hkl:k<ηs.length:=by rw [hk.1];exact hk2
      have h1:=v2x (ηs':=ηs) hn hb' (List.getElem?_eq_getElem hkl);rw [v27 (List.getElem?_eq_getElem hk2)] at h1;rw [h1];have h2:=congrArg (fun l=>l[k]?) hp;simp only [List.getElem?_map,List.getElem?_eq_getElem hk2,List.getElem?_eq_getElem hkl,Option.map_some] at h2;exact (Option.some.inj h2).symm
    . exact xk9 hi2 hi
  . rw [List.getElem?_eq_none (by rw [xu9,hk.1];omega),List.getElem?_eq_none (by omega)]
 rw [hput] at hc;exact hc
theorem z00.preN {f:FuncId} {ηs ξ:List SB} {args:List SV} {res:SV} (h:z00 Γ P f ηs args ηs res) (hs:∀ r:Nat->Nat,(∀ i,i<ηs.length->r i=i)->ηs.map (rnSB r)=ηs) (ha:args.map (wi2 (atR (List.range ηs.length) (ηs++ξ).length))=args) (hr:rnSV (atR (List.range ηs.length) (ηs++ξ).length) res=res):z00 Γ P f (ηs++ξ) args (ηs++ξ) res:=by
 have hc:=z00.roN (List.range ηs.length) (η:=ηs++ξ) h List.nodup_range (List.all_eq_true.2 fun j hj=>by
  rw [List.mem_range] at hj
  simp only [List.length_append,Nat.blt_eq];omega) (by
  apply List.ext_getElem?;intro i;by_cases hi:i<ηs.length
  . have h1:=congrArg (fun l=>l[i]?) (hs _ (fun i hi=>xen (N:=(ηs++ξ).length) hi));simp only [List.getElem?_map,List.getElem?_eq_getElem hi,Option.map_some,Option.some.injEq] at h1;simp only [List.getElem?_map,List.getElem?_range hi,List.getElem?_eq_getElem hi,Option.map_some,List.getElem?_append_left hi,h1]
  . simp [List.getElem?_eq_none (show ηs.length<=i by omega)];omega)
 rw [ha,hr] at hc;exact hc
end Go.Hp
namespace Go.Hp.T
open Go Go.RowKit Go.Slot Go.Hp Go.Slot.T
open Go.Proofs.Tryz
attribute [local irreducible] hide RH
set_option maxRecDepth 10000
set_option maxHeartbeats 8000000
variable {Γ:List (Nat×List Cell)}
attribute [go_sem] kEq0
def yhk (s:ByteArray):Bool:=decide (dmO (xe6 s).1=Dm.zero)
theorem xu3 (s:ByteArray) (hs:s.size<=1073741824):CallsD Γ prog 130 [.one (cS s)] (.one (cB (yhk s))):=by
 have h1:=ymc (Γ:=Γ) s hs;unfold yhk;generalize xe6 s=r at *;refine hE [] func130 f130.eq_1 ?_
 repeat' first | refine hF ?_ ?_<;>intros | refine hI ?_ | (with_reducible first | refine w5a (h1) ?_ | refine xqd (h1) ?_)<;>refine hgS ?_
 all_goals refine lfE ?_;first | exact trivial | rfl
def ydl (C:Ms) (w:ByteArray):ByteArray:=(yvz C w).getD ⟨#[]⟩
def badW (C:Ms) (w:ByteArray):Bool:=!yhk (ydl C w)
abbrev wB (C I:Ms) (N:Mn):List SB:=[mS C,mS I,mN N,itB 0 1 2]
theorem wx5 (C I:Ms) (N:Mn) (w:ByteArray) (hC:∀ s u,yvz C s=some u->u.size<=1073741824):z00 Γ prog 129 (wB C I N) [.one (.dat (cS w)),.one (.ptr 3 0)] (wB C I N) (.one (.dat (cB (badW C w)))):=by
 unfold badW ydl
 cases hl:yvz C w with
 | none=>
  have h1:=xu3 (Γ:=Γ) ⟨#[]⟩ (by decide);rw [Option.getD_none];generalize yhk ⟨#[]⟩=b at *;refine hEh [] func129 f129.eq_1 ?_
  repeat' first | refine hF ?_ ?_<;>intros | refine hI ?_
  refine hg1 @hl ?_
  repeat' first | refine hF ?_ ?_<;>intros | refine hI ?_ | (with_reducible first | refine w5a (h1) ?_ | refine xqd (h1) ?_)<;>refine hgS ?_
  exact StH.same svl (by simp [*])
 | some u=>
  have h1:=xu3 (Γ:=Γ) u (hC w u hl);rw [Option.getD_some];generalize yhk u=b at *;refine hEh [] func129 f129.eq_1 ?_
  repeat' first | refine hF ?_ ?_<;>intros | refine hI ?_
  refine hg1 @hl ?_
  repeat' first | refine hF ?_ ?_<;>intros | refine hI ?_ | (with_reducible first | refine w5a (h1) ?_ | refine xqd (h1) ?_)<;>refine hgS ?_
  exact StH.same svl (by simp [*])
theorem xyu (C I:Ms) (N:Mn):∀ r:Nat->Nat,(∀ i,i<(wB C I N).length->r i=i)->(wB C I N).map (rnSB r)=wB C I N:=fun r hr=>by
 show [rnSB r (mS C),rnSB r (mS I),rnSB r (mN N),SB.box [.mp (r 0),.mp (r 1),.mp (r 2)] (some 145)]=_;rw [hr 0 (by show 0<4;decide),hr 1 (by show 1<4;decide),hr 2 (by show 2<4;decide),yk0,yk0,ypi]
theorem vby (l:List ByteArray) (C I:Ms) (N:Mn) (hl:l.length<=1073741824) (hC:∀ s u,yvz C s=some u->u.size<=1073741824) :
 z00 Γ prog 166 (wB C I N++[.clo 129 [.one (.ptr 3 0)]]) [.one (.dat (.sl 1 (l.map fun s=>[cS s]))),.one (.fnr 4)] (wB C I N++[.clo 129 [.one (.ptr 3 0)]]) (.one (.dat (cI (idxF (badW C) l)))):=by
 refine hEh [] func166 f166.eq_1 ?_;refine vi3 [0,1,7] (fun i:Nat=>[(8,.one (.dat (cI i)))]) (fun _=>wB C I N++[.clo 129 [.one (.ptr 3 0)]]) (fun i=>i<=l.length/\∀ j,j<i->(badW C) (l.getD j default)=false) (fun i=>l.length-i) 0 ⟨Nat.zero_le _,fun j hj=>by omega⟩ ?_ ?_
 . refine hg ?_;exact sS
 intro i hi;obtain ⟨hi,hj⟩:=hi;refine hg ?_;refine vdi (fun hlt _=>?_) (fun hlt _=>?_)
 . have hlt':i<l.length:=by omega
   have hy:=vdv hlt';have hb:=wx5 (Γ:=Γ) C I N (l.getD i default) hC;refine hg ?_
   repeat' first | refine hF ?_ ?_<;>intros | refine hI ?_
   refine xmm (z00.preN (ξ:=[.clo 129 [.one (.ptr 3 0)]]) hb (xyu C I N) rfl rfl) ?_;generalize hp:(badW C) (l.getD i default)=q at *;clear hb;refine hg ?_
   repeat' first | refine hF ?_ ?_<;>intros | refine hI ?_
   . rename_i hq;rw [(v04 hi hj).2 hlt' (by rw [hp];exact hq)];exact sS
   . rename_i hq;exact ⟨i+1,⟨by omega,za5 hj (by rw [hp];simpa using hq)⟩,by omega,sS⟩
 . rw [(v04 hi hj).1 (by omega)];refine hg ?_
   repeat' first | refine hF ?_ ?_<;>intros | refine hI ?_
   exact sS
theorem xto (l:List ByteArray) (C I:Ms) (N:Mn) (hl:l.length<=1073741824) (hC:∀ s u,yvz C s=some u->u.size<=1073741824) :
 z00 Γ prog 128 (wB C I N++[.clo 129 [.one (.ptr 3 0)]]) [.one (.dat (.sl 1 (l.map fun s=>[cS s]))),.one (.fnr 4)] (wB C I N++[.clo 129 [.one (.ptr 3 0)]]) (.one (.dat (cB (l.any (badW C))))):=by
 have h:=vby (Γ:=Γ) l C I N hl hC;refine hEh [] func128 f128.eq_1 ?_
 repeat' first | refine hF ?_ ?_<;>intros | refine hI ?_
 refine xmm h ?_;clear h;refine hg ?_
 repeat' first | refine hF ?_ ?_<;>intros | refine hI ?_
 exact StH.same (by rw [<-vx3];exact .cons (.refl _) .nil) rfl
end Go.Hp.T
