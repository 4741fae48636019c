/- The proof, part Q27: 5c, 5d, Lg, Ys, 3a, 6a. -/
import Derived.Test.YtkbkjjahlafhoaaGreatDoorQ17
import Derived.Test.YtkbkjjahlafhoaaGreatDoorQ26
import Derived.Test.YtkbkjjahlafhoaaGreatDoorQ20
import Derived.Test.YtkbkjjahlafhoaaGreatDoorQ16
namespace Go.Hp.T
open Go Go.RowKit Go.Slot Go.Hp Go.Slot.T
open Go.Proofs.Tryz
variable {α:Type} {c:Scu} {i:Nat}
attribute [local irreducible] hide RH
set_option maxRecDepth 10000
set_option maxHeartbeats 8000000
variable {Γ:List (Nat×List Cell)}
def impU (x:Imp):Us:=(x.name,vn0 x.unit,amtS x.amount&&(decide (0<=x.house)&&(decide (x.house<400)&&(decide (0<=x.version)&&(decide (x.version<=2000)&&wtn x.port)))))
def inpU (x:Inp):Us:=(x.name,vn0 x.unit,seq x.kind ⟨#[]⟩||wtn x.kind)
def porU (x:Por):Us:=(x.name,vn0 x.unit,amtS x.amount)
def stoU (x:Sto):Us:=(x.name,vn0 x.unit,decide (0<=x.rule)&&decide (x.rule<3))
def tabU (x:Tb):Us:=(x.name,true,wzd (fun s=>(vup s).2) x)
def fncU (x:Fnc):Us:=(x.name,!x.params.any (fun p=>!wtn p.name||!vn0 p.unit),decide (1<=(x.params.length:Int))&&(decide ((x.params.length:Int)<=6)&&xnq x.body))
def celU (x:Cel):Us:=(x.name,vn0 x.unit,xnq x.x)
def yvi {α:Type} (U:α->Us) (l:List α) (c:Scu):Scu:=l.foldl (fun c x=>useM c (U x)) c
theorem xp2 [Inhabited α] {U:α->Us} {l:List α} (h:i<l.length):yvi U (l.take (i+1)) c=useM (yvi U (l.take i) c) (U (l.getD i default)):=by
 unfold yvi;rw [List.take_succ_eq_append_getElem h,List.foldl_append,List.getD_eq_getElem?_getD,List.getElem?_eq_getElem h];rfl
theorem w04 {U:α->Us} {l:List α} (h:l.length<=i):yvi U (l.take i) c=yvi U l c:=by rw [List.take_of_length_le h]
def xye (s:Sht) (c:Scu):Scu:=yvi stoU s.stores (yvi porU s.ports (yvi inpU s.inputs (yvi impU s.imports c)))
def xlo (s:Sht) (c:Scu):Scu:=yvi celU s.cells (yvi fncU s.funcs (yvi tabU s.tables c))
structure Sht.Sm (s:Sht):Prop where
 nm:s.name.size<=1073741824
 il:s.imports.length<=1073741824
 nl:s.inputs.length<=1073741824
 tl:s.tables.length<=1073741824
 fl:s.funcs.length<=1073741824
 cl:s.cells.length<=1073741824
 pl:s.ports.length<=1073741824
 sl:s.stores.length<=1073741824
 rl:s.recipes.length<=1073741824
 i:∀ x∈s.imports,x.name.size<=1073741824/\x.unit.size<=1073741824/\x.port.size<=1073741824
 n:∀ x∈s.inputs,x.name.size<=1073741824/\x.unit.size<=1073741824/\x.kind.size<=1073741824
 t:∀ x∈s.tables,x.Sm
 f:∀ x∈s.funcs,x.name.size<=1073741824/\x.params.length<=1073741824/\(∀ y∈x.params,y.name.size<=1073741824/\y.unit.size<=1073741824)/\x.body.Sm
 c:∀ x∈s.cells,x.name.size<=1073741824/\x.unit.size<=1073741824/\x.x.Sm
 p:∀ x∈s.ports,x.name.size<=1073741824/\x.unit.size<=1073741824
 o:∀ x∈s.stores,x.name.size<=1073741824/\x.unit.size<=1073741824
 r:∀ x∈s.recipes,x.kind.size<=1073741824/\x.steps.length<=1073741824/\∀ y∈x.steps,y.Sm
theorem v39 (c:Scu) (l:List SB):[0,1].map (fun j=>(scBs c++l)[j]?)=(scBs c).map (fun x=>some (rnSB (atR [0,1] (scBs c++l).length) x)):=by
 show [some (scB c.1),some (mU c.2)]=[some (rnSB _ (scB c.1)),some (rnSB _ (mU c.2))];rw [wyc];rfl
theorem zyq (c d:Scu) (l:List SB):putR [0,1] (scBs c++l) (scBs d)=appL [(0,scB d.1),(1,mU d.2)] (scBs c++l):=by
 unfold putR;show appL [(0,rnSB _ (scB d.1)),(1,rnSB _ (mU d.2))] _++[]=_;rw [wyc,List.append_nil];rfl
theorem x2j (s:Sht) (hs:s.Sm) (c:Scu):xbh Γ prog 52 (scBs c) [.one (.ptr 0 0),.agg ((shtC s).map .dat)] (scBs (xye s c)) (.tup []):=by
 unfold xye;refine hEh [] func52 f52.eq_1 ?_;refine wf5 [0,3,13,14] (fun i:Nat=>[(15,.one (.dat (cI i)))]) (fun i=>scBs (yvi impU (s.imports.take i) c)++[.box ((shtC s).map .dat) (some 31)])
  (fun i=>i<=s.imports.length) (fun i=>s.imports.length-i) 0 (Nat.zero_le _) ?_ ?_
 . refine hg ?_;exact sS
 intro i hi;have hsl:=hs.il;refine hg ?_;refine y8g (fun hlt _=>?_) (fun hlt _=>?_)
 . have hlt':i<s.imports.length:=by omega
   have hy:=hs.i _ (z1y hlt');have hU:=xp2 (U:=impU) (c:=c) hlt';clear hs;have c1:=xv5 (Γ:=Γ) (s.imports.getD i default).unit hy.2.1;have c2:=wlx (Γ:=Γ) (s.imports.getD i default).amount;have c3:=vun (Γ:=Γ) (s.imports.getD i default).port hy.2.2;generalize yvi impU (s.imports.take i) c=d at *;refine hg ?_
   repeat' first|refine hF ?_ ?_<;>intros|(with_reducible first|refine y04 c1 ?_|refine y04 c2 ?_|refine y04 c3 ?_)<;>refine hgS ?_
   all_goals generalize s.imports.getD i default=x at *
   all_goals first
    | (have hE:impU x=(x.name,vn0 x.unit,false):=by simp [impU, *]
       rw [hE] at hU;refine wlt [0,1] [(0,scB (useM d (x.name,vn0 x.unit,false)).1),(1,mU (useM d (x.name,vn0 x.unit,false)).2)] (cUse d _ _ _ hy.1) rfl (by decide) rfl (v39 d _) rfl (zyq d _ _) ?_;refine hg ?_
       repeat' refine hI ?_
       refine ⟨i+1,by omega,by omega,?_⟩;rw [hU];refine StH.cutN [0,3,13,14,15] 3 rfl ?_ ?_
       . refine hg ?_;exact trivial
       exact sS)
    | (have hE:impU x=(x.name,vn0 x.unit,wtn x.port):=by simp [impU, *]
       rw [hE] at hU;refine wlt [0,1] [(0,scB (useM d (x.name,vn0 x.unit,wtn x.port)).1),(1,mU (useM d (x.name,vn0 x.unit,wtn x.port)).2)] (cUse d _ _ _ hy.1) rfl (by decide) rfl (v39 d _) rfl (zyq d _ _) ?_;refine hg ?_;refine hI ?_;refine ⟨i+1,by omega,by omega,?_⟩;rw [hU];refine StH.cutN [0,3,13,14,15] 3 rfl ?_ ?_
       . refine hg ?_;exact trivial
       exact sS)
 rw [w04 (show s.imports.length<=i by omega)];refine hg ?_;refine wf5 [0,3,56,57] (fun i:Nat=>[(58,.one (.dat (cI i)))]) (fun i=>scBs (yvi inpU (s.inputs.take i) (yvi impU s.imports c))++[.box ((shtC s).map .dat) (some 31)])
  (fun i=>i<=s.inputs.length) (fun i=>s.inputs.length-i) 0 (Nat.zero_le _) ?_ ?_
 . refine hg ?_;exact sS
 intro i hi;have hsl:=hs.nl;refine hg ?_;refine y8g (fun hlt _=>?_) (fun hlt _=>?_)
 . have hlt':i<s.inputs.length:=by omega
   have hy:=hs.n _ (z1y hlt');have hU:=xp2 (U:=inpU) (c:=(yvi impU s.imports c)) hlt';clear hs;have c1:=xv5 (Γ:=Γ) (s.inputs.getD i default).unit hy.2.1;have c2:=vun (Γ:=Γ) (s.inputs.getD i default).kind hy.2.2;generalize yvi inpU (s.inputs.take i) (yvi impU s.imports c)=d at *;refine hg ?_
   repeat' first|refine hF ?_ ?_<;>intros|(with_reducible first|refine y04 c1 ?_|refine y04 c2 ?_)<;>refine hgS ?_
   all_goals generalize s.inputs.getD i default=x at *
   all_goals first
    | (have hE:inpU x=(x.name,vn0 x.unit,true):=by simp [inpU,zlf, *]
       rw [hE] at hU;refine wlt [0,1] [(0,scB (useM d (x.name,vn0 x.unit,true)).1),(1,mU (useM d (x.name,vn0 x.unit,true)).2)] (cUse d _ _ _ hy.1) rfl (by decide) rfl (v39 d _) rfl (zyq d _ _) ?_;refine hg ?_;refine hI ?_;refine ⟨i+1,by omega,by omega,?_⟩;rw [hU];refine StH.cutN [0,3,56,57,58] 3 rfl ?_ ?_
       . refine hg ?_;exact trivial
       exact sS)
    | (have hE:inpU x=(x.name,vn0 x.unit,wtn x.kind):=by simp [inpU,zlf, *]
       rw [hE] at hU;refine wlt [0,1] [(0,scB (useM d (x.name,vn0 x.unit,wtn x.kind)).1),(1,mU (useM d (x.name,vn0 x.unit,wtn x.kind)).2)] (cUse d _ _ _ hy.1) rfl (by decide) rfl (v39 d _) rfl (zyq d _ _) ?_;refine hg ?_;refine hI ?_;refine ⟨i+1,by omega,by omega,?_⟩;rw [hU];refine StH.cutN [0,3,56,57,58] 3 rfl ?_ ?_
       . refine hg ?_;exact trivial
       exact sS)
 rw [w04 (show s.inputs.length<=i by omega)];refine hg ?_;refine wf5 [0,3,79,80] (fun i:Nat=>[(81,.one (.dat (cI i)))]) (fun i=>scBs (yvi porU (s.ports.take i) (yvi inpU s.inputs (yvi impU s.imports c)))++[.box ((shtC s).map .dat) (some 31)])
  (fun i=>i<=s.ports.length) (fun i=>s.ports.length-i) 0 (Nat.zero_le _) ?_ ?_
 . refine hg ?_;exact sS
 intro i hi;have hsl:=hs.pl;refine hg ?_;refine y8g (fun hlt _=>?_) (fun hlt _=>?_)
 . have hlt':i<s.ports.length:=by omega
   have hy:=hs.p _ (z1y hlt');have hU:=xp2 (U:=porU) (c:=(yvi inpU s.inputs (yvi impU s.imports c))) hlt';clear hs;have c1:=xv5 (Γ:=Γ) (s.ports.getD i default).unit hy.2;have c2:=wlx (Γ:=Γ) (s.ports.getD i default).amount;generalize yvi porU (s.ports.take i) (yvi inpU s.inputs (yvi impU s.imports c))=d at *;refine hg ?_
   repeat' ((with_reducible first|refine y04 c1 ?_|refine y04 c2 ?_)<;>refine hgS ?_)
   all_goals generalize s.ports.getD i default=x at *
   all_goals first
    | (have hE:porU x=(x.name,vn0 x.unit,amtS x.amount):=by simp [porU, *]
       rw [hE] at hU;refine wlt [0,1] [(0,scB (useM d (x.name,vn0 x.unit,amtS x.amount)).1),(1,mU (useM d (x.name,vn0 x.unit,amtS x.amount)).2)] (cUse d _ _ _ hy.1) rfl (by decide) rfl (v39 d _) rfl (zyq d _ _) ?_;refine hg ?_;refine hI ?_;refine ⟨i+1,by omega,by omega,?_⟩;rw [hU];refine StH.cutN [0,3,79,80,81] 3 rfl ?_ ?_
       . refine hg ?_;exact trivial
       exact sS)
 rw [w04 (show s.ports.length<=i by omega)];refine hg ?_;refine wf5 [0,97,98] (fun i:Nat=>[(99,.one (.dat (cI i)))]) (fun i=>scBs (yvi stoU (s.stores.take i) (yvi porU s.ports (yvi inpU s.inputs (yvi impU s.imports c))))++[.box ((shtC s).map .dat) (some 31)])
  (fun i=>i<=s.stores.length) (fun i=>s.stores.length-i) 0 (Nat.zero_le _) ?_ ?_
 . refine hg ?_;exact sS
 intro i hi;have hsl:=hs.sl;refine hg ?_;refine y8g (fun hlt _=>?_) (fun hlt _=>?_)
 . have hlt':i<s.stores.length:=by omega
   have hy:=hs.o _ (z1y hlt');have hU:=xp2 (U:=stoU) (c:=(yvi porU s.ports (yvi inpU s.inputs (yvi impU s.imports c)))) hlt';clear hs;have c1:=xv5 (Γ:=Γ) (s.stores.getD i default).unit hy.2;generalize yvi stoU (s.stores.take i) (yvi porU s.ports (yvi inpU s.inputs (yvi impU s.imports c)))=d at *;refine hg ?_
   repeat' first|refine hF ?_ ?_<;>intros|(with_reducible refine y04 c1 ?_)<;>refine hgS ?_
   all_goals generalize s.stores.getD i default=x at *
   all_goals first
    | (have hE:stoU x=(x.name,vn0 x.unit,false):=by simp [stoU, *]
       rw [hE] at hU;refine wlt [0,1] [(0,scB (useM d (x.name,vn0 x.unit,false)).1),(1,mU (useM d (x.name,vn0 x.unit,false)).2)] (cUse d _ _ _ hy.1) rfl (by decide) rfl (v39 d _) rfl (zyq d _ _) ?_;refine hg ?_;refine hI ?_;refine ⟨i+1,by omega,by omega,?_⟩;rw [hU];refine StH.cutN [0,97,98,99] 3 rfl ?_ ?_
       . refine hg ?_;exact trivial
       exact sS)
    | (have hE:stoU x=(x.name,vn0 x.unit,decide (x.rule<3)):=by simp [stoU, *]
       rw [hE] at hU;refine wlt [0,1] [(0,scB (useM d (x.name,vn0 x.unit,decide (x.rule<3))).1),(1,mU (useM d (x.name,vn0 x.unit,decide (x.rule<3))).2)] (cUse d _ _ _ hy.1) rfl (by decide) rfl (v39 d _) rfl (zyq d _ _) ?_;refine hg ?_;refine hI ?_;refine ⟨i+1,by omega,by omega,?_⟩;rw [hU];refine StH.cutN [0,97,98,99] 3 rfl ?_ ?_
       . refine hg ?_;exact trivial
       exact sS)
 rw [w04 (show s.stores.length<=i by omega)];refine hg ?_;refine StH.cutN [0] 2 rfl ?_ ?_
 . refine hg ?_;exact trivial
 exact sS
theorem xz8 (x:Prm) (h1:x.name.size<=1073741824) (h2:x.unit.size<=1073741824):CallsD Γ prog 104 [.agg (prmC x)] (.one (cB (!wtn x.name||!vn0 x.unit))):=by
 have c1:=vun (Γ:=Γ) x.name h1;have c2:=xv5 (Γ:=Γ) x.unit h2;generalize wtn x.name=b1 at *;generalize vn0 x.unit=b2 at *;refine hE [] func104 f104.eq_1 ?_
 repeat' first|refine hF ?_ ?_<;>intros|(with_reducible first|refine wdy c1 ?_|refine wdy c2 ?_)<;>refine hgS ?_
 all_goals refine lfE ?_;first | exact trivial | rfl
theorem yq8 (s:Sht) (hs:s.Sm) (c:Scu):xbh Γ prog 53 (scBs c) [.one (.ptr 0 0),.agg ((shtC s).map .dat)] (scBs (xlo s c)) (.tup []):=by
 unfold xlo;refine hEh [] func53 f53.eq_1 ?_;refine wf5 [0,3,12,13] (fun i:Nat=>[(14,.one (.dat (cI i)))]) (fun i=>scBs (yvi tabU (s.tables.take i) c)++[.box ((shtC s).map .dat) (some 31)])
  (fun i=>i<=s.tables.length) (fun i=>s.tables.length-i) 0 (Nat.zero_le _) ?_ ?_
 . refine hg ?_;exact sS
 intro i hi;have hsl:=hs.tl;refine hg ?_;refine y8g (fun hlt _=>?_) (fun hlt _=>?_)
 . have hlt':i<s.tables.length:=by omega
   have hy:=hs.t _ (z1y hlt');have hU:=xp2 (U:=tabU) (c:=c) hlt';clear hs;have c1:=v1q (Γ:=Γ) (s.tables.getD i default) hy.n hy.u hy.r;generalize yvi tabU (s.tables.take i) c=d at *;refine hg ?_
   (with_reducible refine y04 c1 ?_)<;>refine hgS ?_
   all_goals generalize s.tables.getD i default=x at *
   all_goals first
    | (have hE:tabU x=(x.name,true,wzd (fun s=>(vup s).2) x):=by simp [tabU, *]
       rw [hE] at hU;refine wlt [0,1] [(0,scB (useM d (x.name,true,wzd (fun s=>(vup s).2) x)).1),(1,mU (useM d (x.name,true,wzd (fun s=>(vup s).2) x)).2)] (cUse d _ _ _ hy.n) rfl (by decide) rfl (v39 d _) rfl (zyq d _ _) ?_;refine hg ?_;refine hI ?_;refine ⟨i+1,by omega,by omega,?_⟩;rw [hU];refine StH.cutN [0,3,12,13,14] 3 rfl ?_ ?_
       . refine hg ?_;exact trivial
       exact sS)
 rw [w04 (show s.tables.length<=i by omega)];refine hg ?_;refine wf5 [0,3,26,27] (fun i:Nat=>[(28,.one (.dat (cI i)))]) (fun i=>scBs (yvi fncU (s.funcs.take i) (yvi tabU s.tables c))++[.box ((shtC s).map .dat) (some 31)])
  (fun i=>i<=s.funcs.length) (fun i=>s.funcs.length-i) 0 (Nat.zero_le _) ?_ ?_
 . refine hg ?_;exact sS
 intro i hi;have hsl:=hs.fl;refine hg ?_;refine y8g (fun hlt _=>?_) (fun hlt _=>?_)
 . have hlt':i<s.funcs.length:=by omega
   have hy:=hs.f _ (z1y hlt');have hU:=xp2 (U:=fncU) (c:=(yvi tabU s.tables c)) hlt';clear hs;have c1:=woj (Γ:=Γ) (s.funcs.getD i default).params 104 (fun p=>!wtn p.name||!vn0 p.unit) hy.2.1 (fun y hh=>xz8 y (hy.2.2.1 y hh).1 (hy.2.2.1 y hh).2);have c2:=ydl (Γ:=Γ) (s.funcs.getD i default).body hy.2.2.2;generalize yvi fncU (s.funcs.take i) (yvi tabU s.tables c)=d at *;refine hg ?_
   repeat' first|refine hF ?_ ?_<;>intros|(with_reducible first|refine wdy c1 ?_|refine y04 c2 ?_)<;>refine hgS ?_
   all_goals generalize s.funcs.getD i default=x at *
   all_goals first
    | (have hE:fncU x=(x.name,!x.params.any (fun p=>!wtn p.name||!vn0 p.unit),false):=by simp [fncU, *]
       rw [hE] at hU;refine wlt [0,1] [(0,scB (useM d (x.name,!x.params.any (fun p=>!wtn p.name||!vn0 p.unit),false)).1),(1,mU (useM d (x.name,!x.params.any (fun p=>!wtn p.name||!vn0 p.unit),false)).2)] (cUse d _ _ _ hy.1) rfl (by decide) rfl (v39 d _) rfl (zyq d _ _) ?_;refine hg ?_
       repeat' refine hI ?_
       refine ⟨i+1,by omega,by omega,?_⟩;rw [hU];refine StH.cutN [0,3,26,27,28] 3 rfl ?_ ?_
       . refine hg ?_;exact trivial
       exact sS)
    | (have hE:fncU x=(x.name,!x.params.any (fun p=>!wtn p.name||!vn0 p.unit),xnq x.body):=by simp [fncU, *]
       rw [hE] at hU;refine wlt [0,1] [(0,scB (useM d (x.name,!x.params.any (fun p=>!wtn p.name||!vn0 p.unit),xnq x.body)).1),(1,mU (useM d (x.name,!x.params.any (fun p=>!wtn p.name||!vn0 p.unit),xnq x.body)).2)] (cUse d _ _ _ hy.1) rfl (by decide) rfl (v39 d _) rfl (zyq d _ _) ?_;refine hg ?_;refine hI ?_;refine ⟨i+1,by omega,by omega,?_⟩;rw [hU];refine StH.cutN [0,3,26,27,28] 3 rfl ?_ ?_
       . refine hg ?_;exact trivial
       exact sS)
 rw [w04 (show s.funcs.length<=i by omega)];refine hg ?_;refine wf5 [0,58,59] (fun i:Nat=>[(60,.one (.dat (cI i)))]) (fun i=>scBs (yvi celU (s.cells.take i) (yvi fncU s.funcs (yvi tabU s.tables c)))++[.box ((shtC s).map .dat) (some 31)])
  (fun i=>i<=s.cells.length) (fun i=>s.cells.length-i) 0 (Nat.zero_le _) ?_ ?_
 . refine hg ?_;exact sS
 intro i hi;have hsl:=hs.cl;refine hg ?_;refine y8g (fun hlt _=>?_) (fun hlt _=>?_)
 . have hlt':i<s.cells.length:=by omega
   have hy:=hs.c _ (z1y hlt');have hU:=xp2 (U:=celU) (c:=(yvi fncU s.funcs (yvi tabU s.tables c))) hlt';clear hs;have c1:=xv5 (Γ:=Γ) (s.cells.getD i default).unit hy.2.1;have c2:=ydl (Γ:=Γ) (s.cells.getD i default).x hy.2.2;generalize yvi celU (s.cells.take i) (yvi fncU s.funcs (yvi tabU s.tables c))=d at *;refine hg ?_
   repeat' ((with_reducible first|refine y04 c1 ?_|refine y04 c2 ?_)<;>refine hgS ?_)
   all_goals generalize s.cells.getD i default=x at *
   all_goals first
    | (have hE:celU x=(x.name,vn0 x.unit,xnq x.x):=by simp [celU, *]
       rw [hE] at hU;refine wlt [0,1] [(0,scB (useM d (x.name,vn0 x.unit,xnq x.x)).1),(1,mU (useM d (x.name,vn0 x.unit,xnq x.x)).2)] (cUse d _ _ _ hy.1) rfl (by decide) rfl (v39 d _) rfl (zyq d _ _) ?_;refine hg ?_;refine hI ?_;refine ⟨i+1,by omega,by omega,?_⟩;rw [hU];refine StH.cutN [0,58,59,60] 3 rfl ?_ ?_
       . refine hg ?_;exact trivial
       exact sS)
 rw [w04 (show s.cells.length<=i by omega)];refine hg ?_;refine StH.cutN [0] 2 rfl ?_ ?_
 . refine hg ?_;exact trivial
 exact sS
def rcpU (x:Rcp):Us:=(x.kind,true,decide ((x.steps.length:Int)<=100)&&!x.steps.any fun y=>!xn0 y)
def vtb (s:Sht):Bool:=(xlo s (xye s (wtn s.name,[]))).1&&!decide (100<((xlo s (xye s (wtn s.name,[]))).2.length:Int)+s.recipes.length)&&(yvi rcpU s.recipes (true,[])).1
theorem yg1 {α:Type} {s:ByteArray} {v:α}:∀{l:List (ByteArray×α)},(updF l s v).length<=l.length+1
 | []=>Nat.le_refl _
 | p::l=>by
  rw [updF]
  cases seq s p.1 with
  | true=>exact Nat.le_succ _
  | false=>rw [cond_false,List.length_cons,List.length_cons];have:=yg1 (s:=s) (v:=v) (l:=l);omega
theorem zng {α:Type} {U:α->Us}:∀{l:List α} {c:Scu},(yvi U l c).2.length<=c.2.length+l.length
 | [],c=>Nat.le_refl _
 | x::l,c=>by
  have h1:=zng (U:=U) (l:=l) (c:=useM c (U x));have h2:(useM c (U x)).2.length<=c.2.length+1:=yg1;show (yvi U l (useM c (U x))).2.length<=_;rw [List.length_cons];omega
theorem wa5 (x:Stp) (hx:x.Sm):CallsD Γ prog 56 [.agg (stpC x)] (.one (cB (!xn0 x))):=by
 have h:=y5o (Γ:=Γ) x hx;refine hE [] func56 f56.eq_1 ?_
 (with_reducible refine wdy h ?_)<;>refine hgS ?_
 all_goals refine lfE ?_;first | exact trivial | rfl
theorem z4d (a b:Nat) (l _l':List SB) (c:Scu) (h1:(l)[a]? = some (.box [.mp b,.dat (cB c.1)] (some 112))) (h2:l[b]? = some (mU c.2)) (_hab:a≠b):[a,b].map (fun j=>l[j]?)=(scBs c).map (fun x=>some (rnSB (atR [a,b] l.length) x)):=by
 show [l[a]?,l[b]?]=[some (rnSB _ (scB c.1)),some (rnSB _ (mU c.2))];rw [wyc,h1,h2]
 have:atR [a,b] l.length 1=b:=rfl
 show _=[some (SB.box [HC.mp (atR [a,b] l.length 1),_] _),_];rw [this];rfl
theorem ze7 (a b:Nat) (l:List SB) (d:Scu):putR [a,b] l (scBs d)=(l.set a (.box [.mp b,.dat (cB d.1)] (some 112))).set b (mU d.2):=by
 unfold putR;show appL [(a,rnSB (atR [a,b] l.length) (scB d.1)),(b,rnSB _ (mU d.2))] l++[]=_;rw [wyc,List.append_nil];rfl
theorem yc1 (a b:Nat) {f:FuncId} {η:List SB} {d:Scu} {args l:List SV} {K:Bool->List SB->SV->Prop} (h:xbh Γ prog f (scBs c) args (scBs d) (.tup [])) (hl:args.map (xbb (atR [a,b] η.length))=l) (hab:a≠b) (hb:([a,b].all fun j=>Nat.blt j η.length)=true)
 (h1:η[a]? = some (.box [.mp b,.dat (cB c.1)] (some 112))) (h2:η[b]? = some (mU c.2)) (hk:K true ((η.set a (.box [.mp b,.dat (cB d.1)] (some 112))).set b (mU d.2)) (.tup [])):vb3 Γ prog f η l K:=by
 refine yru [a,b] h hl (by simp [hab]) hb (z4d a b η [] c h1 h2 hab) rfl ?_;rw [ze7];exact hk
theorem zjd (s:Sht) (hs:s.Sm):CallsD Γ prog 22 [.agg (shtC s)] (.one (cB (vtb s))):=by
 have h0:=vun (Γ:=Γ) s.name hs.nm
 have hb:(xlo s (xye s (wtn s.name,[]))).2.length<=7516192768:=by
  unfold xlo xye;have a1:=zng (U:=impU) (l:=s.imports) (c:=(wtn s.name,[]));have a2:=zng (U:=inpU) (l:=s.inputs) (c:=yvi impU s.imports (wtn s.name,[]));have a3:=zng (U:=porU) (l:=s.ports) (c:=yvi inpU s.inputs (yvi impU s.imports (wtn s.name,[])));have a4:=zng (U:=stoU) (l:=s.stores) (c:=yvi porU s.ports (yvi inpU s.inputs (yvi impU s.imports (wtn s.name,[]))));generalize yvi stoU s.stores (yvi porU s.ports (yvi inpU s.inputs (yvi impU s.imports (wtn s.name,[]))))=d at *;have b1:=zng (U:=tabU) (l:=s.tables) (c:=d);have b2:=zng (U:=fncU) (l:=s.funcs) (c:=yvi tabU s.tables d);have b3:=zng (U:=celU) (l:=s.cells) (c:=yvi fncU s.funcs (yvi tabU s.tables d))
  have:=hs.il;have:=hs.nl;have:=hs.pl;have:=hs.sl;have:=hs.tl;have:=hs.fl;have:=hs.cl
  have e:((wtn s.name,[]):Scu).2.length=0:=rfl;omega
 have c1:=x2j (Γ:=Γ) s hs (wtn s.name,[]);have c2:=yq8 (Γ:=Γ) s hs (xye s (wtn s.name,[]));have hR:vtb s=((xlo s (xye s (wtn s.name,[]))).1&&!decide (100<((xlo s (xye s (wtn s.name,[]))).2.length:Int)+s.recipes.length)&&(yvi rcpU s.recipes (true,[])).1):=rfl;rw [hR];generalize xlo s (xye s (wtn s.name,[]))=d at *;generalize xye s (wtn s.name,[])=c at *;generalize wtn s.name=f at *;have hrl:=hs.rl;have hr:=hs.r;clear hR hs;refine hE [] func22 f22.eq_1 ?_
 (with_reducible refine wdy h0 ?_)<;>refine hgS ?_
 refine yc1 2 1 c1 rfl (by decide) rfl rfl rfl ?_;refine hg ?_;refine yc1 2 1 c2 rfl (by decide) rfl rfl rfl ?_;refine hg ?_
 repeat' first|refine hF ?_ ?_<;>intros|refine hI ?_
 . exact RLe.ofEq rfl
 . refine wf5 [4,40,41] (fun i:Nat=>[(42,.one (.dat (cI i)))]) (fun i=>[.box ((shtC s).map .dat) (some 31),mU d.2,.box [.mp 1,.dat (cB true)] (some 112),mU (yvi rcpU (s.recipes.take i) (true,[])).2,.box [.mp 3,.dat (cB (yvi rcpU (s.recipes.take i) (true,[])).1)] (some 112)])
    (fun i=>i<=s.recipes.length) (fun i=>s.recipes.length-i) 0 (Nat.zero_le _) ?_ ?_
   . refine hg ?_;exact StH.same svl (by first | rfl | (simp [*];rfl))
   intro i hi;refine hg ?_;refine y8g (fun hlt _=>?_) (fun hlt _=>?_)
   . have hlt':i<s.recipes.length:=by omega
     have hy:=hr _ (z1y hlt');have hU:=xp2 (U:=rcpU) (c:=(true,[])) hlt';have c1:=wzw (Γ:=Γ) (s.recipes.getD i default).steps 56 (fun y=>!xn0 y) hy.2.1 (fun y hh=>wa5 y (hy.2.2 y hh));clear hr;generalize yvi rcpU (s.recipes.take i) (true,[])=q at *;refine hg ?_
     repeat' first|refine hF ?_ ?_<;>intros|(with_reducible refine y04 c1 ?_)<;>refine hgS ?_
     all_goals generalize s.recipes.getD i default=x at *
     all_goals first
     | (have hE:rcpU x=(x.kind,true,!x.steps.any fun y=>!xn0 y):=by simp [rcpU, *]
        rw [hE] at hU;refine wlt [4,3] [(4,.box [.mp 3,.dat (cB (useM q (x.kind,true,!x.steps.any fun y=>!xn0 y)).1)] (some 112)),(3,mU (useM q (x.kind,true,!x.steps.any fun y=>!xn0 y)).2)] (cUse q _ _ _ hy.1) rfl (by decide) rfl (z4d 4 3 _ [] q rfl rfl (by decide)) rfl (ze7 4 3 _ _) ?_;refine hg ?_;refine hI ?_;refine ⟨i+1,by omega,by omega,?_⟩;rw [hU];refine StH.cutN [4,40,41,42] 5 rfl ?_ ?_
        . refine hg ?_;exact trivial
        exact sS)
     | (have hE:rcpU x=(x.kind,true,false):=by simp [rcpU, *]
        rw [hE] at hU;refine wlt [4,3] [(4,.box [.mp 3,.dat (cB (useM q (x.kind,true,false)).1)] (some 112)),(3,mU (useM q (x.kind,true,false)).2)] (cUse q _ _ _ hy.1) rfl (by decide) rfl (z4d 4 3 _ [] q rfl rfl (by decide)) rfl (ze7 4 3 _ _) ?_;refine hg ?_;refine hI ?_;refine ⟨i+1,by omega,by omega,?_⟩;rw [hU];refine StH.cutN [4,40,41,42] 5 rfl ?_ ?_
        . refine hg ?_;exact trivial
        exact sS)
   rw [w04 (show s.recipes.length<=i by omega)];refine hg ?_
   all_goals refine lfE ?_;first | exact trivial | rfl
 . exact RLe.ofEq rfl
end Go.Hp.T
namespace Go.Slot
open Go Go.RowKit Go.Slot.T
variable {i:Nat}
structure Sc where
 low:Fc
 high:Fc
namespace Sc
def C (s:Sc):List Cell:=[.raw (.int .i64 s.low.s),.ints .i64 s.low.L,.raw (.int .i64 s.low.t),.ints .i64 s.low.M,.raw (.int .i64 s.high.s),.ints .i64 s.high.L,.raw (.int .i64 s.high.t),.ints .i64 s.high.M]
theorem C_eq {s:Sc}:s.C=[.raw (.int .i64 s.low.s),.ints .i64 s.low.L,.raw (.int .i64 s.low.t),.ints .i64 s.low.M,.raw (.int .i64 s.high.s),.ints .i64 s.high.L,.raw (.int .i64 s.high.t),.ints .i64 s.high.M]:=_root_.id rfl
def ok (s:Sc):Prop:=s.low.ok/\s.high.ok/\Fc.cmp s.low s.high<=0
instance (s:Sc):Decidable s.ok:=inferInstanceAs (Decidable (_/\_))
def zero:Sc:=⟨Fc.zero,Fc.zero⟩
def sz (s:Sc):Nat:=max s.low.sz s.high.sz
instance:DecidableEq Sc:=fun a b=>decidable_of_iff (a.low=b.low/\a.high=b.high) ⟨fun h=>by cases a;cases b;simp at h;simp [h],fun h=>by rw [h];exact ⟨rfl,rfl⟩⟩
theorem yjv {s:Sc} {n:Nat} (h:s.sz<=n):s.low.sz<=n/\s.high.sz<=n:=by unfold sz at h;omega
end Sc
theorem rowF {l:List Fc} (h:i<l.length):(l.map Fc.C).getD i []=(l.getD i Fc.zero).C:=by
 simp [h]
theorem rowS {l:List Sc} (h:i<l.length):(l.map Sc.C).getD i []=(l.getD i Sc.zero).C:=by
 simp [h]
attribute [go_sem] Sc.C_eq rowF rowS
def idxJ {α:Type} (p:α->Bool):List α->Int->Int
 | [],_=>-1
 | f::r,i=>if p f=true then i else idxJ p r (i+1)
theorem wkk {α:Type} (p:α->Bool):∀(l:List α) (i:Int),0<=i->decide (0<=idxJ p l i)=l.any p
 | [],i,_=>by simp [idxJ]
 | f::r,i,h=>by
  unfold idxJ;by_cases hp:p f=true
  . rw [if_pos hp,List.any_cons,hp,decide_eq_true h];rfl
  . have hp':p f=false:=by simpa using hp
    rw [if_neg hp,wkk p r (i+1) (by omega),List.any_cons,hp',Bool.false_or]
theorem drop_cons {α:Type} {l:List α} (d:α) (h:i<l.length):l.drop i=l.getD i d::l.drop (i+1):=by
 rw [List.drop_eq_getElem_cons h];simp [h]
end Go.Slot
namespace Go.Hp.T
open Go Go.RowKit Go.Slot Go.Hp Go.Slot.T
open Go.Proofs.Tryz
attribute [local irreducible] hide RH
set_option maxRecDepth 10000
set_option maxHeartbeats 8000000
variable {Γ:List (Nat×List Cell)}
theorem wge (f:Fc) (h:f.sz<=268435456) (hb:f.ok):CallsD Γ prog 16 [.agg f.C] (.one (.raw (.bool true))):=by
 have:=z1q (Γ:=Γ) f h
 rwa [decide_eq_true hb] at this
theorem wj7 (g:FuncId) (p:Fc->Bool) (l:List Fc) (hl:l.length<=1099511627776) (hgg:∀ i,i<l.length->CallsD Γ prog g [.agg (l.getD i Fc.zero).C] (.one (.raw (.bool (p (l.getD i Fc.zero)))))) :
 CallsD Γ prog 84 [.one (.sl 4 (l.map Fc.C)),.one (.raw (.func (.func g) #[] #[]))] (.one (.raw (.int .i64 (idxJ p l 0)))):=by
 refine hE [] func84 f84.eq_1 ?_;refine wf5 [0,1,7] (fun i:Nat=>[(8,.one (.dat (cI (i))))]) (fun _=>[]) (fun i=>i<=l.length/\idxJ p l 0=idxJ p (l.drop i) i) (fun i=>l.length-i) 0 ⟨Nat.zero_le _,rfl⟩ ?_ ?_
 . refine hg ?_;exact sS
 rintro i ⟨hi,he⟩;refine hg ?_;refine y8g (fun h _=>?_) (fun h _=>?_)
 . have hd:=drop_cons (l:=l) Fc.zero (show i<l.length by omega);rw [hd] at he;refine hg ?_
   first | refine wdy (hgg i (by omega)) ?_ | refine y04 (hgg i (by omega)) ?_
   refine hg ?_;refine yie (fun h1=>?_) (fun h1=>?_)
   . refine hg ?_;rw [he];unfold idxJ;rw [if_pos h1];exact .one (.refl _)
   . refine hg ?_;refine ⟨i+1,⟨by omega,?_⟩,by omega,sS⟩;rw [he]
     conv=>lhs;unfold idxJ
     rw [if_neg (show ¬p (l.getD i Fc.zero)=true by rw [h1];decide)];rfl
 . have hi':i=l.length:=by omega
   rw [hi',List.drop_length] at he;refine hg ?_;exact (by rw [he];exact .one (.refl _))
theorem xys (g:FuncId) (p:Fc->Bool) (l:List Fc) (hl:l.length<=1099511627776) (hgg:∀ i,i<l.length->CallsD Γ prog g [.agg (l.getD i Fc.zero).C] (.one (.raw (.bool (p (l.getD i Fc.zero)))))) :
 CallsD Γ prog 43 [.one (.sl 4 (l.map Fc.C)),.one (.raw (.func (.func g) #[] #[]))] (.one (.raw (.bool (l.any p)))):=by
 rw [<-wkk p l 0 (by decide)];refine hE [] func43 f43.eq_1 ?_
 first | refine wdy (wj7 g p l hl hgg) ?_ | refine y04 (wj7 g p l hl hgg) ?_
 refine hg ?_;exact (.one (.refl _))
theorem y33 (g:FuncId) (p:Sc->Bool) (l:List Sc) (hl:l.length<=1099511627776) (hgg:∀ i,i<l.length->CallsD Γ prog g [.agg (l.getD i Sc.zero).C] (.one (.raw (.bool (p (l.getD i Sc.zero)))))) :
 CallsD Γ prog 64 [.one (.sl 8 (l.map Sc.C)),.one (.raw (.func (.func g) #[] #[]))] (.one (.raw (.int .i64 (idxJ p l 0)))):=by
 refine hE [] func64 f64.eq_1 ?_;refine wf5 [0,1,7] (fun i:Nat=>[(8,.one (.dat (cI (i))))]) (fun _=>[]) (fun i=>i<=l.length/\idxJ p l 0=idxJ p (l.drop i) i) (fun i=>l.length-i) 0 ⟨Nat.zero_le _,rfl⟩ ?_ ?_
 . refine hg ?_;exact sS
 rintro i ⟨hi,he⟩;refine hg ?_;refine y8g (fun h _=>?_) (fun h _=>?_)
 . have hd:=drop_cons (l:=l) Sc.zero (show i<l.length by omega);rw [hd] at he;refine hg ?_
   first | refine wdy (hgg i (by omega)) ?_ | refine y04 (hgg i (by omega)) ?_
   refine hg ?_;refine yie (fun h1=>?_) (fun h1=>?_)
   . refine hg ?_;rw [he];unfold idxJ;rw [if_pos h1];exact .one (.refl _)
   . refine hg ?_;refine ⟨i+1,⟨by omega,?_⟩,by omega,sS⟩;rw [he]
     conv=>lhs;unfold idxJ
     rw [if_neg (show ¬p (l.getD i Sc.zero)=true by rw [h1];decide)];rfl
 . have hi':i=l.length:=by omega
   rw [hi',List.drop_length] at he;refine hg ?_;exact (by rw [he];exact .one (.refl _))
theorem vpe (g:FuncId) (p:Sc->Bool) (l:List Sc) (hl:l.length<=1099511627776) (hgg:∀ i,i<l.length->CallsD Γ prog g [.agg (l.getD i Sc.zero).C] (.one (.raw (.bool (p (l.getD i Sc.zero)))))) :
 CallsD Γ prog 34 [.one (.sl 8 (l.map Sc.C)),.one (.raw (.func (.func g) #[] #[]))] (.one (.raw (.bool (l.any p)))):=by
 rw [<-wkk p l 0 (by decide)];refine hE [] func34 f34.eq_1 ?_
 first | refine wdy (y33 g p l hl hgg) ?_ | refine y04 (y33 g p l hl hgg) ?_
 refine hg ?_;exact (.one (.refl _))
theorem wrr (s:Sc) (h:s.sz<=67108864):CallsD Γ prog 33 [.agg s.C] (.one (.raw (.bool (decide s.ok)))):=by
 have ⟨hl,hh⟩:=Sc.yjv h;by_cases h1:s.low.ok
 . by_cases h2:s.high.ok
   . rw [show decide s.ok=decide (Fc.cmp s.low s.high<=0) from decide_eq_decide.2 ⟨fun h=>h.2.2,fun h=>⟨h1,h2,h⟩⟩];refine hE [] func33 f33.eq_1 ?_
     first | refine wdy (wge s.low (by omega) h1) ?_ | refine y04 (wge s.low (by omega) h1) ?_
     refine hg ?_
     first | refine wdy (wge s.high (by omega) h2) ?_ | refine y04 (wge s.high (by omega) h2) ?_
     refine hg ?_
     first | refine wdy (wlh s.low s.high hl hh) ?_ | refine y04 (wlh s.low s.high hl hh) ?_
     refine hg ?_;exact (.one (.refl _))
   . rw [decide_eq_false (fun h=>h2 h.2.1)];refine hE [] func33 f33.eq_1 ?_
     first | refine wdy (wge s.low (by omega) h1) ?_ | refine y04 (wge s.low (by omega) h1) ?_
     refine hg ?_
     first | refine wdy (yix s.high (by omega) h2) ?_ | refine y04 (yix s.high (by omega) h2) ?_
     refine hg ?_;exact (.one (.refl _))
 . rw [decide_eq_false (fun h=>h1 h.1)];refine hE [] func33 f33.eq_1 ?_
   first | refine wdy (yix s.low (by omega) h1) ?_ | refine y04 (yix s.low (by omega) h1) ?_
   refine hg ?_;exact (.one (.refl _))
end Go.Hp.T
namespace Go.Hp.T
open Go Go.RowKit Go.Slot Go.Hp Go.Slot.T
set_option maxRecDepth 10000
variable {α:Type} {i:Nat}
theorem ldE {l:List α} {d:α} (h:i<l.length):l.getD i d=l[i]:=by
 rw [List.getD_eq_getElem?_getD,List.getElem?_eq_getElem h];rfl
theorem ldM {l:List α} {d:α} (h:i<l.length):l.getD i d∈l:=by rw [ldE h];exact List.getElem_mem _
theorem ldN {l:List α} {d:α} (h:l.length<=i):l.getD i d=d:=by
 rw [List.getD_eq_getElem?_getD,List.getElem?_eq_none h];rfl
structure Src where
 kind:Int
 index:Int
 amount:Int
structure Ot where
 kind:Int
 index:Int
 amount:Int
 name:ByteArray
instance:Inhabited Src:=⟨⟨0,0,0⟩⟩
instance:Inhabited Ot:=⟨⟨0,0,0,⟨#[]⟩⟩⟩
def Src.C (x:Src):List Cell:=[cI x.kind,cI x.index,cI x.amount]
theorem Src.C_eq (x:Src):x.C=[cI x.kind,cI x.index,cI x.amount]:=rfl
def Ot.C (x:Ot):List Cell:=[cI x.kind,cI x.index,cI x.amount,cS x.name]
theorem Ot.C_eq (x:Ot):x.C=[cI x.kind,cI x.index,cI x.amount,cS x.name]:=rfl
attribute [go_sem] Src.C_eq Ot.C_eq
abbrev frsC (l:List Fc):Cell:=.sl 4 (l.map Fc.C)
abbrev shsC (l:List (List Fc)):Cell:=.sl 1 (l.map fun r=>[frsC r])
structure Fl where
 srcs:List Src
 outs:List Ot
 shares:List (List Fc)
abbrev flC (f:Fl):List Cell:=[.sl 3 (f.srcs.map Src.C),.sl 4 (f.outs.map Ot.C),shsC f.shares]
structure Fl.Sm (f:Fl):Prop where
 sl:f.srcs.length<=1048576
 ol:f.outs.length<=1048576
 hl:f.shares.length<=1048576
 rl:∀ r∈f.shares,r.length<=1048576
 fz:∀ r∈f.shares,∀ x∈r,x.sz<=100000
def colF (i:Nat):List (List Fc)->Fc->Bool
 | [],s=>decide (s=Fc.of 1)
 | l::r,s=>decide (l.getD i Fc.zero).ok&&(!decide (Fc.sign (l.getD i Fc.zero)<0)&&colF i r (Fc.add s (l.getD i Fc.zero)))
def outR (n:Nat) (x:Ot) (l:List Fc):Bool:=!decide (x.kind<0)&&(!decide (4<=x.kind)&&(!decide (x.index<0)&&decide (l.length=n)))
def srcR (x:Src):Bool:=!decide (x.kind<0)&&(!decide (3<=x.kind)&&!decide (x.index<0))
def v2n (f:Fl):Bool:=(List.range f.outs.length).all fun k=>outR f.srcs.length (f.outs.getD k default) (f.shares.getD k default)
def yp2 (f:Fl):Bool:=(List.range f.srcs.length).all fun i=>srcR (f.srcs.getD i default)&&colF i f.shares (Fc.of 0)
def vkz (f:Fl):Bool:=(decide (f.srcs.length<=100)&&(decide (f.outs.length<=100)&&decide (f.shares.length=f.outs.length)))&&(v2n f&&yp2 f)
theorem vui {n:Nat} {p:Nat->Bool} (h:i<n) (hp:p i=false):(List.range n).all p=false:=by
 rw [List.all_eq_false];exact ⟨i,List.mem_range.2 h,by rw [hp];decide⟩
theorem ye3 {n:Nat} {p:Nat->Bool} (h:∀ i,i<n->p i=true):(List.range n).all p=true:=by
 rw [List.all_eq_true]
 exact fun i hi=>h i (List.mem_range.1 hi)
theorem wcs {n:Nat} {p:Nat->Bool} (h:(List.range n).all p=true) (hi:i<n):p i=true:=List.all_eq_true.1 h i (List.mem_range.2 hi)
def dotN (a l:List Fc) (n:Nat):Fc:=(List.range n).foldl (fun s i=>Fc.add s (Fc.mul (l.getD i Fc.zero) (a.getD i Fc.zero))) (Fc.of 0)
theorem y42 (a l:List Fc):dotN a l 0=Fc.of 0:=rfl
theorem xae (a l:List Fc) (n:Nat):dotN a l (n+1)=Fc.add (dotN a l n) (Fc.mul (l.getD n Fc.zero) (a.getD n Fc.zero)):=by
 unfold dotN;rw [List.range_succ,List.foldl_append];rfl
theorem zyp:(Fc.of 0).sz<=1:=by
 show max (dig (0:Int).natAbs).length (dig 1).length<=1;rw [show (0:Int).natAbs=0 from rfl,v6p,vv4 (by decide),v6p];decide
theorem wzi:(Fc.of 1).sz<=1:=by
 show max (dig 1).length (dig 1).length<=1;rw [vv4 (by decide),v6p];decide
theorem wkg {a l:List Fc} {k:Nat} (ha:∀ x∈a,x.sz<=k) (hl:∀ x∈l,x.sz<=k):∀ n,n<=l.length->n<=a.length->(dotN a l n).sz<=n*(2*k+1)+1
 | 0,_,_=>by rw [y42];have:=zyp;omega
 | n+1,h1,h2=>by
  have ih:=wkg ha hl n (by omega) (by omega);rw [xae,Nat.succ_mul];have e1:=Fc.zgp (dotN a l n) (Fc.mul (l.getD n Fc.zero) (a.getD n Fc.zero));have e2:=Fc.wly (l.getD n Fc.zero) (a.getD n Fc.zero);have e3:(l.getD n Fc.zero).sz<=k:=hl _ (ldM (by omega));have e4:(a.getD n Fc.zero).sz<=k:=ha _ (ldM (by omega));omega
def yed (f:Fl) (a:List Fc):Bool:=vkz f&&(decide (a.length=f.srcs.length)&&!a.any fun x=>!decide x.ok)
def runF (f:Fl) (a:List Fc):List Fc:=bif yed f a then f.shares.map fun l=>dotN a l l.length else []
end Go.Hp.T
namespace Go.Hp.T
open Go Go.RowKit Go.Slot Go.Hp Go.Slot.T
open Go.Proofs.Tryz
attribute [local irreducible] hide RH
set_option maxRecDepth 10000
set_option maxHeartbeats 8000000
variable {Γ:List (Nat×List Cell)}
abbrev Tg:=Int×ByteArray
def Tg.C (t:Tg):List Cell:=[cI t.1,cS t.2]
abbrev tgC (t:Tg):List Cell:=[cI t.1,cS t.2]
theorem Tg.C_eq (t:Tg):Tg.C t=tgC t:=rfl
attribute [go_sem] Tg.C_eq
def tgK (t:Tg):Value:=.agg (List.toArray [.int .i64 t.1,.string t.2])
def tgE (a b:Tg):Bool:=decide (a.1=b.1)&&seq a.2 b.2
theorem xdx (a b:Tg):kEq (tgK a) (tgK b)=some (tgE a b):=by
 show eqL [.int .i64 a.1,.string a.2] [.int .i64 b.1,.string b.2]=_;simp [eqL,kEq0,tgE,Bool.beq_eq_decide_eq]
theorem yxx {a b:Tg}:tgE a b=true↔a=b:=by
 unfold tgE;rw [Bool.and_eq_true,decide_eq_true_iff,z8u,decide_eq_true_iff];exact ⟨fun h=>Prod.ext h.1 h.2,fun h=>by rw [h];exact ⟨rfl,rfl⟩⟩
theorem xp9 {c:Int} {s:ByteArray}:keyT prog 154 [.int .i64 c,.string s]=true:=by kernel_rfl
attribute [go_sem] xp9
def yr8 (x:Stp):List Tg:=x.inn.map (fun s=>(0,s))++x.out.map (fun s=>(1,s))++(bif decide (x.kind=0)||(decide (x.kind=1)||decide (x.kind=5)) then [(2+x.kind,x.name)] else [])
theorem yfh (x:Stp) (hi:x.inn.length<=1073741824) (ho:x.out.length<=1073741824):CallsD Γ prog 80 [.agg (stpC x)] (.one (.sl 2 ((yr8 x).map Tg.C))):=by
 unfold yr8;refine hE [] func80 f80.eq_1 ?_;refine wf5 [1,9,10] (fun x:Nat×List Tg=>[(3,.one (.sl 1 2 0 x.2.length)),(11,.one (.dat (cI x.1)))]) (fun p=>[.box ((stpC x).map .dat) (some 70),.arr (.sl 2 (p.2.map Tg.C)) 0 (some 154)])
  (fun p=>p.1<=x.inn.length/\p.2=(x.inn.take p.1).map fun s=>((0,s):Tg)) (fun p=>x.inn.length-p.1) (0,[]) ⟨Nat.zero_le _,by simp⟩ ?_ ?_
 . refine hg ?_;refine StH.trans (StH.empty (d:=3) (es:=2) (c:=.sl 2 []) (T:=some 154) rfl rfl (fun r hr=>by cases hr) rfl) ?_;refine hg ?_;exact sS
 rintro ⟨i,acc⟩ ⟨hin,hacc⟩;dsimp only at hin hacc;refine hg ?_;refine y8g (fun hlt _=>?_) (fun hlt _=>?_)
 . have hlt':i<x.inn.length:=by omega
   have hal:acc.length<=2147483648:=by rw [hacc];simp;omega
   refine hg ?_;refine ⟨(i+1,acc++[(0,x.inn.getD i default)]),⟨by dsimp only;omega,?_⟩,by dsimp only;omega,?_⟩
   . dsimp only;rw [hacc,List.take_succ_eq_append_getElem hlt',List.getD_eq_getElem?_getD,List.getElem?_eq_getElem hlt',List.map_append];simp
   refine StH.back [1,3,9,10,11] 1 2 2 rfl rfl rfl rfl rfl (by kernel_rfl) ?_;simp only [List.map_append,List.map_cons,List.map_nil];refine hg2 @List.length_append.{0} @List.length_singleton.{0} ?_;exact sS
 rw [List.take_of_length_le (show x.inn.length<=i by omega)] at hacc;rw [<-hacc]
 have hal:acc.length<=1073741824:=by rw [hacc,List.length_map];exact hi
 clear hacc hlt hin;refine hg ?_;refine wf5 [1,22,23] (fun x:Nat×List Tg=>[(3,.one (.sl 1 2 0 x.2.length)),(24,.one (.dat (cI x.1)))]) (fun p=>[.box ((stpC x).map .dat) (some 70),.arr (.sl 2 (p.2.map Tg.C)) 0 (some 154)])
  (fun p=>p.1<=x.out.length/\p.2=acc++(x.out.take p.1).map fun s=>((1,s):Tg)) (fun p=>x.out.length-p.1) (0,acc) ⟨Nat.zero_le _,by simp⟩ ?_ ?_
 . refine hg ?_;exact sS
 rintro ⟨i,ac2⟩ ⟨hin,hacc⟩;dsimp only at hin hacc;refine hg ?_;refine y8g (fun hlt _=>?_) (fun hlt _=>?_)
 . have hlt':i<x.out.length:=by omega
   have hal:ac2.length<=2147483648:=by rw [hacc];simp;omega
   refine hg ?_;refine ⟨(i+1,ac2++[(1,x.out.getD i default)]),⟨by dsimp only;omega,?_⟩,by dsimp only;omega,?_⟩
   . dsimp only;rw [hacc,List.take_succ_eq_append_getElem hlt',List.getD_eq_getElem?_getD,List.getElem?_eq_getElem hlt',List.map_append];simp
   refine StH.back [1,3,22,23,24] 1 2 2 rfl rfl rfl rfl rfl (by kernel_rfl) ?_;simp only [List.map_append,List.map_cons,List.map_nil];refine hg2 @List.length_append.{0} @List.length_singleton.{0} ?_;exact sS
 rw [List.take_of_length_le (show x.out.length<=i by omega)] at hacc;rw [<-hacc]
 have hbl:ac2.length<=2147483648:=by rw [hacc];simp;omega
 clear hacc hlt hin;refine hg ?_
 repeat' (refine hF ?_ ?_<;>intros)
 all_goals exact RLe.ofEq (by simp [*,Tg.C])
end Go.Hp.T
