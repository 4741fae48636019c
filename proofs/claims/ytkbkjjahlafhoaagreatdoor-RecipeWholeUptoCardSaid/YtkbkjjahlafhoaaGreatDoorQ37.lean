/- The proof, part Q37: 7b, 4a, 7f, 7c, 7d, 7g, 7i, 7j, 7l, 7m, 7n. -/
import Derived.Test.YtkbkjjahlafhoaaGreatDoorQ17
import Derived.Test.YtkbkjjahlafhoaaGreatDoorQ35
import Derived.Test.YtkbkjjahlafhoaaGreatDoorQ36
import Derived.Test.YtkbkjjahlafhoaaGreatDoorQ32
import Derived.Test.YtkbkjjahlafhoaaGreatDoorQ30
import Derived.Test.YtkbkjjahlafhoaaGreatDoorQ28
import Derived.Test.YtkbkjjahlafhoaaGreatDoorQ27
namespace Go.Hp.T
open Go Go.RowKit Go.Slot Go.Hp Go.Slot.T
open Go.Proofs.Tryz
variable {l:List Sc}
attribute [local irreducible] hide RH
set_option maxRecDepth 10000
set_option maxHeartbeats 8000000
variable {Γ:List (Nat×List Cell)}
def okR (x:Rcp):Bool:=z1c x.steps&&!decide (60<(x.kind.size:Int))
def okT (x:Tb):Bool:=!decide (110<(x.rows.length:Int))&&!decide (60<(x.unit.size:Int))
def okP (x:Prm):Bool:=!decide (60<(x.name.size:Int))&&!decide (60<(x.unit.size:Int))
def okF (x:Fnc):Bool:=!decide (8<(x.params.length:Int))&&(v6w x.body&&x.params.all okP)
def okC (x:Cel):Bool:=!decide (60<(x.unit.size:Int))&&v6w x.x
def few1 (s:Sht):Bool:=vfj (zp7 s) 105&&(!decide (8<(s.recipes.length:Int))&&!decide (60<(s.name.size:Int)))
def fewS (s:Sht):Bool:=few1 s&&(s.recipes.all okR&&(s.tables.all okT&&(s.funcs.all okF&&s.cells.all okC)))
theorem y86 (s:Sht) (hs:s.Sm):CallsD Γ prog 60 [.agg (shtC s)] (.one (cB (fewS s))):=by
 have hn:=ytj (Γ:=Γ) s hs
 have hnl:(zp7 s).length<=8589934592:=by
  unfold zp7
  have:=hs.il;have:=hs.nl;have:=hs.tl;have:=hs.fl;have:=hs.cl;have:=hs.pl;have:=hs.sl
  simp;omega
 have hsh:=wa6 (Γ:=Γ) (zp7 s) 105 hnl;have hrl:=hs.rl;have htl:=hs.tl;have hfl:=hs.fl;have hcl:=hs.cl;generalize hR:fewS s=R
 have e1:few1 s=false->R=false:=fun h=>by rw [<-hR];unfold fewS;rw [h];rfl
 have e2:s.recipes.all okR=false->R=false:=fun h=>by rw [<-hR];unfold fewS;rw [h];simp
 have e3:s.tables.all okT=false->R=false:=fun h=>by rw [<-hR];unfold fewS;rw [h];simp
 have e4:s.funcs.all okF=false->R=false:=fun h=>by rw [<-hR];unfold fewS;rw [h];simp
 have e5:s.cells.all okC=false->R=false:=fun h=>by rw [<-hR];unfold fewS;rw [h];simp
 have e6:few1 s=true->s.recipes.all okR=true->s.tables.all okT=true->s.funcs.all okF=true->s.cells.all okC=true->R=true:=fun a b c d e=>by rw [<-hR];unfold fewS;rw [a,b,c,d,e];rfl
 clear hR;have f1:few1 s=(vfj (zp7 s) 105&&(!decide (8<(s.recipes.length:Int))&&!decide (60<(s.name.size:Int)))):=rfl;generalize few1 s=b0 at *;generalize vfj (zp7 s) 105=b1 at *;by_cases hb0:b0=false
 . have hRf:=e1 hb0;rw [hb0] at f1
   replace f1:=f1.symm
   clear e1 e2 e3 e4 e5 e6;rw [hRf];refine hE [] func60 f60.eq_1 ?_
   repeat' first|refine hF ?_ ?_<;>intros|(with_reducible first|refine wdy hn ?_|refine wdy hsh ?_)<;>refine hgS ?_
   all_goals first
    | exact RLe.ofEq rfl
    | (exfalso;clear hn hsh hs;simp_all;done)
    | (exfalso;clear hn hsh hs;simp_all;omega)
 rw [Bool.not_eq_false] at hb0;have e6:=e6 hb0;rw [hb0] at f1;have f2:=f1.symm;clear f1 e1;simp only [Bool.and_eq_true,Bool.not_eq_true',decide_eq_false_iff_not] at f2;obtain ⟨rfl,f3,f4⟩:=f2;refine hE [] func60 f60.eq_1 ?_
 repeat' ((with_reducible first|refine wdy hn ?_|refine wdy hsh ?_)<;>refine hgS ?_)
 all_goals try (exfalso;omega)
 refine wf5 [1] (fun i:Nat=>[(3,.one (.dat (cI i)))]) (fun _=>[.box ((shtC s).map .dat) (some 31)]) (fun i=>i<=s.recipes.length/\∀ j,j<i->okR (s.recipes.getD j default)=true) (fun i=>s.recipes.length-i) 0 ⟨Nat.zero_le _,fun j hj=>by omega⟩ ?_ ?_
 . refine hg ?_;exact sS
 rintro i ⟨hi,hj⟩;refine hg ?_;refine y8g (fun hlt _=>?_) (fun hlt _=>?_)
 . have hlt':i<s.recipes.length:=by omega
   have eb:okR (s.recipes.getD i default)=false->R=false:=fun h=>e2 (z6d hlt' h)
   have ed:okR (s.recipes.getD i default)=(z1c (s.recipes.getD i default).steps&&!decide (60<((s.recipes.getD i default).kind.size:Int))):=rfl;have hy:=hs.r _ (z1y hlt');have c1:=ya6 (Γ:=Γ) (s.recipes.getD i default).steps hy.2.1 hy.2.2;generalize z1c (s.recipes.getD i default).steps=q at *;clear e2 e3 e4 e5 e6;refine hg ?_
   repeat' first|refine hF ?_ ?_<;>intros|(with_reducible refine wdy c1 ?_)<;>refine hgS ?_
   all_goals try (exfalso;omega)
   all_goals first
    | (refine ⟨i+1,⟨by omega,yas hj (by rw [ed];simp [*,-List.getD_eq_getElem?_getD])⟩,by omega,sS⟩)
    | (refine ⟨i+1,⟨by omega,yas hj (by rw [ed];simp [*,-List.getD_eq_getElem?_getD];omega)⟩,by omega,sS⟩)
    | exact RLe.ofEq rfl
    | exact RLe.ofEq (by rw [eb (by rw [ed];simp [*,-List.getD_eq_getElem?_getD])])
    | exact RLe.ofEq (by rw [eb (by rw [ed];simp [*,-List.getD_eq_getElem?_getD];omega)])
 have e6:=e6 (ypq (fun j hjl=>hj j (by omega)));clear e2 hj;refine hg ?_;refine wf5 [1] (fun i:Nat=>[(4,.one (.dat (cI i)))]) (fun _=>[.box ((shtC s).map .dat) (some 31)]) (fun i=>i<=s.tables.length/\∀ j,j<i->okT (s.tables.getD j default)=true) (fun i=>s.tables.length-i) 0 ⟨Nat.zero_le _,fun j hj=>by omega⟩ ?_ ?_
 . refine hg ?_;exact sS
 rintro i ⟨hi,hj⟩;refine hg ?_;refine y8g (fun hlt _=>?_) (fun hlt _=>?_)
 . have hlt':i<s.tables.length:=by omega
   have eb:okT (s.tables.getD i default)=false->R=false:=fun h=>e3 (z6d hlt' h)
   have ed:okT (s.tables.getD i default)=(!decide (110<((s.tables.getD i default).rows.length:Int))&&!decide (60<((s.tables.getD i default).unit.size:Int))):=rfl;have hy:=hs.t _ (z1y hlt');have hy2:=hy.r;clear e3 e4 e5 e6 hy;refine hg ?_
   repeat' (refine hF ?_ ?_<;>intros)
   all_goals try (exfalso;omega)
   all_goals first
    | (refine ⟨i+1,⟨by omega,yas hj (by rw [ed];simp [*,-List.getD_eq_getElem?_getD])⟩,by omega,sS⟩)
    | (refine ⟨i+1,⟨by omega,yas hj (by rw [ed];simp [*,-List.getD_eq_getElem?_getD];omega)⟩,by omega,sS⟩)
    | exact RLe.ofEq rfl
    | exact RLe.ofEq (by rw [eb (by rw [ed];simp [*,-List.getD_eq_getElem?_getD])])
    | exact RLe.ofEq (by rw [eb (by rw [ed];simp [*,-List.getD_eq_getElem?_getD];omega)])
 have e6:=e6 (ypq (fun j hjl=>hj j (by omega)));clear e3 hj;refine hg ?_;refine wf5 [1] (fun i:Nat=>[(5,.one (.dat (cI i)))]) (fun _=>[.box ((shtC s).map .dat) (some 31)]) (fun i=>i<=s.funcs.length/\∀ j,j<i->okF (s.funcs.getD j default)=true) (fun i=>s.funcs.length-i) 0 ⟨Nat.zero_le _,fun j hj=>by omega⟩ ?_ ?_
 . refine hg ?_;exact sS
 rintro i ⟨hi,hj⟩;refine hg ?_;refine y8g (fun hlt _=>?_) (fun hlt _=>?_)
 . have hlt':i<s.funcs.length:=by omega
   have eb:okF (s.funcs.getD i default)=false->R=false:=fun h=>e4 (z6d hlt' h)
   have ed:okF (s.funcs.getD i default)=(!decide (8<((s.funcs.getD i default).params.length:Int))&&(v6w (s.funcs.getD i default).body&&(s.funcs.getD i default).params.all okP)):=rfl;have hy:=hs.f _ (z1y hlt');have hpl:=hy.2.1;have c1:=xpw (Γ:=Γ) (s.funcs.getD i default).body hy.2.2.2;generalize v6w (s.funcs.getD i default).body=q at *;clear e4 e5 e6;refine hg ?_
   repeat' first|refine hF ?_ ?_<;>intros|(with_reducible refine wdy c1 ?_)<;>refine hgS ?_
   all_goals try (exfalso;omega)
   all_goals first
    | exact RLe.ofEq rfl
    | exact RLe.ofEq (by rw [eb (by rw [ed];simp [*,-List.getD_eq_getElem?_getD])])
    | exact RLe.ofEq (by rw [eb (by rw [ed];simp [*,-List.getD_eq_getElem?_getD];omega)])
    | skip
   refine wf5 [1,5] (fun k:Nat=>[(6,.one (.dat (cI k)))]) (fun _=>[.box ((shtC s).map .dat) (some 31)]) (fun k=>k<=(s.funcs.getD i default).params.length/\∀ j,j<k->okP ((s.funcs.getD i default).params.getD j default)=true) (fun k=>(s.funcs.getD i default).params.length-k) 0 ⟨Nat.zero_le _,fun j hj=>by omega⟩ ?_ ?_
   . refine hg ?_;exact sS
   rintro k ⟨hk,hkj⟩;refine hg ?_;refine y8g (fun hlt2 _=>?_) (fun hlt2 _=>?_)
   . have hlt3:k<(s.funcs.getD i default).params.length:=by omega
     have eb2:okP ((s.funcs.getD i default).params.getD k default)=false->R=false:=fun h=>eb (by rw [ed,z6d hlt3 h];simp)
     have ed2:okP ((s.funcs.getD i default).params.getD k default)=(!decide (60<(((s.funcs.getD i default).params.getD k default).name.size:Int))&&!decide (60<(((s.funcs.getD i default).params.getD k default).unit.size:Int))):=rfl;clear eb ed;refine hg ?_
     repeat' (refine hF ?_ ?_<;>intros)
     all_goals try (exfalso;omega)
     all_goals first
      | (refine ⟨k+1,⟨by omega,yas hkj (by rw [ed2];simp [*,-List.getD_eq_getElem?_getD])⟩,by omega,sS⟩)
      | (refine ⟨k+1,⟨by omega,yas hkj (by rw [ed2];simp [*,-List.getD_eq_getElem?_getD];omega)⟩,by omega,sS⟩)
      | exact RLe.ofEq rfl
      | exact RLe.ofEq (by rw [eb2 (by rw [ed2];simp [*,-List.getD_eq_getElem?_getD])])
      | exact RLe.ofEq (by rw [eb2 (by rw [ed2];simp [*,-List.getD_eq_getElem?_getD];omega)])
   . have hall:(s.funcs.getD i default).params.all okP=true:=ypq (fun j hjl=>hkj j (by omega));clear eb;refine hg ?_
     first
      | exact ⟨i+1,⟨by omega,yas hj (by rw [ed,hall];simp [*,-List.getD_eq_getElem?_getD])⟩,by omega,sS⟩
      | exact ⟨i+1,⟨by omega,yas hj (by rw [ed,hall];simp [*,-List.getD_eq_getElem?_getD];omega)⟩,by omega,sS⟩
 have e6:=e6 (ypq (fun j hjl=>hj j (by omega)));clear e4 hj;refine hg ?_;refine wf5 [1] (fun i:Nat=>[(7,.one (.dat (cI i)))]) (fun _=>[.box ((shtC s).map .dat) (some 31)]) (fun i=>i<=s.cells.length/\∀ j,j<i->okC (s.cells.getD j default)=true) (fun i=>s.cells.length-i) 0 ⟨Nat.zero_le _,fun j hj=>by omega⟩ ?_ ?_
 . refine hg ?_;exact sS
 rintro i ⟨hi,hj⟩;refine hg ?_;refine y8g (fun hlt _=>?_) (fun hlt _=>?_)
 . have hlt':i<s.cells.length:=by omega
   have eb:okC (s.cells.getD i default)=false->R=false:=fun h=>e5 (z6d hlt' h)
   have ed:okC (s.cells.getD i default)=(!decide (60<((s.cells.getD i default).unit.size:Int))&&v6w (s.cells.getD i default).x):=rfl;have hy:=hs.c _ (z1y hlt');have c1:=xpw (Γ:=Γ) (s.cells.getD i default).x hy.2.2;generalize v6w (s.cells.getD i default).x=q at *;clear e5 e6;refine hg ?_
   repeat' first|refine hF ?_ ?_<;>intros|(with_reducible refine wdy c1 ?_)<;>refine hgS ?_
   all_goals try (exfalso;omega)
   all_goals first
    | (refine ⟨i+1,⟨by omega,yas hj (by rw [ed];simp [*,-List.getD_eq_getElem?_getD])⟩,by omega,sS⟩)
    | (refine ⟨i+1,⟨by omega,yas hj (by rw [ed];simp [*,-List.getD_eq_getElem?_getD];omega)⟩,by omega,sS⟩)
    | exact RLe.ofEq rfl
    | exact RLe.ofEq (by rw [eb (by rw [ed];simp [*,-List.getD_eq_getElem?_getD])])
    | exact RLe.ofEq (by rw [eb (by rw [ed];simp [*,-List.getD_eq_getElem?_getD];omega)])
 have e6:=e6 (ypq (fun j hjl=>hj j (by omega)));rw [e6];clear e5 hj e6;refine hg ?_;exact RLe.ofEq rfl
def vh5 (s:Sht):Int:=(s.imports.length:Int)+s.inputs.length+s.tables.length+s.funcs.length+s.cells.length+s.ports.length+s.stores.length+s.recipes.length
theorem vl4 (s:Sht) (hs:s.Sm):CallsD Γ prog 59 [.agg (shtC s)] (.one (cI (vh5 s))):=by
 have h1:=hs.il;have h2:=hs.nl;have h3:=hs.tl;have h4:=hs.fl;have h5:=hs.cl;have h6:=hs.pl;have h7:=hs.sl;have h8:=hs.rl;unfold vh5;clear hs;refine hE [] func59 f59.eq_1 ?_;exact RLe.ofEq rfl
def f22n (n:Int) (s:Sht):Bool:=!(decide (30<n)&&decide (n<=100))&&(!decide (8<(s.inputs.length:Int))&&(!decide (4<(s.tables.length:Int))&&(!decide (4<(s.funcs.length:Int))&&!decide (8<(s.cells.length:Int)))))
def t22 (x:Tb):Bool:=!decide (12<(x.rows.length:Int))
def x22 (x:Ex):Bool:=decide (0<=x.rsz 40 8)
def fx22 (x:Fnc):Bool:=x22 x.body
def cx22 (x:Cel):Bool:=x22 x.x
def wdi (s:Sht):Bool:=(fewS s&&f22n (vh5 s) s)&&(s.tables.all t22&&(s.funcs.all fx22&&s.cells.all cx22))
theorem xyt (x:Ex) (hx:x.Sm):CallsD Γ prog 61 [.agg (exC x),.one (cI 40),.one (cI 8)] (.one (cB (x22 x))):=rFew x hx 40 8 (by decide) (by decide) (by decide) (by decide)
theorem x0y (s:Sht) (hs:s.Sm):CallsD Γ prog 29 [.agg (shtC s)] (.one (cB (wdi s))):=by
 have c0:=vl4 (Γ:=Γ) s hs;have c1:=y86 (Γ:=Γ) s hs;have htl:=hs.tl;have hfl:=hs.fl;have hcl:=hs.cl;have hnl:=hs.nl;generalize hR:wdi s=R
 have e1:(fewS s&&f22n (vh5 s) s)=false->R=false:=fun h=>by rw [<-hR];unfold wdi;rw [h];rfl
 have e3:s.tables.all t22=false->R=false:=fun h=>by rw [<-hR];unfold wdi;rw [h];simp
 have e4:s.funcs.all fx22=false->R=false:=fun h=>by rw [<-hR];unfold wdi;rw [h];simp
 have e5:s.cells.all cx22=false->R=false:=fun h=>by rw [<-hR];unfold wdi;rw [h];simp
 have e6:(fewS s&&f22n (vh5 s) s)=true->s.tables.all t22=true->s.funcs.all fx22=true->s.cells.all cx22=true->R=true:=fun a c d e=>by rw [<-hR];unfold wdi;rw [a,c,d,e];rfl
 clear hR;generalize fewS s=b1 at *;obtain ⟨n,hn⟩:∃ n,vh5 s=n:=⟨_,rfl⟩;rw [hn] at c0 e1 e6;clear hn;by_cases hb0:(b1&&f22n n s)=false
 . have hRf := e1 hb0;unfold f22n at hb0;clear e1 e3 e4 e5 e6;rw [hRf]
   replace hb0:∃ _:Unit,(b1&&(!(decide (30<n)&&decide (n<=100))&&(!decide (8<(s.inputs.length:Int))&&(!decide (4<(s.tables.length:Int))&&(!decide (4<(s.funcs.length:Int))&&!decide (8<(s.cells.length:Int)))))))=false:=⟨(),hb0⟩
   refine hE [] func29 f29.eq_1 ?_
   repeat' first|refine hF ?_ ?_<;>intros|(with_reducible first|refine wdy c0 ?_|refine wdy c1 ?_)<;>refine hgS ?_
   all_goals first
    | exact RLe.ofEq rfl
    | (exfalso
       obtain ⟨_,hb0⟩:=hb0;rw [show b1=true by assumption,decide_eq_false (show ¬8<(s.inputs.length:Int) by omega),decide_eq_false (show ¬4<(s.tables.length:Int) by omega),decide_eq_false (show ¬4<(s.funcs.length:Int) by omega),decide_eq_false (show ¬8<(s.cells.length:Int) by omega)] at hb0
       first
        | (rw [decide_eq_false (show ¬30<n by omega),Bool.false_and] at hb0;revert hb0;decide)
        | (rw [decide_eq_false (show ¬n<=100 by omega),Bool.and_false] at hb0;revert hb0;decide))
 rw [Bool.not_eq_false] at hb0
 replace e6:=e6 hb0
 unfold f22n at hb0;simp only [Bool.and_eq_true,Bool.not_eq_true',decide_eq_false_iff_not,Bool.and_eq_false_iff] at hb0;obtain ⟨hb1,f2,f3,f4,f5,f6⟩:=hb0;rw [hb1] at c1
 replace f2:n<=30\/100<n:=by omega
 clear e1 hb1;refine hE [] func29 f29.eq_1 ?_
 repeat' first|refine hF ?_ ?_<;>intros|(with_reducible first|refine wdy c0 ?_|refine wdy c1 ?_)<;>refine hgS ?_
 all_goals try (exfalso;omega)
 all_goals
  clear c0 c1;refine wf5 [1] (fun i:Nat=>[(4,.one (.dat (cI i)))]) (fun _=>[.box ((shtC s).map .dat) (some 31)]) (fun i=>i<=s.tables.length/\∀ j,j<i->t22 (s.tables.getD j default)=true) (fun i=>s.tables.length-i) 0 ⟨Nat.zero_le _,fun j hj=>by omega⟩ ?_ ?_
  . refine hg ?_;exact sS
  rintro i ⟨hi,hj⟩;refine hg ?_;refine y8g (fun hlt _=>?_) (fun hlt _=>?_)
  . have hlt':i<s.tables.length:=by omega
    have eb:t22 (s.tables.getD i default)=false->R=false:=fun h=>e3 (z6d hlt' h)
    have ed:t22 (s.tables.getD i default) = !decide (12<((s.tables.getD i default).rows.length:Int)):=rfl;have hy:=(hs.t _ (z1y hlt')).r;clear e3 e4 e5 e6;refine hg ?_
    repeat' (refine hF ?_ ?_<;>intros)
    all_goals try (exfalso;omega)
    all_goals first
     | (refine ⟨i+1,⟨by omega,yas hj (by rw [ed,decide_eq_false (by omega)];rfl)⟩,by omega,sS⟩)
     | exact RLe.ofEq (by rw [eb (by rw [ed,decide_eq_true (by omega)];rfl)])
  replace e6:=e6 (ypq (fun j hjl=>hj j (by omega)))
  clear e3 hj;refine hg ?_;refine wf5 [1] (fun i:Nat=>[(5,.one (.dat (cI i)))]) (fun _=>[.box ((shtC s).map .dat) (some 31)]) (fun i=>i<=s.funcs.length/\∀ j,j<i->fx22 (s.funcs.getD j default)=true) (fun i=>s.funcs.length-i) 0 ⟨Nat.zero_le _,fun j hj=>by omega⟩ ?_ ?_
  . refine hg ?_;exact sS
  rintro i ⟨hi,hj⟩;refine hg ?_;refine y8g (fun hlt _=>?_) (fun hlt _=>?_)
  . have hlt':i<s.funcs.length:=by omega
    have eb:x22 (s.funcs.getD i default).body=false->R=false:=fun h=>e4 (z6d hlt' h)
    have c1:=xyt (Γ:=Γ) (s.funcs.getD i default).body (hs.f _ (z1y hlt')).2.2.2;obtain ⟨q,hq⟩:∃ q,x22 (s.funcs.getD i default).body=q:=⟨_,rfl⟩;rw [hq] at c1 eb;have hq2:∃ _:Unit,x22 (s.funcs.getD i default).body=q:=⟨(),hq⟩;clear e4 e5 e6 hq;refine hg ?_
    repeat' first|refine hF ?_ ?_<;>intros|(with_reducible refine wdy c1 ?_)<;>refine hgS ?_
    all_goals first
     | (exfalso;omega)
     | (refine ⟨i+1,⟨by omega,yas hj (hq2.elim fun _ h=>h.trans (by assumption))⟩,by omega,sS⟩)
     | exact RLe.ofEq (by rw [eb (by assumption)])
     | exact RLe.ofEq (by rw [eb rfl])
     | exact RLe.ofEq rfl
  replace e6:=e6 (ypq (fun j hjl=>hj j (by omega)))
  clear e4 hj;refine hg ?_;refine wf5 [1] (fun i:Nat=>[(6,.one (.dat (cI i)))]) (fun _=>[.box ((shtC s).map .dat) (some 31)]) (fun i=>i<=s.cells.length/\∀ j,j<i->cx22 (s.cells.getD j default)=true) (fun i=>s.cells.length-i) 0 ⟨Nat.zero_le _,fun j hj=>by omega⟩ ?_ ?_
  . refine hg ?_;exact sS
  rintro i ⟨hi,hj⟩;refine hg ?_;refine y8g (fun hlt _=>?_) (fun hlt _=>?_)
  . have hlt':i<s.cells.length:=by omega
    have eb:x22 (s.cells.getD i default).x=false->R=false:=fun h=>e5 (z6d hlt' h)
    have c1:=xyt (Γ:=Γ) (s.cells.getD i default).x (hs.c _ (z1y hlt')).2.2;obtain ⟨q,hq⟩:∃ q,x22 (s.cells.getD i default).x=q:=⟨_,rfl⟩;rw [hq] at c1 eb;have hq2:∃ _:Unit,x22 (s.cells.getD i default).x=q:=⟨(),hq⟩;clear e5 e6 hq;refine hg ?_
    repeat' first|refine hF ?_ ?_<;>intros|(with_reducible refine wdy c1 ?_)<;>refine hgS ?_
    all_goals first
     | (exfalso;omega)
     | (refine ⟨i+1,⟨by omega,yas hj (hq2.elim fun _ h=>h.trans (by assumption))⟩,by omega,sS⟩)
     | exact RLe.ofEq (by rw [eb (by assumption)])
     | exact RLe.ofEq (by rw [eb rfl])
     | exact RLe.ofEq rfl
  replace e6:=e6 (ypq (fun j hjl=>hj j (by omega)))
  clear e5 hj;refine hg ?_;rw [e6];exact RLe.ofEq rfl
def f30b (y:Stp):Bool:=!decide (6<(y.inn.length:Int))&&!decide (6<(y.out.length:Int))
def f30l (l:List Stp):Bool:=bif decide ((l.length:Int)<=25) then l.all f30b else decide (100<(l.length:Int))
def vzg (s:Sht) (k:Int):Bool:=bif (decide (k<0)||decide ((s.recipes.length:Int)<=k)) then true else f30l (s.recipes.getD k.toNat default).steps
theorem wdw (s:Sht) (k:Int) (hs:s.Sm):CallsD Γ prog 30 [.agg (shtC s),.one (cI k)] (.one (cB (vzg s k))):=by
 have hrl:=hs.rl;unfold vzg;by_cases hk:k<0
 . rw [decide_eq_true hk,Bool.true_or,cond_true];clear hs;refine hE [] func30 f30.eq_1 ?_
   refine hF ?_ ?_<;>intros
   all_goals first
    | exact RLe.ofEq rfl
    | (exfalso;omega)
 by_cases hk2:(s.recipes.length:Int)<=k
 . rw [decide_eq_true hk2,Bool.or_true,cond_true];clear hs;refine hE [] func30 f30.eq_1 ?_
   refine hF ?_ ?_<;>intros
   all_goals first
    | exact RLe.ofEq rfl
    | (exfalso;omega)
 obtain ⟨n,rfl⟩:=Int.eq_ofNat_of_zero_le (show 0<=k by omega);rw [decide_eq_false hk,decide_eq_false hk2,Bool.or_false,cond_false,Int.toNat_natCast]
 have hn:n<s.recipes.length:=by omega
 have hy:=hs.r _ (z1y hn);have hyl:=hy.2.1
 have hil:=fun j (hj:j<(s.recipes.getD n default).steps.length)=>(hy.2.2 _ (z1y hj)).il
 have hol:=fun j (hj:j<(s.recipes.getD n default).steps.length)=>(hy.2.2 _ (z1y hj)).ol
 clear hy hs;obtain ⟨R,hR⟩:∃ R,f30l (s.recipes.getD n default).steps=R:=⟨_,rfl⟩;rw [hR]
 have e1:∀ i,i<(s.recipes.getD n default).steps.length->((s.recipes.getD n default).steps.length:Int)<=25->f30b ((s.recipes.getD n default).steps.getD i default)=false->R=false:=fun i hi h h'=>by rw [<-hR,f30l,decide_eq_true h,cond_true,z6d hi h']
 have e2:((s.recipes.getD n default).steps.length:Int)<=25->(∀ j,j<(s.recipes.getD n default).steps.length->f30b ((s.recipes.getD n default).steps.getD j default)=true)->R=true:=fun h h'=>by rw [<-hR,f30l,decide_eq_true h,cond_true,ypq h']
 have e3:¬((s.recipes.getD n default).steps.length:Int)<=25->R=decide (100<((s.recipes.getD n default).steps.length:Int)):=fun h=>by rw [<-hR,f30l,decide_eq_false h,cond_false]
 clear hR;refine hE [] func30 f30.eq_1 ?_
 refine hF ?_ ?_<;>intros
 all_goals try (exfalso;omega)
 refine wf5 [1,2,5] (fun i:Nat=>[(6,.one (.dat (cI i)))]) (fun _=>[.box ((shtC s).map .dat) (some 31)]) (fun i=>i<=(s.recipes.getD n default).steps.length/\(((s.recipes.getD n default).steps.length:Int)<=25->∀ j,j<i->f30b ((s.recipes.getD n default).steps.getD j default)=true)) (fun i=>(s.recipes.getD n default).steps.length-i) 0 ⟨Nat.zero_le _,fun _ j hj=>by omega⟩ ?_ ?_
 . refine hg ?_;exact sS
 rintro i ⟨hi,hj⟩;have ed:f30b ((s.recipes.getD n default).steps.getD i default)=(!decide (6<(((s.recipes.getD n default).steps.getD i default).inn.length:Int))&&!decide (6<(((s.recipes.getD n default).steps.getD i default).out.length:Int))):=rfl;by_cases hlt:i<(s.recipes.getD n default).steps.length
 . have g1:=hil i hlt;have g2:=hol i hlt;have e1:=e1 i hlt;clear hil hol;by_cases h25:((s.recipes.getD n default).steps.length:Int)<=25
   . have e1:=e1 h25;have hj:=hj h25;clear e2 e3;refine hg ?_
     repeat' (refine hF ?_ ?_<;>intros)
     all_goals try (exfalso;omega)
     all_goals first
      | (refine ⟨i+1,⟨by omega,fun _=>yas hj (by rw [ed,decide_eq_false (by omega),decide_eq_false (by omega)];rfl)⟩,by omega,sS⟩)
      | exact RLe.ofEq (by rw [e1 (by rw [ed,decide_eq_true (show 6<(((s.recipes.getD n default).steps.getD i default).inn.length:Int) by omega)];rfl)])
      | exact RLe.ofEq (by rw [e1 (by rw [ed,decide_eq_true (show 6<(((s.recipes.getD n default).steps.getD i default).out.length:Int) by omega),Bool.and_comm];rfl)])
   . have e3:=e3 h25;rw [e3];clear e1 e2 e3;refine hg ?_
     repeat' (refine hF ?_ ?_<;>intros)
     all_goals try (exfalso;omega)
     all_goals first
      | (refine ⟨i+1,⟨by omega,fun h=>h.elim⟩,by omega,sS⟩)
      | exact RLe.ofEq rfl
      | exact RLe.ofEq (by rw [decide_eq_true (by omega)])
 . by_cases h25:((s.recipes.getD n default).steps.length:Int)<=25
   . rw [e2 h25 (fun j hjl=>hj h25 j (by omega))];clear e1 e2 e3 hil hol;refine hg ?_
     repeat' (refine hF ?_ ?_<;>intros)
     all_goals first
      | (exfalso;omega)
      | exact RLe.ofEq rfl
   . rw [e3 h25];clear e1 e2 e3 hil hol;refine hg ?_
     repeat' (refine hF ?_ ?_<;>intros)
     all_goals first
      | (exfalso;omega)
      | exact RLe.ofEq rfl
def sz4 (v:Sc):Bool:=decide (v.sz<=4)
def v93 (l:List Sc):Bool:=decide ((l.length:Int)<=10)&&l.all sz4
theorem y10 {p:Sc->Bool} {i:Nat} (h:i<l.length) (hp:p (l.getD i Sc.zero)=false):l.all p=false:=List.all_eq_false.2 ⟨_,ldM h,by rw [hp];decide⟩
theorem x6m {p:Sc->Bool} (h:∀ j,j<l.length->p (l.getD j Sc.zero)=true):l.all p=true:=List.all_eq_true.2 fun x hx=>by
 obtain ⟨k,hk,rfl⟩:=List.getElem_of_mem hx;rw [<-ldE (d:=Sc.zero) hk];exact h k hk
theorem wg5 (l:List Sc) (hl:l.length<=1048576) (hz:∀ x∈l,x.sz<=67108864):CallsD Γ prog 31 [.one (.sl 8 (l.map Sc.C))] (.one (cB (v93 l))):=by
 unfold v93;refine hE [] func31 f31.eq_1 ?_;refine wf5 [0] (fun i:Nat=>[(3,.one (.dat (cI i)))]) (fun _=>[]) (fun i=>i<=l.length/\∀ j,j<i->sz4 (l.getD j Sc.zero)=true) (fun i=>l.length-i) 0 ⟨Nat.zero_le _,fun j hj=>by omega⟩ ?_ ?_
 . refine hg ?_;exact sS
 rintro i ⟨hi,hj⟩;obtain ⟨R,hR⟩:∃ R,(decide ((l.length:Int)<=10)&&l.all sz4)=R:=⟨_,rfl⟩;rw [hR]
 have e1:i<l.length->sz4 (l.getD i Sc.zero)=false->R=false:=fun h h'=>by rw [<-hR,y10 h h',Bool.and_false]
 have e2:¬i<l.length->R=decide ((l.length:Int)<=10):=fun h=>by rw [<-hR,x6m (fun j hjl=>hj j (by omega)),Bool.and_true]
 have e3:¬(l.length:Int)<=10->R=false:=fun h=>by rw [<-hR,decide_eq_false h];rfl
 clear hR;by_cases hlt:i<l.length
 . have c1:=wr6 (Γ:=Γ) (l.getD i Sc.zero) (hz _ (ldM hlt))
   replace e1:=e1 hlt
   obtain ⟨q,hq⟩:∃ q,sz4 (l.getD i Sc.zero)=q:=⟨_,rfl⟩;rw [show decide ((l.getD i Sc.zero).sz<=4)=q from hq] at c1;rw [hq] at e1;simp only [Sc.C_eq] at c1;have hq2:∃ _:Unit,sz4 (l.getD i Sc.zero)=q:=⟨(),hq⟩;clear e2 hq hz;refine hg ?_
   repeat' first|refine hF ?_ ?_<;>intros|(with_reducible refine wdy c1 ?_)<;>refine hgS ?_
   all_goals first
    | (exfalso;omega)
    | exact RLe.ofEq rfl
    | exact RLe.ofEq (by rw [e1 (by assumption)])
    | exact RLe.ofEq (by rw [e3 (by omega),decide_eq_false (by omega)])
    | exact RLe.ofEq (by rw [decide_eq_false (by omega)])
    | (refine ⟨i+1,⟨by omega,yas hj (hq2.elim fun _ h=>h.trans (by assumption))⟩,by omega,sS⟩)
 . have e4:=e2 hlt;rw [e4];clear e1 e2 e3 e4 hz;refine hg ?_
   repeat' (refine hF ?_ ?_<;>intros)
   all_goals first
    | (exfalso;omega)
    | exact RLe.ofEq rfl
def fewM (s:Sht) (k:Int) (cs:List Sc):Bool:=wdi s&&(vzg s k&&v93 cs)
theorem yxp (s:Sht) (k:Int) (cs:List Sc) (hs:s.Sm) (hl:cs.length<=1048576) (hz:∀ x∈cs,x.sz<=67108864):CallsD Γ prog 8 [.agg (shtC s),.one (cI k),.one (.sl 8 (cs.map Sc.C))] (.one (cB (fewM s k cs))):=by
 have c1:=x0y (Γ:=Γ) s hs;have c2:=wdw (Γ:=Γ) s k hs;have c3:=wg5 (Γ:=Γ) cs hl hz;unfold fewM;generalize wdi s=b1 at *;generalize vzg s k=b2 at *;generalize v93 cs=b3 at *;clear hs hz;refine hE [] func8 f8.eq_1 ?_
 repeat' first|refine hF ?_ ?_<;>intros|(with_reducible first|refine wdy c1 ?_|refine wdy c2 ?_|refine wdy c3 ?_)<;>refine hgS ?_
 all_goals refine lfE ?_;first | exact trivial | rfl
end Go.Hp.T
namespace Go.Hp.T
open Go Go.RowKit Go.Slot Go.Hp Go.Slot.T
open Go.Proofs.Tryz (prog)
set_option maxRecDepth 10000
set_option maxHeartbeats 8000000
variable {Γ:List (Nat×List Cell)}
def cntS (l:List ByteArray) (s:ByteArray):Nat:=(l.filter fun t=>seq t s).length
theorem xll {α:Type} [Inhabited α] {p:α->Bool} {l:List α} {i:Nat} (h:i<l.length):((l.take (i+1)).filter p).length=((l.take i).filter p).length+bif p (l.getD i default) then 1 else 0:=by
 rw [List.take_succ_eq_append_getElem h,List.filter_append,List.length_append,List.getD_eq_getElem?_getD,List.getElem?_eq_getElem h];simp only [Option.getD_some]
 cases hp:p l[i]<;>simp [hp]
end Go.Hp.T
namespace Go.Hp.T
open Go Go.RowKit Go.Slot Go.Hp Go.Slot.T
set_option maxRecDepth 10000
variable {t:Tg}
theorem zia {k:Int} {t:Tg}:∀{T:List Tg} {H:Mb},ypi tgE (addT H k T) t=bif T.any (tgE t) then some k else ypi tgE H t
 | [],_=>rfl
 | y::T,H=>by
  show ypi tgE (addT (updG tgE H y k) k T) t=_;rw [zia,vo7 yxy yxh z2h,List.any_cons]
  cases T.any (tgE t)<;>cases tgE t y<;>rfl
theorem vt3 {T:List Tg}:T.any (tgE t)=true↔t∈T:=by
 rw [List.any_eq_true];constructor
 . rintro ⟨y,hy,h⟩;rw [yxx.1 h];exact hy
 . exact fun h=>⟨t,h,yxy t⟩
structure yvj (l:List Stp) (i:Nat) (H:Mb):Prop where
 old:∀ t k,ypi tgE H t=some k->∃ j:Nat,j<i/\k=(j:Int)/\t∈yr8 (l.getD j default)
 all:∀ j,j<i->∀ t∈yr8 (l.getD j default),(ypi tgE H t).isSome=true
theorem yvj.nil (l:List Stp):yvj l 0 []:=⟨fun t k h=>(by cases h),fun j h=>(by omega)⟩
theorem yvj.step {l:List Stp} {i:Nat} {H:Mb} (h:yvj l i H):yvj l (i+1) (addT H i (yr8 (l.getD i default))) where
 old:=by
  intro t k hk;rw [zia] at hk
  cases ha:(yr8 (l.getD i default)).any (tgE t) with
  | true=>
   rw [ha,cond_true] at hk;exact ⟨i,by omega,(Option.some.inj hk).symm,vt3.1 ha⟩
  | false=>
   rw [ha,cond_false] at hk;obtain ⟨j,hj,hk,ht⟩:=h.old t k hk;exact ⟨j,by omega,hk,ht⟩
 all:=by
  intro j hj t ht;rw [zia]
  cases ha:(yr8 (l.getD i default)).any (tgE t) with
  | true=>rfl
  | false=>
   rw [cond_false]
   rcases Nat.lt_succ_iff_lt_or_eq.1 hj with hj | rfl
   . exact h.all j hj t ht
   . rw [vt3.2 ht] at ha;cases ha
theorem zxe {C I:Ms} {N:Mn} {kind:ByteArray} {l:List Stp}:∀(n i:Nat) (H:Mb),n=l.length-i->i<=l.length->yvj l i H->
 (match zds C I N kind (l.drop i) i H with
 | .inl k=>∃ j H',j<l.length/\yvj l j H'/\¬z2w C I N H' kind (l.getD j default)=0/\k=(z2w C I N H' kind (l.getD j default),(j:Int),vq1 (z2w C I N H' kind (l.getD j default)) j H' (l.getD j default))
 | .inr H'=>yvj l l.length H')
 | 0,i,H,hn,hi,hb=>by
  have e:i=l.length:=by omega
  rw [List.drop_of_length_le (by omega),zds];exact e▸hb
 | n+1,i,H,hn,hi,hb=>by
  have hl:i<l.length:=by omega
  rw [xc3 hl,zds];by_cases hw:z2w C I N H kind (l.getD i default)=0
  . rw [hw,decide_eq_false (by simp),cond_false];exact zxe n (i+1) _ (by omega) hl hb.step
  . rw [decide_eq_true hw,cond_true];exact ⟨i,H,hl,hb,hw,rfl⟩
theorem seqc (a b:ByteArray):seq a b=seq b a:=by rw [z8u,z8u,Bool.eq_iff_iff,decide_eq_true_iff,decide_eq_true_iff];exact eq_comm
theorem seqt {a b:ByteArray}:seq a b=true↔a=b:=by rw [z8u,decide_eq_true_iff]
theorem wa0 {a b:Int} {s:ByteArray}:∀{l:List ByteArray},((l.map fun x=>((b,x):Tg)).filter (tgE (a,s))).length=bif decide (a=b) then cntS l s else 0
 | []=>by cases decide (a=b)<;>rfl
 | y::l=>by
  rw [List.map_cons,List.filter_cons];have ih:=wa0 (a:=a) (b:=b) (s:=s) (l:=l);unfold cntS at *;rw [List.filter_cons];show List.length (if (decide (a=b)&&seq s y)=true then _ else _)=_;rw [seqc s y]
  cases hab:decide (a=b) with
  | false=>rw [hab,cond_false] at ih;simpa using ih
  | true=>
   rw [hab,cond_true] at ih
   cases seq y s with
   | true=>simpa using ih
   | false=>simpa using ih
theorem zx8 {x:Stp}:t∈yr8 x↔(∃ s∈x.inn,t=(0,s))\/(∃ s∈x.out,t=(1,s))\/((x.kind=0\/x.kind=1\/x.kind=5)/\t=(2+x.kind,x.name)):=by
 unfold yr8;rw [List.mem_append,List.mem_append,List.mem_map,List.mem_map,or_assoc];refine or_congr ?_ (or_congr ?_ ?_)
 . exact ⟨fun ⟨s,h,e⟩=>⟨s,h,e.symm⟩,fun ⟨s,h,e⟩=>⟨s,h,e.symm⟩⟩
 . exact ⟨fun ⟨s,h,e⟩=>⟨s,h,e.symm⟩,fun ⟨s,h,e⟩=>⟨s,h,e.symm⟩⟩
 . cases hb:(decide (x.kind=0)||(decide (x.kind=1)||decide (x.kind=5))) with
   | false=>simp at hb;simp [hb]
   | true=>
    simp only [Bool.or_eq_true,decide_eq_true_eq] at hb;simp [hb]
theorem v67 {α:Type} {U:α->Us}:∀{l:List α} {c:Scu},(yvi U l c).1=true->c.1=true/\∀ x∈l,(U x).2.1=true/\(U x).2.2=true/\wtn (U x).1=true
 | [],_,h=>⟨h,fun x hx=>by cases hx⟩
 | y::l,c,h=>by
  have ih:=v67 (l:=l) (c:=useM c (U y)) h;have h1:=ih.1;unfold useM at h1;simp only [Bool.and_eq_true] at h1;refine ⟨h1.1,fun x hx=>?_⟩
  rcases List.mem_cons.1 hx with rfl | hx
  . exact ⟨h1.2.1,h1.2.2.1,h1.2.2.2.1⟩
  . exact ih.2 x hx
theorem ybh {s:Sht} (h:vtb s=true) {x:Rcp} (hx:x∈s.recipes) {y:Stp} (hy:y∈x.steps):xn0 y=true:=by
 unfold vtb at h;simp only [Bool.and_eq_true] at h
 have:=((v67 h.2).2 x hx).2.1
 unfold rcpU at this;simp only [Bool.and_eq_true,Bool.not_eq_true',List.any_eq_false] at this;simpa using this.2 y hy
theorem wvi {s:ByteArray} (h:wtn s=true):seq s ⟨#[]⟩=false:=by
 cases hs:seq s ⟨#[]⟩ with
 | false=>rfl
 | true=>
  rw [seqt.1 hs] at h;exact absurd h (by decide +kernel)
end Go.Hp.T
namespace Go.Hp.T
open Go Go.RowKit Go.Slot Go.Hp Go.Slot.T
open Go.Proofs.Tryz (prog)
set_option maxRecDepth 10000
set_option maxHeartbeats 8000000
variable {Γ:List (Nat×List Cell)}
end Go.Hp.T
namespace Go.Hp.T
open Go Go.RowKit Go.Slot Go.Hp Go.Slot.T
set_option maxRecDepth 10000
variable {H:Mb} {i j:Nat} {t:Tg}
def z3o (l:List Stp):Nat->Mb
 | 0=>[]
 | i+1=>addT (z3o l i) i (yr8 (l.getD i default))
theorem w0m (l:List Stp):∀ i,yvj l i (z3o l i)
 | 0=>.nil l
 | i+1=>(w0m l i).step
theorem ysy {C I:Ms} {N:Mn} {kind:ByteArray} {l:List Stp} {H:Mb}:∀(n i:Nat),n=l.length-i->i<=l.length->zds C I N kind (l.drop i) i (z3o l i)=.inr H->(∀ j,i<=j->j<l.length->z2w C I N (z3o l j) kind (l.getD j default)=0)/\H=z3o l l.length
 | 0,i,hn,hi,h=>by
  have e:i=l.length:=by omega
  rw [List.drop_of_length_le (by omega),zds] at h;exact ⟨fun j h1 h2=>by omega,by rw [<-e];exact (Sum.inr.inj h).symm⟩
 | n+1,i,hn,hi,h=>by
  have hl:i<l.length:=by omega
  rw [xc3 hl,zds] at h;by_cases hw:z2w C I N (z3o l i) kind (l.getD i default)=0
  . rw [hw,decide_eq_false (by simp),cond_false] at h;have ih:=ysy n (i+1) (by omega) hl h;refine ⟨fun j h1 h2=>?_,ih.2⟩
    rcases Nat.eq_or_lt_of_le h1 with rfl | h1
    . exact hw
    . exact ih.1 j h1 h2
  . rw [decide_eq_true hw,cond_true] at h
    cases h
structure Acc (s:Sht) (r:Int) (x:Rcp):Prop where
 hR:vtb s=true
 h0:0<=r
 h1:r<s.recipes.length
 hw:∀ i,i<x.steps.length->z2w (vp1 s) (wnc s) (ve8 s) (z3o x.steps i) x.kind (x.steps.getD i default)=0
 hg:(gapR s x (z3o x.steps x.steps.length)).2=false
theorem ys5 {s:Sht} {r:Int} (h:(vt5 s r).1=0):Acc s r (s.recipes.getD r.toNat default):=by
 unfold vt5 at h
 cases hc:(!vtb s||(decide (r<0)||decide ((s.recipes.length:Int)<=r))) with
 | true=>rw [hc] at h;exact absurd h (show ¬(1:Int)=0 by decide)
 | false=>
  rw [hc,cond_false] at h;simp only [Bool.or_eq_false_iff,Bool.not_eq_false',decide_eq_false_iff_not] at hc;obtain ⟨hR,h0,h1⟩:=hc;generalize s.recipes.getD r.toNat default=x at *;have sp:=zxe (C:=vp1 s) (I:=wnc s) (N:=ve8 s) (kind:=x.kind) (l:=x.steps) _ 0 [] rfl (Nat.zero_le _) (.nil _);rw [List.drop_zero] at sp
  cases hL:zds (vp1 s) (wnc s) (ve8 s) x.kind x.steps 0 [] with
  | inl k=>
   rw [hL] at sp h;dsimp only at sp h;obtain ⟨j,H,hj,hb,hw,rfl⟩:=sp;exact absurd h hw
  | inr H=>
   rw [hL] at h;dsimp only at h;have hi:=ysy (l:=x.steps) _ 0 rfl (Nat.zero_le _) hL;obtain ⟨h2,rfl⟩:=hi;refine ⟨hR,by omega,by omega,fun i hi=>h2 i (Nat.zero_le _) hi,?_⟩;unfold endL at h
   cases hg:(gapR s x (z3o x.steps x.steps.length)).2 with
   | false=>rfl
   | true=>rw [hg] at h;exact absurd h (by simp)
theorem xa4 {C I : Ms} {N : Mn} {kind : ByteArray} {x : Stp} : z2w C I N H kind x = 0 ↔ x.inn.any (noMk H) = false ∧ x.cells.any (noCl C) = false ∧ (!(seq x.name ⟨#[]⟩) && (!decide (x.kind = 7) && (ypi tgE N (x.kind, x.name)).isNone)) = false ∧ (decide (x.kind = 0) && !(seq (zj4 I x.name) kind) || x.cells.any (badW C)) = false ∧ dupT H (yr8 x) [] = false := by
 unfold z2w
 cases x.inn.any (noMk H)
 . cases x.cells.any (noCl C)
   . cases (!(seq x.name ⟨#[]⟩)&&(!decide (x.kind=7)&&(ypi tgE N (x.kind,x.name)).isNone))
     . cases (decide (x.kind=0)&&!(seq (zj4 I x.name) kind)||x.cells.any (badW C))
       . cases dupT H (yr8 x) []<;>simp
       . simp
     . simp
   . simp
 . simp
theorem zmx {H:Mb}:∀{T:List Tg} {m:Mn},dupT H T m=false->∀ t∈T,(ypi tgE H t).isSome=false
 | [],_,_,t,ht=>by cases ht
 | y::T,m,h,t,ht=>by
  rw [dupT] at h
  cases h1:(ypi tgE H y).isSome||(ypi tgE m y).isSome with
  | true=>rw [h1] at h;cases h
  | false=>
   rw [h1,cond_false] at h
   rcases List.mem_cons.1 ht with rfl | ht
   . rw [Bool.or_eq_false_iff] at h1;exact h1.1
   . exact zmx h t ht
theorem vfk {x:Stp} {p:ByteArray}:(0,p)∈yr8 x↔p∈x.inn:=by
 rw [zx8];constructor
 . rintro (⟨s,hs,e⟩ | ⟨s,hs,e⟩ | ⟨hk,e⟩)
   . rw [(Prod.mk.inj e).2];exact hs
   . exact absurd (Prod.mk.inj e).1 (by decide)
   . have:=(Prod.mk.inj e).1;omega
 . exact fun h=>.inl ⟨p,h,rfl⟩
theorem x4w {x:Stp} {p:ByteArray}:(1,p)∈yr8 x↔p∈x.out:=by
 rw [zx8];constructor
 . rintro (⟨s,hs,e⟩ | ⟨s,hs,e⟩ | ⟨hk,e⟩)
   . exact absurd (Prod.mk.inj e).1 (by decide)
   . rw [(Prod.mk.inj e).2];exact hs
   . have:=(Prod.mk.inj e).1;omega
 . exact fun h=>.inr (.inl ⟨p,h,rfl⟩)
theorem vgz {α:Type} {o:Option α} (h:¬o.isNone=true):∃ k,o=some k:=by
 cases o with
 | none=>exact absurd rfl h
 | some k=>exact ⟨k,rfl⟩
section
variable {s:Sht} {r:Int} {x:Rcp}
theorem Acc.made (h:Acc s r x) (hi:i<x.steps.length) {p:ByteArray} (hp:p∈(x.steps.getD i default).inn):∃ j,j<i/\p∈(x.steps.getD j default).out:=by
 have h1:=(xa4.1 (h.hw i hi)).1;rw [List.any_eq_false] at h1;obtain ⟨k,hk⟩:=vgz (h1 p hp);obtain ⟨j,hj,_,ht⟩:=(w0m x.steps i).old _ _ hk;exact ⟨j,hj,x4w.1 ht⟩
theorem Acc.once (h:Acc s r x) (hij:i<j) (hj:j<x.steps.length) (hi:t∈yr8 (x.steps.getD i default)):¬t∈yr8 (x.steps.getD j default):=fun ht=>by
 have h1:=zmx (xa4.1 (h.hw j hj)).2.2.2.2 t ht;rw [(w0m x.steps j).all i hij t hi] at h1
 cases h1
theorem Acc.one (h:Acc s r x) (hi:i<x.steps.length) (hj:j<x.steps.length) (h1:t∈yr8 (x.steps.getD i default)) (h2:t∈yr8 (x.steps.getD j default)):i=j:=by
 rcases Nat.lt_trichotomy i j with hh | hh | hh
 . exact absurd h2 (h.once hh hj h1)
 . exact hh
 . exact absurd h1 (h.once hh hi h2)
theorem v5x {l:List Stp} (h:wsq H l=none) (hi:i<l.length) {p:ByteArray} (hp:p∈(l.getD i default).out):¬(ypi tgE H (0,p)).isNone=true:=fun hn=>by
 unfold wsq at h;rw [List.find?_range_eq_none] at h
 have:=h i hi
 unfold xdl at this;simp only [Bool.not_eq_true',List.any_eq_false] at this;exact this p hp hn
theorem Acc.used (h:Acc s r x) (hi:i<x.steps.length) {p:ByteArray} (hp:p∈(x.steps.getD i default).out):∃ j,j<x.steps.length/\p∈(x.steps.getD j default).inn:=by
 have hg:=h.hg;unfold gapR at hg
 cases hu:wsq (z3o x.steps x.steps.length) x.steps with
 | some g=>rw [hu] at hg;cases hg
 | none=>
  obtain ⟨k,hk⟩:=vgz (v5x hu hi hp);obtain ⟨j,hj,_,ht⟩:=(w0m x.steps x.steps.length).old _ _ hk;exact ⟨j,hj,vfk.1 ht⟩
end
section
variable {s:Sht} {r:Int} {k:Nat}
end
end Go.Hp.T
namespace Go.Hp.T
open Go Go.RowKit Go.Slot Go.Hp Go.Slot.T
open Go.Proofs.Tryz (prog)
set_option maxRecDepth 10000
set_option maxHeartbeats 8000000
variable {Γ:List (Nat×List Cell)}
def x0w (l:List Stp) (k:Int) (w:ByteArray):Nat:=(l.filter fun y=>decide (y.kind=k)&&seq y.name w).length
def vw7 (s:Sht) (w:ByteArray):Bool:=bif decide (0<=idxF (fun x:Cel=>seq x.name w) s.cells) then vn0 (s.cells.getD (idxF (fun x:Cel=>seq x.name w) s.cells).toNat default).unit&&zcx (s.cells.getD (idxF (fun x:Cel=>seq x.name w) s.cells).toNat default).unit else false
def whI (x:Rcp) (y:Inp):Bool:=bif seq y.kind x.kind then decide (x0w x.steps 0 y.name=1) else decide (x0w x.steps 0 y.name=0)
def whM (x:Rcp) (y:Imp):Bool:=decide (x0w x.steps 1 y.name=1)
def whP (x:Rcp) (y:Por):Bool:=decide (x0w x.steps 5 y.name=1)
def xim (s:Sht) (y:Stp):Bool:=bif decide (y.kind=0) then s.inputs.any (fun z=>seq z.name y.name) else bif decide (y.kind=1) then s.imports.any (fun z=>seq z.name y.name) else
 bif decide (y.kind=2)||decide (y.kind=6) then s.stores.any (fun z=>seq z.name y.name) else bif decide (y.kind=5) then s.ports.any (fun z=>seq z.name y.name) else true
def whS (s:Sht) (y:Stp):Bool:=xim s y&&y.cells.all (vw7 s)
def zv2 (s:Sht) (x:Rcp):Bool:=x.steps.all (whS s)&&(x.steps.all (fun _=>true)&&(s.inputs.all (whI x)&&(s.imports.all (whM x)&&s.ports.all (whP x))))
end Go.Hp.T
