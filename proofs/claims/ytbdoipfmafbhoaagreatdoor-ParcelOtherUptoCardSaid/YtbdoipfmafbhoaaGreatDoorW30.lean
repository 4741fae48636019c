/- The proof, part W30: 5a, Is, 5b, Nf, 5c. -/
import Derived.Test.YtbdoipfmafbhoaaGreatDoorW29
import Derived.Test.YtbdoipfmafbhoaaGreatDoorW19
namespace Go.Hp.T
open Go Go.RowKit Go.Slot Go.Hp Go.Slot.T
open Go.Proofs.Tryz (prog)
attribute [local irreducible] hide RH
set_option maxRecDepth 10000
set_option maxHeartbeats 8000000
variable {Γ:List (Nat×List Cell)}
def vvl (s:ByteArray):Bool:=isName s&&!isWord s
def wdw (s:ByteArray):Bool:=decide ((vb5 s).2=0)
def amtS (n:Int):Bool:=decide (1<=n)&&decide (n<=1099511627776)
theorem z7y (s:ByteArray) (hs:s.size<=1073741824):CallsD Γ prog 36 [.one (cS s)] (.one (cB (vvl s))):=by
 have h1:=zpx (Γ:=Γ) s (by omega);have h2:=wzc (Γ:=Γ) s;unfold vvl;generalize isName s=a at *;generalize isWord s=b at *;refine CallsD.run [] Go.Proofs.Tryz.func36 rfl rfl rfl ?_;simp only [Go.Proofs.Tryz.f36];refine hgR ?_
 repeat' ((first | refine hfk ?_ ?_<;>intros | refine hik ?_ | with_reducible first | refine y5k (h1) ?_ | refine x4p (h1) ?_ | refine y5k (h2) ?_ | refine x4p (h2) ?_)<;>refine hgS ?_)
 all_goals refine lfE ?_;first | exact trivial | rfl
theorem wcs (s:ByteArray) (hs:s.size<=1073741824):CallsD Γ prog 69 [.one (cS s)] (.one (cB (wdw s))):=by
 have h1:=vwf (Γ:=Γ) s hs;unfold wdw;generalize vb5 s=r at *;refine CallsD.run [] Go.Proofs.Tryz.func69 rfl rfl rfl ?_;simp only [Go.Proofs.Tryz.f69];refine hgR ?_
 repeat' ((first | refine hfk ?_ ?_<;>intros | refine hik ?_ | with_reducible first | refine y5k (h1) ?_ | refine x4p (h1) ?_)<;>refine hgS ?_)
 all_goals refine lfE ?_;first | exact trivial | rfl
theorem zd4 (n:Int):CallsD Γ prog 70 [.one (cI n)] (.one (cB (amtS n))):=by
 unfold amtS;refine CallsD.run [] Go.Proofs.Tryz.func70 rfl rfl rfl ?_;simp only [Go.Proofs.Tryz.f70];refine hgR ?_
 repeat' ((first | refine hfk ?_ ?_<;>intros | refine hik ?_)<;>refine hgS ?_)
 all_goals refine lfE ?_;first | exact trivial | rfl
theorem xe8 (l:List ByteArray) (f:FuncId) (p:ByteArray->Bool) (hl:l.length<=1073741824) (h:∀ y∈l,CallsD Γ prog f [.one (cS y)] (.one (cB (p y)))) :
 CallsD Γ prog 115 [.one (.sl 1 (l.map fun s=>[cS s])),fN f] (.one (cI (idxF p l))):=by
 refine CallsD.run [] Go.Proofs.Tryz.func115 rfl rfl rfl ?_;simp only [Go.Proofs.Tryz.f115];refine hgR ?_;refine wwt [0,1,7] (fun i:Nat=>[(8,.one (.dat (cI i)))]) (fun _=>[]) (fun i=>i<=l.length/\∀ j,j<i->p (l.getD j default)=false) (fun i=>l.length-i) 0 ⟨Nat.zero_le _,fun j hj=>by omega⟩ ?_ ?_
 . refine hg ?_;exact StH.same svl rfl
 intro i hi;obtain ⟨hi,hj⟩:=hi;refine hg ?_
 repeat' ((first | refine hfk ?_ ?_<;>intros | refine hik ?_ | with_reducible first | refine y5k (h _ (wax (show i<l.length by omega))) ?_ | refine x4p (h _ (wax (show i<l.length by omega))) ?_)<;>refine hgS ?_)
 . rename_i hp;rw [(we2 hi hj).2 (by omega) hp];exact RLe.ofEq rfl
 . rename_i hp;exact ⟨i+1,⟨by omega,zbh hj hp⟩,by omega,StH.same svl rfl⟩
 . rw [(we2 hi hj).1 (by omega)];exact RLe.ofEq rfl
theorem vc6 (l:List ByteArray) (f:FuncId) (p:ByteArray->Bool) (hl:l.length<=1073741824) (h:∀ y∈l,CallsD Γ prog f [.one (cS y)] (.one (cB (p y)))) :
 CallsD Γ prog 81 [.one (.sl 1 (l.map fun s=>[cS s])),fN f] (.one (cB (l.any p))):=by
 refine CallsD.run [] Go.Proofs.Tryz.func81 rfl rfl rfl ?_;simp only [Go.Proofs.Tryz.f81];refine hgR ?_
 repeat' ((first | refine hfk ?_ ?_<;>intros | refine hik ?_ | with_reducible first | refine y5k (xe8 l f p hl h) ?_ | refine x4p (xe8 l f p hl h) ?_)<;>refine hgS ?_)
 exact RLe.ofEq (by rw [<-vb3])
theorem wi7 (l:List Stp) (f:FuncId) (p:Stp->Bool) (hl:l.length<=1073741824) (h:∀ y∈l,CallsD Γ prog f [.agg (stpC y)] (.one (cB (p y)))) :
 CallsD Γ prog 75 [.one (.sl 6 (l.map Stp.C)),fN f] (.one (cI (idxF p l))):=by
 refine CallsD.run [] Go.Proofs.Tryz.func75 rfl rfl rfl ?_;simp only [Go.Proofs.Tryz.f75];refine hgR ?_;refine wwt [0,1,7] (fun i:Nat=>[(8,.one (.dat (cI i)))]) (fun _=>[]) (fun i=>i<=l.length/\∀ j,j<i->p (l.getD j default)=false) (fun i=>l.length-i) 0 ⟨Nat.zero_le _,fun j hj=>by omega⟩ ?_ ?_
 . refine hg ?_;exact StH.same svl rfl
 intro i hi;obtain ⟨hi,hj⟩:=hi;refine hg ?_
 repeat' ((first | refine hfk ?_ ?_<;>intros | refine hik ?_ | with_reducible first | refine y5k (h _ (wax (show i<l.length by omega))) ?_ | refine x4p (h _ (wax (show i<l.length by omega))) ?_)<;>refine hgS ?_)
 . rename_i hp;rw [(we2 hi hj).2 (by omega) hp];exact RLe.ofEq rfl
 . rename_i hp;exact ⟨i+1,⟨by omega,zbh hj hp⟩,by omega,StH.same svl rfl⟩
 . rw [(we2 hi hj).1 (by omega)];exact RLe.ofEq rfl
theorem yzm (l:List Stp) (f:FuncId) (p:Stp->Bool) (hl:l.length<=1073741824) (h:∀ y∈l,CallsD Γ prog f [.agg (stpC y)] (.one (cB (p y)))) :
 CallsD Γ prog 40 [.one (.sl 6 (l.map Stp.C)),fN f] (.one (cB (l.any p))):=by
 refine CallsD.run [] Go.Proofs.Tryz.func40 rfl rfl rfl ?_;simp only [Go.Proofs.Tryz.f40];refine hgR ?_
 repeat' ((first | refine hfk ?_ ?_<;>intros | refine hik ?_ | with_reducible first | refine y5k (wi7 l f p hl h) ?_ | refine x4p (wi7 l f p hl h) ?_)<;>refine hgS ?_)
 exact RLe.ofEq (by rw [<-vb3])
theorem yx8 (l:List Prm) (f:FuncId) (p:Prm->Bool) (hl:l.length<=1073741824) (h:∀ y∈l,CallsD Γ prog f [.agg (prmC y)] (.one (cB (p y)))) :
 CallsD Γ prog 103 [.one (.sl 2 (l.map Prm.C)),fN f] (.one (cI (idxF p l))):=by
 refine CallsD.run [] Go.Proofs.Tryz.func103 rfl rfl rfl ?_;simp only [Go.Proofs.Tryz.f103];refine hgR ?_;refine wwt [0,1,7] (fun i:Nat=>[(8,.one (.dat (cI i)))]) (fun _=>[]) (fun i=>i<=l.length/\∀ j,j<i->p (l.getD j default)=false) (fun i=>l.length-i) 0 ⟨Nat.zero_le _,fun j hj=>by omega⟩ ?_ ?_
 . refine hg ?_;exact StH.same svl rfl
 intro i hi;obtain ⟨hi,hj⟩:=hi;refine hg ?_
 repeat' ((first | refine hfk ?_ ?_<;>intros | refine hik ?_ | with_reducible first | refine y5k (h _ (wax (show i<l.length by omega))) ?_ | refine x4p (h _ (wax (show i<l.length by omega))) ?_)<;>refine hgS ?_)
 . rename_i hp;rw [(we2 hi hj).2 (by omega) hp];exact RLe.ofEq rfl
 . rename_i hp;exact ⟨i+1,⟨by omega,zbh hj hp⟩,by omega,StH.same svl rfl⟩
 . rw [(we2 hi hj).1 (by omega)];exact RLe.ofEq rfl
theorem zya (l:List Prm) (f:FuncId) (p:Prm->Bool) (hl:l.length<=1073741824) (h:∀ y∈l,CallsD Γ prog f [.agg (prmC y)] (.one (cB (p y)))) :
 CallsD Γ prog 72 [.one (.sl 2 (l.map Prm.C)),fN f] (.one (cB (l.any p))):=by
 refine CallsD.run [] Go.Proofs.Tryz.func72 rfl rfl rfl ?_;simp only [Go.Proofs.Tryz.f72];refine hgR ?_
 repeat' ((first | refine hfk ?_ ?_<;>intros | refine hik ?_ | with_reducible first | refine y5k (yx8 l f p hl h) ?_ | refine x4p (yx8 l f p hl h) ?_)<;>refine hgS ?_)
 exact RLe.ofEq (by rw [<-vb3])
def v0h (l:List ByteArray) (lo hi:Int):Bool:=decide (lo<=l.length)&&decide ((l.length:Int)<=hi)&&!l.any fun s=>!vvl s
theorem y1x (s:ByteArray) (hs:s.size<=1073741824):CallsD Γ prog 106 [.one (cS s)] (.one (cB (!vvl s))):=by
 have h1:=z7y (Γ:=Γ) s hs;refine CallsD.run [] Go.Proofs.Tryz.func106 rfl rfl rfl ?_;simp only [Go.Proofs.Tryz.f106];refine hgR ?_
 repeat' ((first | refine hfk ?_ ?_<;>intros | refine hik ?_ | with_reducible first | refine y5k (h1) ?_ | refine x4p (h1) ?_)<;>refine hgS ?_)
 all_goals refine lfE ?_;first | exact trivial | rfl
theorem vgy (l:List ByteArray) (lo hi:Int) (hl:l.length<=1073741824) (hs:∀ y∈l,y.size<=1073741824):CallsD Γ prog 77 [.one (xan l),.one (cI lo),.one (cI hi)] (.one (cB (v0h l lo hi))):=by
 have h1:=vc6 (Γ:=Γ) l 106 (fun s=>!vvl s) hl (fun y hy=>y1x y (hs y hy));unfold v0h;generalize (l.any fun s=>!vvl s)=b at *;refine CallsD.run [] Go.Proofs.Tryz.func77 rfl rfl rfl ?_;simp only [Go.Proofs.Tryz.f77];refine hgR ?_
 repeat' ((first | refine hfk ?_ ?_<;>intros | refine hik ?_ | with_reducible first | refine y5k (h1) ?_ | refine x4p (h1) ?_)<;>refine hgS ?_)
 all_goals refine lfE ?_;first | exact trivial | rfl
structure Shp where
 i0:Int
 i1:Int
 o0:Int
 o1:Int
 n:Bool
 c:Bool
 a:Bool
def z6w (k:Int):Shp:=
 bif decide (k=0)||decide (k=1) then ⟨0,0,1,1,true,false,false⟩ else
 bif decide (k=2) then ⟨0,0,1,1,true,false,true⟩ else
 bif decide (k=3) then ⟨1,1,1,100,false,true,false⟩ else
 bif decide (k=4) then ⟨1,100,1,1,false,false,false⟩ else
 bif decide (k=5)||decide (k=7) then ⟨1,1,0,0,true,false,false⟩ else
 bif decide (k=6) then ⟨1,1,0,0,true,false,true⟩ else ⟨1,1,0,0,false,false,false⟩
def zcx (s:Shp) (x:Stp):Bool:=v0h x.inn s.i0 s.i1&&(v0h x.out s.o0 s.o1&&(bif s.c then v0h x.cells x.out.length x.out.length else v0h x.cells 0 0))&&
 (bif s.n then vvl x.name else seq x.name ⟨#[]⟩)&&(bif s.a then amtS x.amount else decide (x.amount=0))
def vyc (x:Stp):Bool:=decide (0<=x.kind)&&decide (x.kind<9)&&zcx (z6w x.kind) x
structure Stp.Sm (x:Stp):Prop where
 il:x.inn.length<=1073741824
 ol:x.out.length<=1073741824
 cl:x.cells.length<=1073741824
 i:∀ y∈x.inn,y.size<=1073741824
 o:∀ y∈x.out,y.size<=1073741824
 c:∀ y∈x.cells,y.size<=1073741824
 n:x.name.size<=1073741824
theorem ynl (x:Stp) (hx:x.Sm):CallsD Γ prog 42 [.agg (stpC x)] (.one (cB (vyc x))):=by
 obtain ⟨k,inn,out,nm,cells,amt⟩:=x
 have hi:=fun a b=>vgy (Γ:=Γ) inn a b hx.il hx.i
 have ho:=fun a b=>vgy (Γ:=Γ) out a b hx.ol hx.o
 have hc:=fun a b=>vgy (Γ:=Γ) cells a b hx.cl hx.c
 have hn:=z7y (Γ:=Γ) nm hx.n;have ha:=zd4 (Γ:=Γ) amt;have hol:=hx.ol;have hz:((0:Nat):Int)=0:=rfl;clear hx;dsimp only at *;by_cases hk:0<=k/\k<9
 . obtain rfl | rfl | rfl | rfl | rfl | rfl | rfl | rfl | rfl:k=0\/k=1\/k=2\/k=3\/k=4\/k=5\/k=6\/k=7\/k=8:=by omega
   . have h1:=hi 0 0;have h2:=ho 1 1;have h3:=hc 0 0;have e:vyc ⟨0,inn,out,nm,cells,amt⟩=(v0h inn 0 0&&(v0h out 1 1&&v0h cells 0 0)&&vvl nm&&decide (amt=0)):=rfl;rw [e];clear e hi ho hc hk;generalize v0h inn 0 0=b1 at *;generalize v0h out 1 1=b2 at *;generalize v0h cells 0 0=b3 at *;generalize vvl nm=b4 at *;clear ha;refine CallsD.run [] Go.Proofs.Tryz.func42 rfl rfl rfl ?_;simp only [Go.Proofs.Tryz.f42];refine hgR ?_
     repeat' ((first | refine hfk ?_ ?_<;>intros | refine hik ?_ | with_reducible first | refine y5k (zpg) ?_ | refine x4p (zpg) ?_ | refine y5k (h1) ?_ | refine x4p (h1) ?_ | refine y5k (h2) ?_ | refine x4p (h2) ?_ | refine y5k (h3) ?_ | refine x4p (h3) ?_ | refine y5k (hn) ?_ | refine x4p (hn) ?_ | refine y5k (ha) ?_ | refine x4p (ha) ?_)<;>refine hgS ?_)
     all_goals refine lfE ?_;first | exact trivial | rfl
   . have h1:=hi 0 0;have h2:=ho 1 1;have h3:=hc 0 0;have e:vyc ⟨1,inn,out,nm,cells,amt⟩=(v0h inn 0 0&&(v0h out 1 1&&v0h cells 0 0)&&vvl nm&&decide (amt=0)):=rfl;rw [e];clear e hi ho hc hk;generalize v0h inn 0 0=b1 at *;generalize v0h out 1 1=b2 at *;generalize v0h cells 0 0=b3 at *;generalize vvl nm=b4 at *;clear ha;refine CallsD.run [] Go.Proofs.Tryz.func42 rfl rfl rfl ?_;simp only [Go.Proofs.Tryz.f42];refine hgR ?_
     repeat' ((first | refine hfk ?_ ?_<;>intros | refine hik ?_ | with_reducible first | refine y5k (zpg) ?_ | refine x4p (zpg) ?_ | refine y5k (h1) ?_ | refine x4p (h1) ?_ | refine y5k (h2) ?_ | refine x4p (h2) ?_ | refine y5k (h3) ?_ | refine x4p (h3) ?_ | refine y5k (hn) ?_ | refine x4p (hn) ?_ | refine y5k (ha) ?_ | refine x4p (ha) ?_)<;>refine hgS ?_)
     all_goals refine lfE ?_;first | exact trivial | rfl
   . have h1:=hi 0 0;have h2:=ho 1 1;have h3:=hc 0 0;have e:vyc ⟨2,inn,out,nm,cells,amt⟩=(v0h inn 0 0&&(v0h out 1 1&&v0h cells 0 0)&&vvl nm&&amtS amt):=rfl;rw [e];clear e hi ho hc hk;generalize v0h inn 0 0=b1 at *;generalize v0h out 1 1=b2 at *;generalize v0h cells 0 0=b3 at *;generalize vvl nm=b4 at *;generalize amtS amt=b5 at *;refine CallsD.run [] Go.Proofs.Tryz.func42 rfl rfl rfl ?_;simp only [Go.Proofs.Tryz.f42];refine hgR ?_
     repeat' ((first | refine hfk ?_ ?_<;>intros | refine hik ?_ | with_reducible first | refine y5k (zpg) ?_ | refine x4p (zpg) ?_ | refine y5k (h1) ?_ | refine x4p (h1) ?_ | refine y5k (h2) ?_ | refine x4p (h2) ?_ | refine y5k (h3) ?_ | refine x4p (h3) ?_ | refine y5k (hn) ?_ | refine x4p (hn) ?_ | refine y5k (ha) ?_ | refine x4p (ha) ?_)<;>refine hgS ?_)
     all_goals refine lfE ?_;first | exact trivial | rfl
   . have h1:=hi 1 1;have h2:=ho 1 100;have h3:=hc out.length out.length;have e:vyc ⟨3,inn,out,nm,cells,amt⟩=(v0h inn 1 1&&(v0h out 1 100&&v0h cells out.length out.length)&&seq nm ⟨#[]⟩&&decide (amt=0)):=rfl;rw [e];clear e hi ho hc hk;generalize v0h inn 1 1=b1 at *;generalize v0h out 1 100=b2 at *;generalize v0h cells out.length out.length=b3 at *;clear hn;clear ha;refine CallsD.run [] Go.Proofs.Tryz.func42 rfl rfl rfl ?_;simp only [Go.Proofs.Tryz.f42];refine hgR ?_
     repeat' ((first | refine hfk ?_ ?_<;>intros | refine hik ?_ | with_reducible first | refine y5k (zpg) ?_ | refine x4p (zpg) ?_ | refine y5k (h1) ?_ | refine x4p (h1) ?_ | refine y5k (h2) ?_ | refine x4p (h2) ?_ | refine y5k (h3) ?_ | refine x4p (h3) ?_ | refine y5k (hn) ?_ | refine x4p (hn) ?_ | refine y5k (ha) ?_ | refine x4p (ha) ?_)<;>refine hgS ?_)
     all_goals try simp only [Decidable.not_not] at *
     all_goals refine lfE ?_;first | exact trivial | rfl
   . have h1:=hi 1 100;have h2:=ho 1 1;have h3:=hc 0 0;have e:vyc ⟨4,inn,out,nm,cells,amt⟩=(v0h inn 1 100&&(v0h out 1 1&&v0h cells 0 0)&&seq nm ⟨#[]⟩&&decide (amt=0)):=rfl;rw [e];clear e hi ho hc hk;generalize v0h inn 1 100=b1 at *;generalize v0h out 1 1=b2 at *;generalize v0h cells 0 0=b3 at *;clear hn;clear ha;refine CallsD.run [] Go.Proofs.Tryz.func42 rfl rfl rfl ?_;simp only [Go.Proofs.Tryz.f42];refine hgR ?_
     repeat' ((first | refine hfk ?_ ?_<;>intros | refine hik ?_ | with_reducible first | refine y5k (zpg) ?_ | refine x4p (zpg) ?_ | refine y5k (h1) ?_ | refine x4p (h1) ?_ | refine y5k (h2) ?_ | refine x4p (h2) ?_ | refine y5k (h3) ?_ | refine x4p (h3) ?_ | refine y5k (hn) ?_ | refine x4p (hn) ?_ | refine y5k (ha) ?_ | refine x4p (ha) ?_)<;>refine hgS ?_)
     all_goals try simp only [Decidable.not_not] at *
     all_goals refine lfE ?_;first | exact trivial | rfl
   . have h1:=hi 1 1;have h2:=ho 0 0;have h3:=hc 0 0;have e:vyc ⟨5,inn,out,nm,cells,amt⟩=(v0h inn 1 1&&(v0h out 0 0&&v0h cells 0 0)&&vvl nm&&decide (amt=0)):=rfl;rw [e];clear e hi ho hc hk;generalize v0h inn 1 1=b1 at *;generalize v0h out 0 0=b2 at *;generalize v0h cells 0 0=b3 at *;generalize vvl nm=b4 at *;clear ha;refine CallsD.run [] Go.Proofs.Tryz.func42 rfl rfl rfl ?_;simp only [Go.Proofs.Tryz.f42];refine hgR ?_
     repeat' ((first | refine hfk ?_ ?_<;>intros | refine hik ?_ | with_reducible first | refine y5k (zpg) ?_ | refine x4p (zpg) ?_ | refine y5k (h1) ?_ | refine x4p (h1) ?_ | refine y5k (h2) ?_ | refine x4p (h2) ?_ | refine y5k (h3) ?_ | refine x4p (h3) ?_ | refine y5k (hn) ?_ | refine x4p (hn) ?_ | refine y5k (ha) ?_ | refine x4p (ha) ?_)<;>refine hgS ?_)
     all_goals refine lfE ?_;first | exact trivial | rfl
   . have h1:=hi 1 1;have h2:=ho 0 0;have h3:=hc 0 0;have e:vyc ⟨6,inn,out,nm,cells,amt⟩=(v0h inn 1 1&&(v0h out 0 0&&v0h cells 0 0)&&vvl nm&&amtS amt):=rfl;rw [e];clear e hi ho hc hk;generalize v0h inn 1 1=b1 at *;generalize v0h out 0 0=b2 at *;generalize v0h cells 0 0=b3 at *;generalize vvl nm=b4 at *;generalize amtS amt=b5 at *;refine CallsD.run [] Go.Proofs.Tryz.func42 rfl rfl rfl ?_;simp only [Go.Proofs.Tryz.f42];refine hgR ?_
     repeat' ((first | refine hfk ?_ ?_<;>intros | refine hik ?_ | with_reducible first | refine y5k (zpg) ?_ | refine x4p (zpg) ?_ | refine y5k (h1) ?_ | refine x4p (h1) ?_ | refine y5k (h2) ?_ | refine x4p (h2) ?_ | refine y5k (h3) ?_ | refine x4p (h3) ?_ | refine y5k (hn) ?_ | refine x4p (hn) ?_ | refine y5k (ha) ?_ | refine x4p (ha) ?_)<;>refine hgS ?_)
     all_goals refine lfE ?_;first | exact trivial | rfl
   . have h1:=hi 1 1;have h2:=ho 0 0;have h3:=hc 0 0;have e:vyc ⟨7,inn,out,nm,cells,amt⟩=(v0h inn 1 1&&(v0h out 0 0&&v0h cells 0 0)&&vvl nm&&decide (amt=0)):=rfl;rw [e];clear e hi ho hc hk;generalize v0h inn 1 1=b1 at *;generalize v0h out 0 0=b2 at *;generalize v0h cells 0 0=b3 at *;generalize vvl nm=b4 at *;clear ha;refine CallsD.run [] Go.Proofs.Tryz.func42 rfl rfl rfl ?_;simp only [Go.Proofs.Tryz.f42];refine hgR ?_
     repeat' ((first | refine hfk ?_ ?_<;>intros | refine hik ?_ | with_reducible first | refine y5k (zpg) ?_ | refine x4p (zpg) ?_ | refine y5k (h1) ?_ | refine x4p (h1) ?_ | refine y5k (h2) ?_ | refine x4p (h2) ?_ | refine y5k (h3) ?_ | refine x4p (h3) ?_ | refine y5k (hn) ?_ | refine x4p (hn) ?_ | refine y5k (ha) ?_ | refine x4p (ha) ?_)<;>refine hgS ?_)
     all_goals refine lfE ?_;first | exact trivial | rfl
   . have h1:=hi 1 1;have h2:=ho 0 0;have h3:=hc 0 0;have e:vyc ⟨8,inn,out,nm,cells,amt⟩=(v0h inn 1 1&&(v0h out 0 0&&v0h cells 0 0)&&seq nm ⟨#[]⟩&&decide (amt=0)):=rfl;rw [e];clear e hi ho hc hk;generalize v0h inn 1 1=b1 at *;generalize v0h out 0 0=b2 at *;generalize v0h cells 0 0=b3 at *;clear hn;clear ha;refine CallsD.run [] Go.Proofs.Tryz.func42 rfl rfl rfl ?_;simp only [Go.Proofs.Tryz.f42];refine hgR ?_
     repeat' ((first | refine hfk ?_ ?_<;>intros | refine hik ?_ | with_reducible first | refine y5k (zpg) ?_ | refine x4p (zpg) ?_ | refine y5k (h1) ?_ | refine x4p (h1) ?_ | refine y5k (h2) ?_ | refine x4p (h2) ?_ | refine y5k (h3) ?_ | refine x4p (h3) ?_ | refine y5k (hn) ?_ | refine x4p (hn) ?_ | refine y5k (ha) ?_ | refine x4p (ha) ?_)<;>refine hgS ?_)
     all_goals try simp only [Decidable.not_not] at *
     all_goals refine lfE ?_;first | exact trivial | rfl
 . have e:vyc ⟨k,inn,out,nm,cells,amt⟩=false:=by
    unfold vyc;by_cases h1:0<=k
    . rw [decide_eq_false (show ¬k<9 by omega)];simp
    . rw [decide_eq_false h1];simp
   rw [e];clear e hi ho hc hn ha;refine CallsD.run [] Go.Proofs.Tryz.func42 rfl rfl rfl ?_;simp only [Go.Proofs.Tryz.f42];refine hgR ?_
   repeat' ((first | refine hfk ?_ ?_<;>intros | refine hik ?_ | with_reducible first | refine y5k (zpg) ?_ | refine x4p (zpg) ?_)<;>refine hgS ?_)
   all_goals try (exfalso;omega)
   all_goals exact RLe.ofEq rfl
end Go.Hp.T
namespace Go.Hp.T
open Go Go.RowKit Go.Slot Go.Hp Go.Slot.T
set_option maxRecDepth 10000
theorem x3e {α:Type} {C:α->SV} (h:∀ r a,vdy r (C a)=C a) (r:Nat->Nat) (l:List (ByteArray×α)):rnSB r (.map (envM C l))=.map (envM C l):=by
 have:(envM C l).map (fun p=>(p.1,vdy r p.2))=envM C l:=by
  induction l with
  | nil=>rfl
  | cons p l ih=>
   show (Value.string p.1,vdy r (C p.2))::(envM C l).map _=_;rw [ih,h];rfl
 show SB.map _=_;rw [this]
theorem xuv {α:Type} {C:α->SV} (h:∀ a,ycp (C a)=[]) (l:List (ByteArray×α)):xoj (.map (envM C l))=[]:=by
 show (envM C l).flatMap (fun p=>ycp p.2)=[]
 induction l with
 | nil=>rfl
 | cons p l ih=>show ycp (C p.2)++(envM C l).flatMap _=[];rw [ih,h];rfl
section
variable {κ α:Type}
def entG (K:κ->Value) (C:α->SV):List (κ×α)->List (Value×SV)
 | []=>[]
 | p::l=>(K p.1,C p.2)::entG K C l
def ynd (eq:κ->κ->Bool):List (κ×α)->κ->Option α
 | [],_=>none
 | p::l,s=>bif eq s p.1 then some p.2 else ynd eq l s
def updG (eq:κ->κ->Bool):List (κ×α)->κ->α->List (κ×α)
 | [],s,v=>[(s,v)]
 | p::l,s,v=>bif eq s p.1 then (s,v)::l else p::updG eq l s v
theorem y7g {K:κ->Value} {C:α->SV} {eq:κ->κ->Bool} (h:∀ a b,kEq (K a) (K b)=some (eq a b)) {s:κ}:∀{l:List (κ×α)},xog (entG K C l) (K s)=some ((ynd eq l s).map C)
 | []=>rfl
 | p::l=>by
  have ih:=y7g h (C:=C) (s:=s) (l:=l);simp only [entG,xog,h,ynd];rw [ih]
  cases eq s p.1<;>rfl
theorem wxg {K:κ->Value} {C:α->SV} {eq:κ->κ->Bool} (h:∀ a b,kEq (K a) (K b)=some (eq a b)) {s:κ} {v:α}:∀{l:List (κ×α)},updM (entG K C l) (K s) (C v)=some (entG K C (updG eq l s v))
 | []=>rfl
 | p::l=>by
  have ih:=wxg h (C:=C) (s:=s) (v:=v) (l:=l);simp only [entG,updM,h,updG];rw [ih]
  cases eq s p.1<;>rfl
theorem zvj {K:κ->Value} {C:α->SV} (h:∀ r a,vdy r (C a)=C a) (r:Nat->Nat) (l:List (κ×α)):rnSB r (.map (entG K C l))=.map (entG K C l):=by
 have:(entG K C l).map (fun p=>(p.1,vdy r p.2))=entG K C l:=by
  induction l with
  | nil=>rfl
  | cons p l ih=>
   show (K p.1,vdy r (C p.2))::(entG K C l).map _=_;rw [ih,h];rfl
 show SB.map _=_;rw [this]
theorem zzg {K:κ->Value} {C:α->SV} (h:∀ a,ycp (C a)=[]) (l:List (κ×α)):xoj (.map (entG K C l))=[]:=by
 show (entG K C l).flatMap (fun p=>ycp p.2)=[]
 induction l with
 | nil=>rfl
 | cons p l ih=>show ycp (C p.2)++(entG K C l).flatMap _=[];rw [ih,h];rfl
end
end Go.Hp.T
namespace Go.Hp.T
open Go Go.RowKit Go.Slot Go.Hp Go.Slot.T
open Go.Proofs.Tryz (prog)
attribute [local irreducible] hide RH
set_option maxRecDepth 10000
set_option maxHeartbeats 8000000
variable {Γ:List (Nat×List Cell)}
abbrev Vu:=List (ByteArray×Unit)
def envU (l:Vu):List (Value×SV):=envM (fun _=>.one (.dat (cB true))) l
theorem ycr {T:Vu} {s:ByteArray}:xog (envU T) (.string s)=some ((yk4 T s).map fun _=>.one (.dat (.raw (.bool true)))):=yu5
theorem zf9 {T:Vu} {s:ByteArray}:updM (envU T) (.string s) (.one (.dat (.raw (.bool true))))=some (envU (updF T s ())):=vmd (C:=fun _:Unit=>.one (.dat (cB true))) (l:=T) (s:=s) (v:=())
theorem w9k {r:Nat->Nat} {l:Vu}:rnSB r (.map (envU l))=.map (envU l):=x3e (fun _ _=>rfl) r l
theorem wmn (l:Vu):xoj (.map (envU l))=[]:=xuv (fun _=>rfl) l
theorem xs2 (l:Vu):(envU l).length=l.length:=zay _ l
attribute [go_sem] wmn ycr zf9 xs2
attribute [go_sem 20000] w9k
abbrev scB (ok:Bool):SB:=.box [.mp 1,.dat (cB ok)] (some 87)
abbrev mU (l:Vu):SB:=.map (envU l)
abbrev Sc:=Bool×Vu
abbrev scBs (c:Sc):List SB:=[scB c.1,mU c.2]
abbrev Us:=ByteArray×Bool×Bool
def useM (c:Sc) (u:Us):Sc:=(c.1&&(u.2.1&&(u.2.2&&(vvl u.1&&!(yk4 c.2 u.1).isSome))),updF c.2 u.1 ())
theorem cUse (c:Sc) (s:ByteArray) (u m:Bool) (hs:s.size<=1073741824):wod Γ prog 39 (scBs c) [.one (.ptr 0 0),.one (.dat (cS s)),.one (.dat (cB u)),.one (.dat (cB m))] (scBs (useM c (s,u,m))) (.tup []):=by
 obtain ⟨ok,T⟩:=c;have hf:=z7y (Γ:=Γ) s hs;unfold useM;dsimp only;generalize vvl s=f at *
 cases hl:yk4 T s with
 | none=>
  simp only [Option.isSome_none,Bool.not_false,Bool.and_true];refine wod.run [] Go.Proofs.Tryz.func39 rfl rfl ?_;simp only [Go.Proofs.Tryz.f39];refine hgR ?_
  repeat' ((first | refine hfk ?_ ?_<;>intros | refine hik ?_ | with_reducible first | refine y5k (hf) ?_ | refine x4p (hf) ?_)<;>refine hgS ?_)
  all_goals
   refine hg1 @hl ?_
   repeat' ((first | refine hfk ?_ ?_<;>intros | refine hik ?_)<;>refine hgS ?_)
  all_goals exact StH.same svl (by simp [*])
 | some x=>
  simp only [Option.isSome_some,Bool.not_true,Bool.and_false];refine wod.run [] Go.Proofs.Tryz.func39 rfl rfl ?_;simp only [Go.Proofs.Tryz.f39];refine hgR ?_
  repeat' ((first | refine hfk ?_ ?_<;>intros | refine hik ?_ | with_reducible first | refine y5k (hf) ?_ | refine x4p (hf) ?_)<;>refine hgS ?_)
  all_goals
   refine hg1 @hl ?_
   repeat' ((first | refine hfk ?_ ?_<;>intros | refine hik ?_)<;>refine hgS ?_)
  all_goals exact StH.same svl (by simp [*])
end Go.Hp.T
namespace Go.Hp
open Go Go.RowKit Go.Slot
variable {P:Program} {Γ:List (Nat×List Cell)} {e:List SB}
theorem xiw {a b:Nat}:Nat.blt a b=decide (a<b):=by
 by_cases h:a<b
 . rw [decide_eq_true h];simpa using h
 . rw [decide_eq_false h]
   cases hh:Nat.blt a b with
   | false=>rfl
   | true=>exact absurd (by simpa using hh) h
end Go.Hp
namespace Go.Hp.T
open Go Go.RowKit Go.Slot Go.Hp Go.Slot.T
open Go.Proofs.Tryz (prog)
set_option maxRecDepth 10000
set_option maxHeartbeats 4000000
variable {Γ:List (Nat×List Cell)}
theorem v27 (l:List HC) (T:Option TypeId):xoj (.box l T)=l.flatMap yfx:=rfl
theorem ylo (c:Cell) (k:Nat) (T:Option TypeId):xoj (.arr c k T)=[]:=rfl
theorem xph:xoj .dead=[]:=rfl
attribute [go_sem] xol ycp yfx v27 ylo xph xiw List.flatMap_cons List.flatMap_nil List.all_append
structure Tb.Sm (t:Tb):Prop where
 n:t.name.size<=1073741824
 u:t.unit.size<=1073741824
 r:t.rows.length<=1073741824
end Go.Hp.T
namespace Go.Hp.T
open Go Go.RowKit Go.Slot Go.Hp Go.Slot.T
open Go.Proofs.Tryz (prog)
attribute [local irreducible] hide RH
set_option maxRecDepth 10000
set_option maxHeartbeats 8000000
variable {Γ:List (Nat×List Cell)}
def impU (x:Imp):Us:=(x.name,wdw x.unit,amtS x.amount&&(decide (0<=x.house)&&(decide (x.house<400)&&(decide (0<=x.version)&&(decide (x.version<=2000)&&vvl x.port)))))
def inpU (x:Inp):Us:=(x.name,wdw x.unit,seq x.kind ⟨#[]⟩||vvl x.kind)
def porU (x:Por):Us:=(x.name,wdw x.unit,amtS x.amount)
def stoU (x:Sto):Us:=(x.name,wdw x.unit,decide (0<=x.rule)&&decide (x.rule<3))
def tabU (x:Tb):Us:=(x.name,true,zwa (fun s=>(vb5 s).2) x)
def fncU (x:Fnc):Us:=(x.name,!x.params.any (fun p=>!vvl p.name||!wdw p.unit),decide (1<=(x.params.length:Int))&&(decide ((x.params.length:Int)<=6)&&wbe x.body))
def celU (x:Cel):Us:=(x.name,wdw x.unit,wbe x.x)
def w0x {α:Type} (U:α->Us) (l:List α) (c:Sc):Sc:=l.foldl (fun c x=>useM c (U x)) c
theorem zpo {α:Type} [Inhabited α] {U:α->Us} {l:List α} {c:Sc} {i:Nat} (h:i<l.length):w0x U (l.take (i+1)) c=useM (w0x U (l.take i) c) (U (l.getD i default)):=by
 unfold w0x;rw [List.take_succ_eq_append_getElem h,List.foldl_append,List.getD_eq_getElem?_getD,List.getElem?_eq_getElem h];rfl
theorem xn5 {α:Type} {U:α->Us} {l:List α} {c:Sc} {i:Nat} (h:l.length<=i):w0x U (l.take i) c=w0x U l c:=by rw [List.take_of_length_le h]
def vzr (s:Sht) (c:Sc):Sc:=w0x stoU s.stores (w0x porU s.ports (w0x inpU s.inputs (w0x impU s.imports c)))
def yq5 (s:Sht) (c:Sc):Sc:=w0x celU s.cells (w0x fncU s.funcs (w0x tabU s.tables c))
structure Sht.Sm (s:Sht):Prop where
 nm:s.name.size<=1073741824
 il:s.imports.length<=1073741824
 nl:s.inputs.length<=1073741824
 tl:s.tables.length<=1073741824
 fl:s.funcs.length<=1073741824
 cl:s.cells.length<=1073741824
 pl:s.ports.length<=1073741824
 sl:s.stores.length<=1073741824
 rl:s.recipes.length<=1073741824
 i:∀ x∈s.imports,x.name.size<=1073741824/\x.unit.size<=1073741824/\x.port.size<=1073741824
 n:∀ x∈s.inputs,x.name.size<=1073741824/\x.unit.size<=1073741824/\x.kind.size<=1073741824
 t:∀ x∈s.tables,x.Sm
 f:∀ x∈s.funcs,x.name.size<=1073741824/\x.params.length<=1073741824/\(∀ y∈x.params,y.name.size<=1073741824/\y.unit.size<=1073741824)/\x.body.Sm
 c:∀ x∈s.cells,x.name.size<=1073741824/\x.unit.size<=1073741824/\x.x.Sm
 p:∀ x∈s.ports,x.name.size<=1073741824/\x.unit.size<=1073741824
 o:∀ x∈s.stores,x.name.size<=1073741824/\x.unit.size<=1073741824
 r:∀ x∈s.recipes,x.kind.size<=1073741824/\x.steps.length<=1073741824/\∀ y∈x.steps,y.Sm
theorem xuu (c:Sc) (l:List SB):[0,1].map (fun j=>(scBs c++l)[j]?)=(scBs c).map (fun x=>some (rnSB (atR [0,1] (scBs c++l).length) x)):=by
 show [some (scB c.1),some (mU c.2)]=[some (rnSB _ (scB c.1)),some (rnSB _ (mU c.2))];rw [w9k];rfl
theorem ye8 (c d:Sc) (l:List SB):putR [0,1] (scBs c++l) (scBs d)=appL [(0,scB d.1),(1,mU d.2)] (scBs c++l):=by
 unfold putR;show appL [(0,rnSB _ (scB d.1)),(1,rnSB _ (mU d.2))] _++[]=_;rw [w9k,List.append_nil];rfl
theorem xx9 (s:Sht) (hs:s.Sm) (c:Sc):wod Γ prog 37 (scBs c) [.one (.ptr 0 0),.agg ((shtC s).map .dat)] (scBs (vzr s c)) (.tup []):=by
 unfold vzr;refine wod.run [] Go.Proofs.Tryz.func37 rfl rfl ?_;simp only [Go.Proofs.Tryz.f37];refine hgR ?_
 repeat' ((first | refine hfk ?_ ?_<;>intros | refine hik ?_)<;>refine hgS ?_)
 refine wwt [0,3,13,14] (fun i:Nat=>[(15,.one (.dat (cI i)))]) (fun i=>scBs (w0x impU (s.imports.take i) c)++[.box ((shtC s).map .dat) (some 31)])
  (fun i=>i<=s.imports.length) (fun i=>s.imports.length-i) 0 (Nat.zero_le _) ?_ ?_
 . refine hg ?_;exact StH.same svl rfl
 intro i hi;have hsl:=hs.il;refine hg ?_;refine zcl (fun hlt _=>?_) (fun hlt _=>?_)
 . have hlt':i<s.imports.length:=by omega
   have hy:=hs.i _ (wax hlt');have hU:=zpo (U:=impU) (c:=c) hlt';clear hs;have c1:=wcs (Γ:=Γ) (s.imports.getD i default).unit hy.2.1;have c2:=zd4 (Γ:=Γ) (s.imports.getD i default).amount;have c3:=z7y (Γ:=Γ) (s.imports.getD i default).port hy.2.2;generalize w0x impU (s.imports.take i) c=d at *;refine hg ?_
   repeat' ((first | refine hfk ?_ ?_<;>intros | refine hik ?_ | with_reducible first | refine y5k (c1) ?_ | refine x4p (c1) ?_ | refine y5k (c2) ?_ | refine x4p (c2) ?_ | refine y5k (c3) ?_ | refine x4p (c3) ?_)<;>refine hgS ?_)
   all_goals generalize s.imports.getD i default=x at *
   all_goals first
    | (have hE:impU x=(x.name,wdw x.unit,false):=by simp [impU, *]
       rw [hE] at hU;refine ykh [0,1] [(0,scB (useM d (x.name,wdw x.unit,false)).1),(1,mU (useM d (x.name,wdw x.unit,false)).2)] (cUse d _ _ _ hy.1) rfl (by decide) rfl (xuu d _) rfl (ye8 d _ _) ?_;refine hg ?_
       repeat' ((first | refine hfk ?_ ?_<;>intros | refine hik ?_)<;>refine hgS ?_)
       refine ⟨i+1,by omega,by omega,?_⟩;rw [hU];refine StH.cutN [0,3,13,14,15] 3 rfl ?_ ?_
       . refine hg ?_;exact trivial
       exact StH.same svl rfl)
    | (have hE:impU x=(x.name,wdw x.unit,vvl x.port):=by simp [impU, *]
       rw [hE] at hU;refine ykh [0,1] [(0,scB (useM d (x.name,wdw x.unit,vvl x.port)).1),(1,mU (useM d (x.name,wdw x.unit,vvl x.port)).2)] (cUse d _ _ _ hy.1) rfl (by decide) rfl (xuu d _) rfl (ye8 d _ _) ?_;refine hg ?_
       repeat' ((first | refine hfk ?_ ?_<;>intros | refine hik ?_)<;>refine hgS ?_)
       refine ⟨i+1,by omega,by omega,?_⟩;rw [hU];refine StH.cutN [0,3,13,14,15] 3 rfl ?_ ?_
       . refine hg ?_;exact trivial
       exact StH.same svl rfl)
 rw [xn5 (show s.imports.length<=i by omega)];refine hg ?_;refine wwt [0,3,56,57] (fun i:Nat=>[(58,.one (.dat (cI i)))]) (fun i=>scBs (w0x inpU (s.inputs.take i) (w0x impU s.imports c))++[.box ((shtC s).map .dat) (some 31)])
  (fun i=>i<=s.inputs.length) (fun i=>s.inputs.length-i) 0 (Nat.zero_le _) ?_ ?_
 . refine hg ?_;exact StH.same svl rfl
 intro i hi;have hsl:=hs.nl;refine hg ?_;refine zcl (fun hlt _=>?_) (fun hlt _=>?_)
 . have hlt':i<s.inputs.length:=by omega
   have hy:=hs.n _ (wax hlt');have hU:=zpo (U:=inpU) (c:=(w0x impU s.imports c)) hlt';clear hs;have c1:=wcs (Γ:=Γ) (s.inputs.getD i default).unit hy.2.1;have c2:=z7y (Γ:=Γ) (s.inputs.getD i default).kind hy.2.2;generalize w0x inpU (s.inputs.take i) (w0x impU s.imports c)=d at *;refine hg ?_
   repeat' ((first | refine hfk ?_ ?_<;>intros | refine hik ?_ | with_reducible first | refine y5k (c1) ?_ | refine x4p (c1) ?_ | refine y5k (c2) ?_ | refine x4p (c2) ?_)<;>refine hgS ?_)
   all_goals generalize s.inputs.getD i default=x at *
   all_goals first
    | (have hE:inpU x=(x.name,wdw x.unit,true):=by simp [inpU,xz8, *]
       rw [hE] at hU;refine ykh [0,1] [(0,scB (useM d (x.name,wdw x.unit,true)).1),(1,mU (useM d (x.name,wdw x.unit,true)).2)] (cUse d _ _ _ hy.1) rfl (by decide) rfl (xuu d _) rfl (ye8 d _ _) ?_;refine hg ?_
       repeat' ((first | refine hfk ?_ ?_<;>intros | refine hik ?_)<;>refine hgS ?_)
       refine ⟨i+1,by omega,by omega,?_⟩;rw [hU];refine StH.cutN [0,3,56,57,58] 3 rfl ?_ ?_
       . refine hg ?_;exact trivial
       exact StH.same svl rfl)
    | (have hE:inpU x=(x.name,wdw x.unit,vvl x.kind):=by simp [inpU,xz8, *]
       rw [hE] at hU;refine ykh [0,1] [(0,scB (useM d (x.name,wdw x.unit,vvl x.kind)).1),(1,mU (useM d (x.name,wdw x.unit,vvl x.kind)).2)] (cUse d _ _ _ hy.1) rfl (by decide) rfl (xuu d _) rfl (ye8 d _ _) ?_;refine hg ?_
       repeat' ((first | refine hfk ?_ ?_<;>intros | refine hik ?_)<;>refine hgS ?_)
       refine ⟨i+1,by omega,by omega,?_⟩;rw [hU];refine StH.cutN [0,3,56,57,58] 3 rfl ?_ ?_
       . refine hg ?_;exact trivial
       exact StH.same svl rfl)
 rw [xn5 (show s.inputs.length<=i by omega)];refine hg ?_;refine wwt [0,3,79,80] (fun i:Nat=>[(81,.one (.dat (cI i)))]) (fun i=>scBs (w0x porU (s.ports.take i) (w0x inpU s.inputs (w0x impU s.imports c)))++[.box ((shtC s).map .dat) (some 31)])
  (fun i=>i<=s.ports.length) (fun i=>s.ports.length-i) 0 (Nat.zero_le _) ?_ ?_
 . refine hg ?_;exact StH.same svl rfl
 intro i hi;have hsl:=hs.pl;refine hg ?_;refine zcl (fun hlt _=>?_) (fun hlt _=>?_)
 . have hlt':i<s.ports.length:=by omega
   have hy:=hs.p _ (wax hlt');have hU:=zpo (U:=porU) (c:=(w0x inpU s.inputs (w0x impU s.imports c))) hlt';clear hs;have c1:=wcs (Γ:=Γ) (s.ports.getD i default).unit hy.2;have c2:=zd4 (Γ:=Γ) (s.ports.getD i default).amount;generalize w0x porU (s.ports.take i) (w0x inpU s.inputs (w0x impU s.imports c))=d at *;refine hg ?_
   repeat' ((first | refine hfk ?_ ?_<;>intros | refine hik ?_ | with_reducible first | refine y5k (c1) ?_ | refine x4p (c1) ?_ | refine y5k (c2) ?_ | refine x4p (c2) ?_)<;>refine hgS ?_)
   all_goals generalize s.ports.getD i default=x at *
   all_goals first
    | (have hE:porU x=(x.name,wdw x.unit,amtS x.amount):=by simp [porU, *]
       rw [hE] at hU;refine ykh [0,1] [(0,scB (useM d (x.name,wdw x.unit,amtS x.amount)).1),(1,mU (useM d (x.name,wdw x.unit,amtS x.amount)).2)] (cUse d _ _ _ hy.1) rfl (by decide) rfl (xuu d _) rfl (ye8 d _ _) ?_;refine hg ?_
       repeat' ((first | refine hfk ?_ ?_<;>intros | refine hik ?_)<;>refine hgS ?_)
       refine ⟨i+1,by omega,by omega,?_⟩;rw [hU];refine StH.cutN [0,3,79,80,81] 3 rfl ?_ ?_
       . refine hg ?_;exact trivial
       exact StH.same svl rfl)
 rw [xn5 (show s.ports.length<=i by omega)];refine hg ?_;refine wwt [0,97,98] (fun i:Nat=>[(99,.one (.dat (cI i)))]) (fun i=>scBs (w0x stoU (s.stores.take i) (w0x porU s.ports (w0x inpU s.inputs (w0x impU s.imports c))))++[.box ((shtC s).map .dat) (some 31)])
  (fun i=>i<=s.stores.length) (fun i=>s.stores.length-i) 0 (Nat.zero_le _) ?_ ?_
 . refine hg ?_;exact StH.same svl rfl
 intro i hi;have hsl:=hs.sl;refine hg ?_;refine zcl (fun hlt _=>?_) (fun hlt _=>?_)
 . have hlt':i<s.stores.length:=by omega
   have hy:=hs.o _ (wax hlt');have hU:=zpo (U:=stoU) (c:=(w0x porU s.ports (w0x inpU s.inputs (w0x impU s.imports c)))) hlt';clear hs;have c1:=wcs (Γ:=Γ) (s.stores.getD i default).unit hy.2;generalize w0x stoU (s.stores.take i) (w0x porU s.ports (w0x inpU s.inputs (w0x impU s.imports c)))=d at *;refine hg ?_
   repeat' ((first | refine hfk ?_ ?_<;>intros | refine hik ?_ | with_reducible first | refine y5k (c1) ?_ | refine x4p (c1) ?_)<;>refine hgS ?_)
   all_goals generalize s.stores.getD i default=x at *
   all_goals first
    | (have hE:stoU x=(x.name,wdw x.unit,false):=by simp [stoU, *]
       rw [hE] at hU;refine ykh [0,1] [(0,scB (useM d (x.name,wdw x.unit,false)).1),(1,mU (useM d (x.name,wdw x.unit,false)).2)] (cUse d _ _ _ hy.1) rfl (by decide) rfl (xuu d _) rfl (ye8 d _ _) ?_;refine hg ?_
       repeat' ((first | refine hfk ?_ ?_<;>intros | refine hik ?_)<;>refine hgS ?_)
       refine ⟨i+1,by omega,by omega,?_⟩;rw [hU];refine StH.cutN [0,97,98,99] 3 rfl ?_ ?_
       . refine hg ?_;exact trivial
       exact StH.same svl rfl)
    | (have hE:stoU x=(x.name,wdw x.unit,decide (x.rule<3)):=by simp [stoU, *]
       rw [hE] at hU;refine ykh [0,1] [(0,scB (useM d (x.name,wdw x.unit,decide (x.rule<3))).1),(1,mU (useM d (x.name,wdw x.unit,decide (x.rule<3))).2)] (cUse d _ _ _ hy.1) rfl (by decide) rfl (xuu d _) rfl (ye8 d _ _) ?_;refine hg ?_
       repeat' ((first | refine hfk ?_ ?_<;>intros | refine hik ?_)<;>refine hgS ?_)
       refine ⟨i+1,by omega,by omega,?_⟩;rw [hU];refine StH.cutN [0,97,98,99] 3 rfl ?_ ?_
       . refine hg ?_;exact trivial
       exact StH.same svl rfl)
 rw [xn5 (show s.stores.length<=i by omega)];refine hg ?_;refine StH.cutN [0] 2 rfl ?_ ?_
 . refine hg ?_;exact trivial
 exact StH.same svl rfl
theorem wul (x:Prm) (h1:x.name.size<=1073741824) (h2:x.unit.size<=1073741824):CallsD Γ prog 73 [.agg (prmC x)] (.one (cB (!vvl x.name||!wdw x.unit))):=by
 have c1:=z7y (Γ:=Γ) x.name h1;have c2:=wcs (Γ:=Γ) x.unit h2;generalize vvl x.name=b1 at *;generalize wdw x.unit=b2 at *;refine CallsD.run [] Go.Proofs.Tryz.func73 rfl rfl rfl ?_;simp only [Go.Proofs.Tryz.f73];refine hgR ?_
 repeat' ((first | refine hfk ?_ ?_<;>intros | refine hik ?_ | with_reducible first | refine y5k (c1) ?_ | refine x4p (c1) ?_ | refine y5k (c2) ?_ | refine x4p (c2) ?_)<;>refine hgS ?_)
 all_goals refine lfE ?_;first | exact trivial | rfl
theorem v62 (s:Sht) (hs:s.Sm) (c:Sc):wod Γ prog 38 (scBs c) [.one (.ptr 0 0),.agg ((shtC s).map .dat)] (scBs (yq5 s c)) (.tup []):=by
 unfold yq5;refine wod.run [] Go.Proofs.Tryz.func38 rfl rfl ?_;simp only [Go.Proofs.Tryz.f38];refine hgR ?_
 repeat' ((first | refine hfk ?_ ?_<;>intros | refine hik ?_)<;>refine hgS ?_)
 refine wwt [0,3,12,13] (fun i:Nat=>[(14,.one (.dat (cI i)))]) (fun i=>scBs (w0x tabU (s.tables.take i) c)++[.box ((shtC s).map .dat) (some 31)])
  (fun i=>i<=s.tables.length) (fun i=>s.tables.length-i) 0 (Nat.zero_le _) ?_ ?_
 . refine hg ?_;exact StH.same svl rfl
 intro i hi;have hsl:=hs.tl;refine hg ?_;refine zcl (fun hlt _=>?_) (fun hlt _=>?_)
 . have hlt':i<s.tables.length:=by omega
   have hy:=hs.t _ (wax hlt');have hU:=zpo (U:=tabU) (c:=c) hlt';clear hs;have c1:=z4h (Γ:=Γ) (s.tables.getD i default) hy.n hy.u hy.r;generalize w0x tabU (s.tables.take i) c=d at *;refine hg ?_
   repeat' ((first | refine hfk ?_ ?_<;>intros | refine hik ?_ | with_reducible first | refine y5k (c1) ?_ | refine x4p (c1) ?_)<;>refine hgS ?_)
   all_goals generalize s.tables.getD i default=x at *
   all_goals first
    | (have hE:tabU x=(x.name,true,zwa (fun s=>(vb5 s).2) x):=by simp [tabU, *]
       rw [hE] at hU;refine ykh [0,1] [(0,scB (useM d (x.name,true,zwa (fun s=>(vb5 s).2) x)).1),(1,mU (useM d (x.name,true,zwa (fun s=>(vb5 s).2) x)).2)] (cUse d _ _ _ hy.n) rfl (by decide) rfl (xuu d _) rfl (ye8 d _ _) ?_;refine hg ?_
       repeat' ((first | refine hfk ?_ ?_<;>intros | refine hik ?_)<;>refine hgS ?_)
       refine ⟨i+1,by omega,by omega,?_⟩;rw [hU];refine StH.cutN [0,3,12,13,14] 3 rfl ?_ ?_
       . refine hg ?_;exact trivial
       exact StH.same svl rfl)
 rw [xn5 (show s.tables.length<=i by omega)];refine hg ?_;refine wwt [0,3,26,27] (fun i:Nat=>[(28,.one (.dat (cI i)))]) (fun i=>scBs (w0x fncU (s.funcs.take i) (w0x tabU s.tables c))++[.box ((shtC s).map .dat) (some 31)])
  (fun i=>i<=s.funcs.length) (fun i=>s.funcs.length-i) 0 (Nat.zero_le _) ?_ ?_
 . refine hg ?_;exact StH.same svl rfl
 intro i hi;have hsl:=hs.fl;refine hg ?_;refine zcl (fun hlt _=>?_) (fun hlt _=>?_)
 . have hlt':i<s.funcs.length:=by omega
   have hy:=hs.f _ (wax hlt');have hU:=zpo (U:=fncU) (c:=(w0x tabU s.tables c)) hlt';clear hs;have c1:=zya (Γ:=Γ) (s.funcs.getD i default).params 73 (fun p=>!vvl p.name||!wdw p.unit) hy.2.1 (fun y hh=>wul y (hy.2.2.1 y hh).1 (hy.2.2.1 y hh).2);have c2:=vc7 (Γ:=Γ) (s.funcs.getD i default).body hy.2.2.2;generalize w0x fncU (s.funcs.take i) (w0x tabU s.tables c)=d at *;refine hg ?_
   repeat' ((first | refine hfk ?_ ?_<;>intros | refine hik ?_ | with_reducible first | refine y5k (c1) ?_ | refine x4p (c1) ?_ | refine y5k (c2) ?_ | refine x4p (c2) ?_)<;>refine hgS ?_)
   all_goals generalize s.funcs.getD i default=x at *
   all_goals first
    | (have hE:fncU x=(x.name,!x.params.any (fun p=>!vvl p.name||!wdw p.unit),false):=by simp [fncU, *]
       rw [hE] at hU;refine ykh [0,1] [(0,scB (useM d (x.name,!x.params.any (fun p=>!vvl p.name||!wdw p.unit),false)).1),(1,mU (useM d (x.name,!x.params.any (fun p=>!vvl p.name||!wdw p.unit),false)).2)] (cUse d _ _ _ hy.1) rfl (by decide) rfl (xuu d _) rfl (ye8 d _ _) ?_;refine hg ?_
       repeat' ((first | refine hfk ?_ ?_<;>intros | refine hik ?_)<;>refine hgS ?_)
       refine ⟨i+1,by omega,by omega,?_⟩;rw [hU];refine StH.cutN [0,3,26,27,28] 3 rfl ?_ ?_
       . refine hg ?_;exact trivial
       exact StH.same svl rfl)
    | (have hE:fncU x=(x.name,!x.params.any (fun p=>!vvl p.name||!wdw p.unit),wbe x.body):=by simp [fncU, *]
       rw [hE] at hU;refine ykh [0,1] [(0,scB (useM d (x.name,!x.params.any (fun p=>!vvl p.name||!wdw p.unit),wbe x.body)).1),(1,mU (useM d (x.name,!x.params.any (fun p=>!vvl p.name||!wdw p.unit),wbe x.body)).2)] (cUse d _ _ _ hy.1) rfl (by decide) rfl (xuu d _) rfl (ye8 d _ _) ?_;refine hg ?_
       repeat' ((first | refine hfk ?_ ?_<;>intros | refine hik ?_)<;>refine hgS ?_)
       refine ⟨i+1,by omega,by omega,?_⟩;rw [hU];refine StH.cutN [0,3,26,27,28] 3 rfl ?_ ?_
       . refine hg ?_;exact trivial
       exact StH.same svl rfl)
 rw [xn5 (show s.funcs.length<=i by omega)];refine hg ?_;refine wwt [0,58,59] (fun i:Nat=>[(60,.one (.dat (cI i)))]) (fun i=>scBs (w0x celU (s.cells.take i) (w0x fncU s.funcs (w0x tabU s.tables c)))++[.box ((shtC s).map .dat) (some 31)])
  (fun i=>i<=s.cells.length) (fun i=>s.cells.length-i) 0 (Nat.zero_le _) ?_ ?_
 . refine hg ?_;exact StH.same svl rfl
 intro i hi;have hsl:=hs.cl;refine hg ?_;refine zcl (fun hlt _=>?_) (fun hlt _=>?_)
 . have hlt':i<s.cells.length:=by omega
   have hy:=hs.c _ (wax hlt');have hU:=zpo (U:=celU) (c:=(w0x fncU s.funcs (w0x tabU s.tables c))) hlt';clear hs;have c1:=wcs (Γ:=Γ) (s.cells.getD i default).unit hy.2.1;have c2:=vc7 (Γ:=Γ) (s.cells.getD i default).x hy.2.2;generalize w0x celU (s.cells.take i) (w0x fncU s.funcs (w0x tabU s.tables c))=d at *;refine hg ?_
   repeat' ((first | refine hfk ?_ ?_<;>intros | refine hik ?_ | with_reducible first | refine y5k (c1) ?_ | refine x4p (c1) ?_ | refine y5k (c2) ?_ | refine x4p (c2) ?_)<;>refine hgS ?_)
   all_goals generalize s.cells.getD i default=x at *
   all_goals first
    | (have hE:celU x=(x.name,wdw x.unit,wbe x.x):=by simp [celU, *]
       rw [hE] at hU;refine ykh [0,1] [(0,scB (useM d (x.name,wdw x.unit,wbe x.x)).1),(1,mU (useM d (x.name,wdw x.unit,wbe x.x)).2)] (cUse d _ _ _ hy.1) rfl (by decide) rfl (xuu d _) rfl (ye8 d _ _) ?_;refine hg ?_
       repeat' ((first | refine hfk ?_ ?_<;>intros | refine hik ?_)<;>refine hgS ?_)
       refine ⟨i+1,by omega,by omega,?_⟩;rw [hU];refine StH.cutN [0,58,59,60] 3 rfl ?_ ?_
       . refine hg ?_;exact trivial
       exact StH.same svl rfl)
 rw [xn5 (show s.cells.length<=i by omega)];refine hg ?_;refine StH.cutN [0] 2 rfl ?_ ?_
 . refine hg ?_;exact trivial
 exact StH.same svl rfl
end Go.Hp.T
