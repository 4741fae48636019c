/- The proof, part Z29: 5a, Is, 5b, Nf, 5c. -/
import Derived.Test.YtbdoipfmafbhoaaGreatDoorZ28
import Derived.Test.YtbdoipfmafbhoaaGreatDoorZ18
namespace Go.Hp.T
open Go Go.RowKit Go.Slot Go.Hp Go.Slot.T
open Go.Proofs.Tryz (prog)
attribute [local irreducible] hide RH
set_option maxRecDepth 10000
set_option maxHeartbeats 8000000
variable {Γ:List (Nat×List Cell)}
def wgk (s:ByteArray):Bool:=isName s&&!isWord s
def wau (s:ByteArray):Bool:=decide ((xnx s).2=0)
def amtS (n:Int):Bool:=decide (1<=n)&&decide (n<=1099511627776)
theorem xb6 (s:ByteArray) (hs:s.size<=1073741824):CallsD Γ prog 36 [.one (cS s)] (.one (cB (wgk s))):=by
 have h1:=yzo (Γ:=Γ) s (by omega);have h2:=w5c (Γ:=Γ) s;unfold wgk;generalize isName s=a at *;generalize isWord s=b at *;refine CallsD.run [] Go.Proofs.Tryz.func36 rfl rfl rfl ?_;simp only [Go.Proofs.Tryz.f36];refine hgR ?_
 repeat' ((first | refine hfk ?_ ?_<;>intros | refine hik ?_ | with_reducible first | refine wud (h1) ?_ | refine vqe (h1) ?_ | refine wud (h2) ?_ | refine vqe (h2) ?_)<;>refine hgS ?_)
 all_goals refine lfE ?_;first | exact trivial | rfl
theorem xvz (s:ByteArray) (hs:s.size<=1073741824):CallsD Γ prog 69 [.one (cS s)] (.one (cB (wau s))):=by
 have h1:=yv4 (Γ:=Γ) s hs;unfold wau;generalize xnx s=r at *;refine CallsD.run [] Go.Proofs.Tryz.func69 rfl rfl rfl ?_;simp only [Go.Proofs.Tryz.f69];refine hgR ?_
 repeat' ((first | refine hfk ?_ ?_<;>intros | refine hik ?_ | with_reducible first | refine wud (h1) ?_ | refine vqe (h1) ?_)<;>refine hgS ?_)
 all_goals refine lfE ?_;first | exact trivial | rfl
theorem vyw (n:Int):CallsD Γ prog 70 [.one (cI n)] (.one (cB (amtS n))):=by
 unfold amtS;refine CallsD.run [] Go.Proofs.Tryz.func70 rfl rfl rfl ?_;simp only [Go.Proofs.Tryz.f70];refine hgR ?_
 repeat' ((first | refine hfk ?_ ?_<;>intros | refine hik ?_)<;>refine hgS ?_)
 all_goals refine lfE ?_;first | exact trivial | rfl
theorem w6m (l:List ByteArray) (f:FuncId) (p:ByteArray->Bool) (hl:l.length<=1073741824) (h:∀ y∈l,CallsD Γ prog f [.one (cS y)] (.one (cB (p y)))) :
 CallsD Γ prog 115 [.one (.sl 1 (l.map fun s=>[cS s])),fN f] (.one (cI (idxF p l))):=by
 refine CallsD.run [] Go.Proofs.Tryz.func115 rfl rfl rfl ?_;simp only [Go.Proofs.Tryz.f115];refine hgR ?_;refine xou [0,1,7] (fun i:Nat=>[(8,.one (.dat (cI i)))]) (fun _=>[]) (fun i=>i<=l.length/\∀ j,j<i->p (l.getD j default)=false) (fun i=>l.length-i) 0 ⟨Nat.zero_le _,fun j hj=>by omega⟩ ?_ ?_
 . refine hg ?_;exact StH.same svl rfl
 intro i hi;obtain ⟨hi,hj⟩:=hi;refine hg ?_
 repeat' ((first | refine hfk ?_ ?_<;>intros | refine hik ?_ | with_reducible first | refine wud (h _ (wip (show i<l.length by omega))) ?_ | refine vqe (h _ (wip (show i<l.length by omega))) ?_)<;>refine hgS ?_)
 . rename_i hp;rw [(xs8 hi hj).2 (by omega) hp];exact RLe.ofEq rfl
 . rename_i hp;exact ⟨i+1,⟨by omega,yht hj hp⟩,by omega,StH.same svl rfl⟩
 . rw [(xs8 hi hj).1 (by omega)];exact RLe.ofEq rfl
theorem w0z (l:List ByteArray) (f:FuncId) (p:ByteArray->Bool) (hl:l.length<=1073741824) (h:∀ y∈l,CallsD Γ prog f [.one (cS y)] (.one (cB (p y)))) :
 CallsD Γ prog 81 [.one (.sl 1 (l.map fun s=>[cS s])),fN f] (.one (cB (l.any p))):=by
 refine CallsD.run [] Go.Proofs.Tryz.func81 rfl rfl rfl ?_;simp only [Go.Proofs.Tryz.f81];refine hgR ?_
 repeat' ((first | refine hfk ?_ ?_<;>intros | refine hik ?_ | with_reducible first | refine wud (w6m l f p hl h) ?_ | refine vqe (w6m l f p hl h) ?_)<;>refine hgS ?_)
 exact RLe.ofEq (by rw [<-xrh])
theorem v0o (l:List Stp) (f:FuncId) (p:Stp->Bool) (hl:l.length<=1073741824) (h:∀ y∈l,CallsD Γ prog f [.agg (stpC y)] (.one (cB (p y)))) :
 CallsD Γ prog 75 [.one (.sl 6 (l.map Stp.C)),fN f] (.one (cI (idxF p l))):=by
 refine CallsD.run [] Go.Proofs.Tryz.func75 rfl rfl rfl ?_;simp only [Go.Proofs.Tryz.f75];refine hgR ?_;refine xou [0,1,7] (fun i:Nat=>[(8,.one (.dat (cI i)))]) (fun _=>[]) (fun i=>i<=l.length/\∀ j,j<i->p (l.getD j default)=false) (fun i=>l.length-i) 0 ⟨Nat.zero_le _,fun j hj=>by omega⟩ ?_ ?_
 . refine hg ?_;exact StH.same svl rfl
 intro i hi;obtain ⟨hi,hj⟩:=hi;refine hg ?_
 repeat' ((first | refine hfk ?_ ?_<;>intros | refine hik ?_ | with_reducible first | refine wud (h _ (wip (show i<l.length by omega))) ?_ | refine vqe (h _ (wip (show i<l.length by omega))) ?_)<;>refine hgS ?_)
 . rename_i hp;rw [(xs8 hi hj).2 (by omega) hp];exact RLe.ofEq rfl
 . rename_i hp;exact ⟨i+1,⟨by omega,yht hj hp⟩,by omega,StH.same svl rfl⟩
 . rw [(xs8 hi hj).1 (by omega)];exact RLe.ofEq rfl
theorem xng (l:List Stp) (f:FuncId) (p:Stp->Bool) (hl:l.length<=1073741824) (h:∀ y∈l,CallsD Γ prog f [.agg (stpC y)] (.one (cB (p y)))) :
 CallsD Γ prog 40 [.one (.sl 6 (l.map Stp.C)),fN f] (.one (cB (l.any p))):=by
 refine CallsD.run [] Go.Proofs.Tryz.func40 rfl rfl rfl ?_;simp only [Go.Proofs.Tryz.f40];refine hgR ?_
 repeat' ((first | refine hfk ?_ ?_<;>intros | refine hik ?_ | with_reducible first | refine wud (v0o l f p hl h) ?_ | refine vqe (v0o l f p hl h) ?_)<;>refine hgS ?_)
 exact RLe.ofEq (by rw [<-xrh])
theorem zwn (l:List Prm) (f:FuncId) (p:Prm->Bool) (hl:l.length<=1073741824) (h:∀ y∈l,CallsD Γ prog f [.agg (prmC y)] (.one (cB (p y)))) :
 CallsD Γ prog 103 [.one (.sl 2 (l.map Prm.C)),fN f] (.one (cI (idxF p l))):=by
 refine CallsD.run [] Go.Proofs.Tryz.func103 rfl rfl rfl ?_;simp only [Go.Proofs.Tryz.f103];refine hgR ?_;refine xou [0,1,7] (fun i:Nat=>[(8,.one (.dat (cI i)))]) (fun _=>[]) (fun i=>i<=l.length/\∀ j,j<i->p (l.getD j default)=false) (fun i=>l.length-i) 0 ⟨Nat.zero_le _,fun j hj=>by omega⟩ ?_ ?_
 . refine hg ?_;exact StH.same svl rfl
 intro i hi;obtain ⟨hi,hj⟩:=hi;refine hg ?_
 repeat' ((first | refine hfk ?_ ?_<;>intros | refine hik ?_ | with_reducible first | refine wud (h _ (wip (show i<l.length by omega))) ?_ | refine vqe (h _ (wip (show i<l.length by omega))) ?_)<;>refine hgS ?_)
 . rename_i hp;rw [(xs8 hi hj).2 (by omega) hp];exact RLe.ofEq rfl
 . rename_i hp;exact ⟨i+1,⟨by omega,yht hj hp⟩,by omega,StH.same svl rfl⟩
 . rw [(xs8 hi hj).1 (by omega)];exact RLe.ofEq rfl
theorem ve6 (l:List Prm) (f:FuncId) (p:Prm->Bool) (hl:l.length<=1073741824) (h:∀ y∈l,CallsD Γ prog f [.agg (prmC y)] (.one (cB (p y)))) :
 CallsD Γ prog 72 [.one (.sl 2 (l.map Prm.C)),fN f] (.one (cB (l.any p))):=by
 refine CallsD.run [] Go.Proofs.Tryz.func72 rfl rfl rfl ?_;simp only [Go.Proofs.Tryz.f72];refine hgR ?_
 repeat' ((first | refine hfk ?_ ?_<;>intros | refine hik ?_ | with_reducible first | refine wud (zwn l f p hl h) ?_ | refine vqe (zwn l f p hl h) ?_)<;>refine hgS ?_)
 exact RLe.ofEq (by rw [<-xrh])
def z1r (l:List ByteArray) (lo hi:Int):Bool:=decide (lo<=l.length)&&decide ((l.length:Int)<=hi)&&!l.any fun s=>!wgk s
theorem ykv (s:ByteArray) (hs:s.size<=1073741824):CallsD Γ prog 106 [.one (cS s)] (.one (cB (!wgk s))):=by
 have h1:=xb6 (Γ:=Γ) s hs;refine CallsD.run [] Go.Proofs.Tryz.func106 rfl rfl rfl ?_;simp only [Go.Proofs.Tryz.f106];refine hgR ?_
 repeat' ((first | refine hfk ?_ ?_<;>intros | refine hik ?_ | with_reducible first | refine wud (h1) ?_ | refine vqe (h1) ?_)<;>refine hgS ?_)
 all_goals refine lfE ?_;first | exact trivial | rfl
theorem yps (l:List ByteArray) (lo hi:Int) (hl:l.length<=1073741824) (hs:∀ y∈l,y.size<=1073741824):CallsD Γ prog 77 [.one (x5v l),.one (cI lo),.one (cI hi)] (.one (cB (z1r l lo hi))):=by
 have h1:=w0z (Γ:=Γ) l 106 (fun s=>!wgk s) hl (fun y hy=>ykv y (hs y hy));unfold z1r;generalize (l.any fun s=>!wgk s)=b at *;refine CallsD.run [] Go.Proofs.Tryz.func77 rfl rfl rfl ?_;simp only [Go.Proofs.Tryz.f77];refine hgR ?_
 repeat' ((first | refine hfk ?_ ?_<;>intros | refine hik ?_ | with_reducible first | refine wud (h1) ?_ | refine vqe (h1) ?_)<;>refine hgS ?_)
 all_goals refine lfE ?_;first | exact trivial | rfl
structure Shp where
 i0:Int
 i1:Int
 o0:Int
 o1:Int
 n:Bool
 c:Bool
 a:Bool
def yfy (k:Int):Shp:=
 bif decide (k=0)||decide (k=1) then ⟨0,0,1,1,true,false,false⟩ else
 bif decide (k=2) then ⟨0,0,1,1,true,false,true⟩ else
 bif decide (k=3) then ⟨1,1,1,100,false,true,false⟩ else
 bif decide (k=4) then ⟨1,100,1,1,false,false,false⟩ else
 bif decide (k=5)||decide (k=7) then ⟨1,1,0,0,true,false,false⟩ else
 bif decide (k=6) then ⟨1,1,0,0,true,false,true⟩ else ⟨1,1,0,0,false,false,false⟩
def yzn (s:Shp) (x:Stp):Bool:=z1r x.inn s.i0 s.i1&&(z1r x.out s.o0 s.o1&&(bif s.c then z1r x.cells x.out.length x.out.length else z1r x.cells 0 0))&&
 (bif s.n then wgk x.name else seq x.name ⟨#[]⟩)&&(bif s.a then amtS x.amount else decide (x.amount=0))
def z7o (x:Stp):Bool:=decide (0<=x.kind)&&decide (x.kind<9)&&yzn (yfy x.kind) x
structure Stp.Sm (x:Stp):Prop where
 il:x.inn.length<=1073741824
 ol:x.out.length<=1073741824
 cl:x.cells.length<=1073741824
 i:∀ y∈x.inn,y.size<=1073741824
 o:∀ y∈x.out,y.size<=1073741824
 c:∀ y∈x.cells,y.size<=1073741824
 n:x.name.size<=1073741824
theorem yw1 (x:Stp) (hx:x.Sm):CallsD Γ prog 42 [.agg (stpC x)] (.one (cB (z7o x))):=by
 obtain ⟨k,inn,out,nm,cells,amt⟩:=x
 have hi:=fun a b=>yps (Γ:=Γ) inn a b hx.il hx.i
 have ho:=fun a b=>yps (Γ:=Γ) out a b hx.ol hx.o
 have hc:=fun a b=>yps (Γ:=Γ) cells a b hx.cl hx.c
 have hn:=xb6 (Γ:=Γ) nm hx.n;have ha:=vyw (Γ:=Γ) amt;have hol:=hx.ol;have hz:((0:Nat):Int)=0:=rfl;clear hx;dsimp only at *;by_cases hk:0<=k/\k<9
 . obtain rfl | rfl | rfl | rfl | rfl | rfl | rfl | rfl | rfl:k=0\/k=1\/k=2\/k=3\/k=4\/k=5\/k=6\/k=7\/k=8:=by omega
   . have h1:=hi 0 0;have h2:=ho 1 1;have h3:=hc 0 0;have e:z7o ⟨0,inn,out,nm,cells,amt⟩=(z1r inn 0 0&&(z1r out 1 1&&z1r cells 0 0)&&wgk nm&&decide (amt=0)):=rfl;rw [e];clear e hi ho hc hk;generalize z1r inn 0 0=b1 at *;generalize z1r out 1 1=b2 at *;generalize z1r cells 0 0=b3 at *;generalize wgk nm=b4 at *;clear ha;refine CallsD.run [] Go.Proofs.Tryz.func42 rfl rfl rfl ?_;simp only [Go.Proofs.Tryz.f42];refine hgR ?_
     repeat' ((first | refine hfk ?_ ?_<;>intros | refine hik ?_ | with_reducible first | refine wud (xpi) ?_ | refine vqe (xpi) ?_ | refine wud (h1) ?_ | refine vqe (h1) ?_ | refine wud (h2) ?_ | refine vqe (h2) ?_ | refine wud (h3) ?_ | refine vqe (h3) ?_ | refine wud (hn) ?_ | refine vqe (hn) ?_ | refine wud (ha) ?_ | refine vqe (ha) ?_)<;>refine hgS ?_)
     all_goals refine lfE ?_;first | exact trivial | rfl
   . have h1:=hi 0 0;have h2:=ho 1 1;have h3:=hc 0 0;have e:z7o ⟨1,inn,out,nm,cells,amt⟩=(z1r inn 0 0&&(z1r out 1 1&&z1r cells 0 0)&&wgk nm&&decide (amt=0)):=rfl;rw [e];clear e hi ho hc hk;generalize z1r inn 0 0=b1 at *;generalize z1r out 1 1=b2 at *;generalize z1r cells 0 0=b3 at *;generalize wgk nm=b4 at *;clear ha;refine CallsD.run [] Go.Proofs.Tryz.func42 rfl rfl rfl ?_;simp only [Go.Proofs.Tryz.f42];refine hgR ?_
     repeat' ((first | refine hfk ?_ ?_<;>intros | refine hik ?_ | with_reducible first | refine wud (xpi) ?_ | refine vqe (xpi) ?_ | refine wud (h1) ?_ | refine vqe (h1) ?_ | refine wud (h2) ?_ | refine vqe (h2) ?_ | refine wud (h3) ?_ | refine vqe (h3) ?_ | refine wud (hn) ?_ | refine vqe (hn) ?_ | refine wud (ha) ?_ | refine vqe (ha) ?_)<;>refine hgS ?_)
     all_goals refine lfE ?_;first | exact trivial | rfl
   . have h1:=hi 0 0;have h2:=ho 1 1;have h3:=hc 0 0;have e:z7o ⟨2,inn,out,nm,cells,amt⟩=(z1r inn 0 0&&(z1r out 1 1&&z1r cells 0 0)&&wgk nm&&amtS amt):=rfl;rw [e];clear e hi ho hc hk;generalize z1r inn 0 0=b1 at *;generalize z1r out 1 1=b2 at *;generalize z1r cells 0 0=b3 at *;generalize wgk nm=b4 at *;generalize amtS amt=b5 at *;refine CallsD.run [] Go.Proofs.Tryz.func42 rfl rfl rfl ?_;simp only [Go.Proofs.Tryz.f42];refine hgR ?_
     repeat' ((first | refine hfk ?_ ?_<;>intros | refine hik ?_ | with_reducible first | refine wud (xpi) ?_ | refine vqe (xpi) ?_ | refine wud (h1) ?_ | refine vqe (h1) ?_ | refine wud (h2) ?_ | refine vqe (h2) ?_ | refine wud (h3) ?_ | refine vqe (h3) ?_ | refine wud (hn) ?_ | refine vqe (hn) ?_ | refine wud (ha) ?_ | refine vqe (ha) ?_)<;>refine hgS ?_)
     all_goals refine lfE ?_;first | exact trivial | rfl
   . have h1:=hi 1 1;have h2:=ho 1 100;have h3:=hc out.length out.length;have e:z7o ⟨3,inn,out,nm,cells,amt⟩=(z1r inn 1 1&&(z1r out 1 100&&z1r cells out.length out.length)&&seq nm ⟨#[]⟩&&decide (amt=0)):=rfl;rw [e];clear e hi ho hc hk;generalize z1r inn 1 1=b1 at *;generalize z1r out 1 100=b2 at *;generalize z1r cells out.length out.length=b3 at *;clear hn;clear ha;refine CallsD.run [] Go.Proofs.Tryz.func42 rfl rfl rfl ?_;simp only [Go.Proofs.Tryz.f42];refine hgR ?_
     repeat' ((first | refine hfk ?_ ?_<;>intros | refine hik ?_ | with_reducible first | refine wud (xpi) ?_ | refine vqe (xpi) ?_ | refine wud (h1) ?_ | refine vqe (h1) ?_ | refine wud (h2) ?_ | refine vqe (h2) ?_ | refine wud (h3) ?_ | refine vqe (h3) ?_ | refine wud (hn) ?_ | refine vqe (hn) ?_ | refine wud (ha) ?_ | refine vqe (ha) ?_)<;>refine hgS ?_)
     all_goals try simp only [Decidable.not_not] at *
     all_goals refine lfE ?_;first | exact trivial | rfl
   . have h1:=hi 1 100;have h2:=ho 1 1;have h3:=hc 0 0;have e:z7o ⟨4,inn,out,nm,cells,amt⟩=(z1r inn 1 100&&(z1r out 1 1&&z1r cells 0 0)&&seq nm ⟨#[]⟩&&decide (amt=0)):=rfl;rw [e];clear e hi ho hc hk;generalize z1r inn 1 100=b1 at *;generalize z1r out 1 1=b2 at *;generalize z1r cells 0 0=b3 at *;clear hn;clear ha;refine CallsD.run [] Go.Proofs.Tryz.func42 rfl rfl rfl ?_;simp only [Go.Proofs.Tryz.f42];refine hgR ?_
     repeat' ((first | refine hfk ?_ ?_<;>intros | refine hik ?_ | with_reducible first | refine wud (xpi) ?_ | refine vqe (xpi) ?_ | refine wud (h1) ?_ | refine vqe (h1) ?_ | refine wud (h2) ?_ | refine vqe (h2) ?_ | refine wud (h3) ?_ | refine vqe (h3) ?_ | refine wud (hn) ?_ | refine vqe (hn) ?_ | refine wud (ha) ?_ | refine vqe (ha) ?_)<;>refine hgS ?_)
     all_goals try simp only [Decidable.not_not] at *
     all_goals refine lfE ?_;first | exact trivial | rfl
   . have h1:=hi 1 1;have h2:=ho 0 0;have h3:=hc 0 0;have e:z7o ⟨5,inn,out,nm,cells,amt⟩=(z1r inn 1 1&&(z1r out 0 0&&z1r cells 0 0)&&wgk nm&&decide (amt=0)):=rfl;rw [e];clear e hi ho hc hk;generalize z1r inn 1 1=b1 at *;generalize z1r out 0 0=b2 at *;generalize z1r cells 0 0=b3 at *;generalize wgk nm=b4 at *;clear ha;refine CallsD.run [] Go.Proofs.Tryz.func42 rfl rfl rfl ?_;simp only [Go.Proofs.Tryz.f42];refine hgR ?_
     repeat' ((first | refine hfk ?_ ?_<;>intros | refine hik ?_ | with_reducible first | refine wud (xpi) ?_ | refine vqe (xpi) ?_ | refine wud (h1) ?_ | refine vqe (h1) ?_ | refine wud (h2) ?_ | refine vqe (h2) ?_ | refine wud (h3) ?_ | refine vqe (h3) ?_ | refine wud (hn) ?_ | refine vqe (hn) ?_ | refine wud (ha) ?_ | refine vqe (ha) ?_)<;>refine hgS ?_)
     all_goals refine lfE ?_;first | exact trivial | rfl
   . have h1:=hi 1 1;have h2:=ho 0 0;have h3:=hc 0 0;have e:z7o ⟨6,inn,out,nm,cells,amt⟩=(z1r inn 1 1&&(z1r out 0 0&&z1r cells 0 0)&&wgk nm&&amtS amt):=rfl;rw [e];clear e hi ho hc hk;generalize z1r inn 1 1=b1 at *;generalize z1r out 0 0=b2 at *;generalize z1r cells 0 0=b3 at *;generalize wgk nm=b4 at *;generalize amtS amt=b5 at *;refine CallsD.run [] Go.Proofs.Tryz.func42 rfl rfl rfl ?_;simp only [Go.Proofs.Tryz.f42];refine hgR ?_
     repeat' ((first | refine hfk ?_ ?_<;>intros | refine hik ?_ | with_reducible first | refine wud (xpi) ?_ | refine vqe (xpi) ?_ | refine wud (h1) ?_ | refine vqe (h1) ?_ | refine wud (h2) ?_ | refine vqe (h2) ?_ | refine wud (h3) ?_ | refine vqe (h3) ?_ | refine wud (hn) ?_ | refine vqe (hn) ?_ | refine wud (ha) ?_ | refine vqe (ha) ?_)<;>refine hgS ?_)
     all_goals refine lfE ?_;first | exact trivial | rfl
   . have h1:=hi 1 1;have h2:=ho 0 0;have h3:=hc 0 0;have e:z7o ⟨7,inn,out,nm,cells,amt⟩=(z1r inn 1 1&&(z1r out 0 0&&z1r cells 0 0)&&wgk nm&&decide (amt=0)):=rfl;rw [e];clear e hi ho hc hk;generalize z1r inn 1 1=b1 at *;generalize z1r out 0 0=b2 at *;generalize z1r cells 0 0=b3 at *;generalize wgk nm=b4 at *;clear ha;refine CallsD.run [] Go.Proofs.Tryz.func42 rfl rfl rfl ?_;simp only [Go.Proofs.Tryz.f42];refine hgR ?_
     repeat' ((first | refine hfk ?_ ?_<;>intros | refine hik ?_ | with_reducible first | refine wud (xpi) ?_ | refine vqe (xpi) ?_ | refine wud (h1) ?_ | refine vqe (h1) ?_ | refine wud (h2) ?_ | refine vqe (h2) ?_ | refine wud (h3) ?_ | refine vqe (h3) ?_ | refine wud (hn) ?_ | refine vqe (hn) ?_ | refine wud (ha) ?_ | refine vqe (ha) ?_)<;>refine hgS ?_)
     all_goals refine lfE ?_;first | exact trivial | rfl
   . have h1:=hi 1 1;have h2:=ho 0 0;have h3:=hc 0 0;have e:z7o ⟨8,inn,out,nm,cells,amt⟩=(z1r inn 1 1&&(z1r out 0 0&&z1r cells 0 0)&&seq nm ⟨#[]⟩&&decide (amt=0)):=rfl;rw [e];clear e hi ho hc hk;generalize z1r inn 1 1=b1 at *;generalize z1r out 0 0=b2 at *;generalize z1r cells 0 0=b3 at *;clear hn;clear ha;refine CallsD.run [] Go.Proofs.Tryz.func42 rfl rfl rfl ?_;simp only [Go.Proofs.Tryz.f42];refine hgR ?_
     repeat' ((first | refine hfk ?_ ?_<;>intros | refine hik ?_ | with_reducible first | refine wud (xpi) ?_ | refine vqe (xpi) ?_ | refine wud (h1) ?_ | refine vqe (h1) ?_ | refine wud (h2) ?_ | refine vqe (h2) ?_ | refine wud (h3) ?_ | refine vqe (h3) ?_ | refine wud (hn) ?_ | refine vqe (hn) ?_ | refine wud (ha) ?_ | refine vqe (ha) ?_)<;>refine hgS ?_)
     all_goals try simp only [Decidable.not_not] at *
     all_goals refine lfE ?_;first | exact trivial | rfl
 . have e:z7o ⟨k,inn,out,nm,cells,amt⟩=false:=by
    unfold z7o;by_cases h1:0<=k
    . rw [decide_eq_false (show ¬k<9 by omega)];simp
    . rw [decide_eq_false h1];simp
   rw [e];clear e hi ho hc hn ha;refine CallsD.run [] Go.Proofs.Tryz.func42 rfl rfl rfl ?_;simp only [Go.Proofs.Tryz.f42];refine hgR ?_
   repeat' ((first | refine hfk ?_ ?_<;>intros | refine hik ?_ | with_reducible first | refine wud (xpi) ?_ | refine vqe (xpi) ?_)<;>refine hgS ?_)
   all_goals try (exfalso;omega)
   all_goals exact RLe.ofEq rfl
end Go.Hp.T
namespace Go.Hp.T
open Go Go.RowKit Go.Slot Go.Hp Go.Slot.T
set_option maxRecDepth 10000
theorem zxp {α:Type} {C:α->SV} (h:∀ r a,yo3 r (C a)=C a) (r:Nat->Nat) (l:List (ByteArray×α)):rnSB r (.map (envM C l))=.map (envM C l):=by
 have:(envM C l).map (fun p=>(p.1,yo3 r p.2))=envM C l:=by
  induction l with
  | nil=>rfl
  | cons p l ih=>
   show (Value.string p.1,yo3 r (C p.2))::(envM C l).map _=_;rw [ih,h];rfl
 show SB.map _=_;rw [this]
theorem xq4 {α:Type} {C:α->SV} (h:∀ a,wiu (C a)=[]) (l:List (ByteArray×α)):vv2 (.map (envM C l))=[]:=by
 show (envM C l).flatMap (fun p=>wiu p.2)=[]
 induction l with
 | nil=>rfl
 | cons p l ih=>show wiu (C p.2)++(envM C l).flatMap _=[];rw [ih,h];rfl
section
variable {κ α:Type}
def entG (K:κ->Value) (C:α->SV):List (κ×α)->List (Value×SV)
 | []=>[]
 | p::l=>(K p.1,C p.2)::entG K C l
def z7x (eq:κ->κ->Bool):List (κ×α)->κ->Option α
 | [],_=>none
 | p::l,s=>bif eq s p.1 then some p.2 else z7x eq l s
def updG (eq:κ->κ->Bool):List (κ×α)->κ->α->List (κ×α)
 | [],s,v=>[(s,v)]
 | p::l,s,v=>bif eq s p.1 then (s,v)::l else p::updG eq l s v
theorem za2 {K:κ->Value} {C:α->SV} {eq:κ->κ->Bool} (h:∀ a b,kEq (K a) (K b)=some (eq a b)) {s:κ}:∀{l:List (κ×α)},yul (entG K C l) (K s)=some ((z7x eq l s).map C)
 | []=>rfl
 | p::l=>by
  have ih:=za2 h (C:=C) (s:=s) (l:=l);simp only [entG,yul,h,z7x];rw [ih]
  cases eq s p.1<;>rfl
theorem wzs {K:κ->Value} {C:α->SV} {eq:κ->κ->Bool} (h:∀ a b,kEq (K a) (K b)=some (eq a b)) {s:κ} {v:α}:∀{l:List (κ×α)},updM (entG K C l) (K s) (C v)=some (entG K C (updG eq l s v))
 | []=>rfl
 | p::l=>by
  have ih:=wzs h (C:=C) (s:=s) (v:=v) (l:=l);simp only [entG,updM,h,updG];rw [ih]
  cases eq s p.1<;>rfl
theorem v1x {K:κ->Value} {C:α->SV} (h:∀ r a,yo3 r (C a)=C a) (r:Nat->Nat) (l:List (κ×α)):rnSB r (.map (entG K C l))=.map (entG K C l):=by
 have:(entG K C l).map (fun p=>(p.1,yo3 r p.2))=entG K C l:=by
  induction l with
  | nil=>rfl
  | cons p l ih=>
   show (K p.1,yo3 r (C p.2))::(entG K C l).map _=_;rw [ih,h];rfl
 show SB.map _=_;rw [this]
theorem x4j {K:κ->Value} {C:α->SV} (h:∀ a,wiu (C a)=[]) (l:List (κ×α)):vv2 (.map (entG K C l))=[]:=by
 show (entG K C l).flatMap (fun p=>wiu p.2)=[]
 induction l with
 | nil=>rfl
 | cons p l ih=>show wiu (C p.2)++(entG K C l).flatMap _=[];rw [ih,h];rfl
end
end Go.Hp.T
namespace Go.Hp.T
open Go Go.RowKit Go.Slot Go.Hp Go.Slot.T
open Go.Proofs.Tryz (prog)
attribute [local irreducible] hide RH
set_option maxRecDepth 10000
set_option maxHeartbeats 8000000
variable {Γ:List (Nat×List Cell)}
abbrev Vu:=List (ByteArray×Unit)
def envU (l:Vu):List (Value×SV):=envM (fun _=>.one (.dat (cB true))) l
theorem x89 {T:Vu} {s:ByteArray}:yul (envU T) (.string s)=some ((vua T s).map fun _=>.one (.dat (.raw (.bool true)))):=ya1
theorem z2v {T:Vu} {s:ByteArray}:updM (envU T) (.string s) (.one (.dat (.raw (.bool true))))=some (envU (updF T s ())):=va9 (C:=fun _:Unit=>.one (.dat (cB true))) (l:=T) (s:=s) (v:=())
theorem xbm {r:Nat->Nat} {l:Vu}:rnSB r (.map (envU l))=.map (envU l):=zxp (fun _ _=>rfl) r l
theorem yrb (l:Vu):vv2 (.map (envU l))=[]:=xq4 (fun _=>rfl) l
theorem z8o (l:Vu):(envU l).length=l.length:=y0d _ l
attribute [go_sem] yrb x89 z2v z8o
attribute [go_sem 20000] xbm
abbrev scB (ok:Bool):SB:=.box [.mp 1,.dat (cB ok)] (some 87)
abbrev mU (l:Vu):SB:=.map (envU l)
abbrev Sc:=Bool×Vu
abbrev scBs (c:Sc):List SB:=[scB c.1,mU c.2]
abbrev Us:=ByteArray×Bool×Bool
def useM (c:Sc) (u:Us):Sc:=(c.1&&(u.2.1&&(u.2.2&&(wgk u.1&&!(vua c.2 u.1).isSome))),updF c.2 u.1 ())
theorem cUse (c:Sc) (s:ByteArray) (u m:Bool) (hs:s.size<=1073741824):yev Γ prog 39 (scBs c) [.one (.ptr 0 0),.one (.dat (cS s)),.one (.dat (cB u)),.one (.dat (cB m))] (scBs (useM c (s,u,m))) (.tup []):=by
 obtain ⟨ok,T⟩:=c;have hf:=xb6 (Γ:=Γ) s hs;unfold useM;dsimp only;generalize wgk s=f at *
 cases hl:vua T s with
 | none=>
  simp only [Option.isSome_none,Bool.not_false,Bool.and_true];refine yev.run [] Go.Proofs.Tryz.func39 rfl rfl ?_;simp only [Go.Proofs.Tryz.f39];refine hgR ?_
  repeat' ((first | refine hfk ?_ ?_<;>intros | refine hik ?_ | with_reducible first | refine wud (hf) ?_ | refine vqe (hf) ?_)<;>refine hgS ?_)
  all_goals
   refine hg1 @hl ?_
   repeat' ((first | refine hfk ?_ ?_<;>intros | refine hik ?_)<;>refine hgS ?_)
  all_goals exact StH.same svl (by simp [*])
 | some x=>
  simp only [Option.isSome_some,Bool.not_true,Bool.and_false];refine yev.run [] Go.Proofs.Tryz.func39 rfl rfl ?_;simp only [Go.Proofs.Tryz.f39];refine hgR ?_
  repeat' ((first | refine hfk ?_ ?_<;>intros | refine hik ?_ | with_reducible first | refine wud (hf) ?_ | refine vqe (hf) ?_)<;>refine hgS ?_)
  all_goals
   refine hg1 @hl ?_
   repeat' ((first | refine hfk ?_ ?_<;>intros | refine hik ?_)<;>refine hgS ?_)
  all_goals exact StH.same svl (by simp [*])
end Go.Hp.T
namespace Go.Hp
open Go Go.RowKit Go.Slot
variable {P:Program} {Γ:List (Nat×List Cell)} {e:List SB}
theorem xrn {a b:Nat}:Nat.blt a b=decide (a<b):=by
 by_cases h:a<b
 . rw [decide_eq_true h];simpa using h
 . rw [decide_eq_false h]
   cases hh:Nat.blt a b with
   | false=>rfl
   | true=>exact absurd (by simpa using hh) h
end Go.Hp
namespace Go.Hp.T
open Go Go.RowKit Go.Slot Go.Hp Go.Slot.T
open Go.Proofs.Tryz (prog)
set_option maxRecDepth 10000
set_option maxHeartbeats 4000000
variable {Γ:List (Nat×List Cell)}
theorem x0j (l:List HC) (T:Option TypeId):vv2 (.box l T)=l.flatMap zv4:=rfl
theorem vsj (c:Cell) (k:Nat) (T:Option TypeId):vv2 (.arr c k T)=[]:=rfl
theorem z3p:vv2 .dead=[]:=rfl
attribute [go_sem] ye4 wiu zv4 x0j vsj z3p xrn List.flatMap_cons List.flatMap_nil List.all_append
structure Tb.Sm (t:Tb):Prop where
 n:t.name.size<=1073741824
 u:t.unit.size<=1073741824
 r:t.rows.length<=1073741824
end Go.Hp.T
namespace Go.Hp.T
open Go Go.RowKit Go.Slot Go.Hp Go.Slot.T
open Go.Proofs.Tryz (prog)
attribute [local irreducible] hide RH
set_option maxRecDepth 10000
set_option maxHeartbeats 8000000
variable {Γ:List (Nat×List Cell)}
def impU (x:Imp):Us:=(x.name,wau x.unit,amtS x.amount&&(decide (0<=x.house)&&(decide (x.house<400)&&(decide (0<=x.version)&&(decide (x.version<=2000)&&wgk x.port)))))
def inpU (x:Inp):Us:=(x.name,wau x.unit,seq x.kind ⟨#[]⟩||wgk x.kind)
def porU (x:Por):Us:=(x.name,wau x.unit,amtS x.amount)
def stoU (x:Sto):Us:=(x.name,wau x.unit,decide (0<=x.rule)&&decide (x.rule<3))
def tabU (x:Tb):Us:=(x.name,true,wcg (fun s=>(xnx s).2) x)
def fncU (x:Fnc):Us:=(x.name,!x.params.any (fun p=>!wgk p.name||!wau p.unit),decide (1<=(x.params.length:Int))&&(decide ((x.params.length:Int)<=6)&&v93 x.body))
def celU (x:Cel):Us:=(x.name,wau x.unit,v93 x.x)
def wlp {α:Type} (U:α->Us) (l:List α) (c:Sc):Sc:=l.foldl (fun c x=>useM c (U x)) c
theorem zpl {α:Type} [Inhabited α] {U:α->Us} {l:List α} {c:Sc} {i:Nat} (h:i<l.length):wlp U (l.take (i+1)) c=useM (wlp U (l.take i) c) (U (l.getD i default)):=by
 unfold wlp;rw [List.take_succ_eq_append_getElem h,List.foldl_append,List.getD_eq_getElem?_getD,List.getElem?_eq_getElem h];rfl
theorem vvj {α:Type} {U:α->Us} {l:List α} {c:Sc} {i:Nat} (h:l.length<=i):wlp U (l.take i) c=wlp U l c:=by rw [List.take_of_length_le h]
def vh3 (s:Sht) (c:Sc):Sc:=wlp stoU s.stores (wlp porU s.ports (wlp inpU s.inputs (wlp impU s.imports c)))
def xhm (s:Sht) (c:Sc):Sc:=wlp celU s.cells (wlp fncU s.funcs (wlp tabU s.tables c))
structure Sht.Sm (s:Sht):Prop where
 nm:s.name.size<=1073741824
 il:s.imports.length<=1073741824
 nl:s.inputs.length<=1073741824
 tl:s.tables.length<=1073741824
 fl:s.funcs.length<=1073741824
 cl:s.cells.length<=1073741824
 pl:s.ports.length<=1073741824
 sl:s.stores.length<=1073741824
 rl:s.recipes.length<=1073741824
 i:∀ x∈s.imports,x.name.size<=1073741824/\x.unit.size<=1073741824/\x.port.size<=1073741824
 n:∀ x∈s.inputs,x.name.size<=1073741824/\x.unit.size<=1073741824/\x.kind.size<=1073741824
 t:∀ x∈s.tables,x.Sm
 f:∀ x∈s.funcs,x.name.size<=1073741824/\x.params.length<=1073741824/\(∀ y∈x.params,y.name.size<=1073741824/\y.unit.size<=1073741824)/\x.body.Sm
 c:∀ x∈s.cells,x.name.size<=1073741824/\x.unit.size<=1073741824/\x.x.Sm
 p:∀ x∈s.ports,x.name.size<=1073741824/\x.unit.size<=1073741824
 o:∀ x∈s.stores,x.name.size<=1073741824/\x.unit.size<=1073741824
 r:∀ x∈s.recipes,x.kind.size<=1073741824/\x.steps.length<=1073741824/\∀ y∈x.steps,y.Sm
theorem z0b (c:Sc) (l:List SB):[0,1].map (fun j=>(scBs c++l)[j]?)=(scBs c).map (fun x=>some (rnSB (atR [0,1] (scBs c++l).length) x)):=by
 show [some (scB c.1),some (mU c.2)]=[some (rnSB _ (scB c.1)),some (rnSB _ (mU c.2))];rw [xbm];rfl
theorem yux (c d:Sc) (l:List SB):putR [0,1] (scBs c++l) (scBs d)=appL [(0,scB d.1),(1,mU d.2)] (scBs c++l):=by
 unfold putR;show appL [(0,rnSB _ (scB d.1)),(1,rnSB _ (mU d.2))] _++[]=_;rw [xbm,List.append_nil];rfl
theorem w9q (s:Sht) (hs:s.Sm) (c:Sc):yev Γ prog 37 (scBs c) [.one (.ptr 0 0),.agg ((shtC s).map .dat)] (scBs (vh3 s c)) (.tup []):=by
 unfold vh3;refine yev.run [] Go.Proofs.Tryz.func37 rfl rfl ?_;simp only [Go.Proofs.Tryz.f37];refine hgR ?_
 repeat' ((first | refine hfk ?_ ?_<;>intros | refine hik ?_)<;>refine hgS ?_)
 refine xou [0,3,13,14] (fun i:Nat=>[(15,.one (.dat (cI i)))]) (fun i=>scBs (wlp impU (s.imports.take i) c)++[.box ((shtC s).map .dat) (some 31)])
  (fun i=>i<=s.imports.length) (fun i=>s.imports.length-i) 0 (Nat.zero_le _) ?_ ?_
 . refine hg ?_;exact StH.same svl rfl
 intro i hi;have hsl:=hs.il;refine hg ?_;refine w4y (fun hlt _=>?_) (fun hlt _=>?_)
 . have hlt':i<s.imports.length:=by omega
   have hy:=hs.i _ (wip hlt');have hU:=zpl (U:=impU) (c:=c) hlt';clear hs;have c1:=xvz (Γ:=Γ) (s.imports.getD i default).unit hy.2.1;have c2:=vyw (Γ:=Γ) (s.imports.getD i default).amount;have c3:=xb6 (Γ:=Γ) (s.imports.getD i default).port hy.2.2;generalize wlp impU (s.imports.take i) c=d at *;refine hg ?_
   repeat' ((first | refine hfk ?_ ?_<;>intros | refine hik ?_ | with_reducible first | refine wud (c1) ?_ | refine vqe (c1) ?_ | refine wud (c2) ?_ | refine vqe (c2) ?_ | refine wud (c3) ?_ | refine vqe (c3) ?_)<;>refine hgS ?_)
   all_goals generalize s.imports.getD i default=x at *
   all_goals first
    | (have hE:impU x=(x.name,wau x.unit,false):=by simp [impU,vvc, *]
       rw [hE] at hU;refine y0w [0,1] [(0,scB (useM d (x.name,wau x.unit,false)).1),(1,mU (useM d (x.name,wau x.unit,false)).2)] (cUse d _ _ _ hy.1) rfl (by decide) rfl (z0b d _) rfl (yux d _ _) ?_;refine hg ?_
       repeat' ((first | refine hfk ?_ ?_<;>intros | refine hik ?_)<;>refine hgS ?_)
       refine ⟨i+1,by omega,by omega,?_⟩;rw [hU];refine StH.cutN [0,3,13,14,15] 3 rfl ?_ ?_
       . refine hg ?_;exact trivial
       exact StH.same svl rfl)
    | (have hE:impU x=(x.name,wau x.unit,wgk x.port):=by simp [impU,vvc, *]
       rw [hE] at hU;refine y0w [0,1] [(0,scB (useM d (x.name,wau x.unit,wgk x.port)).1),(1,mU (useM d (x.name,wau x.unit,wgk x.port)).2)] (cUse d _ _ _ hy.1) rfl (by decide) rfl (z0b d _) rfl (yux d _ _) ?_;refine hg ?_
       repeat' ((first | refine hfk ?_ ?_<;>intros | refine hik ?_)<;>refine hgS ?_)
       refine ⟨i+1,by omega,by omega,?_⟩;rw [hU];refine StH.cutN [0,3,13,14,15] 3 rfl ?_ ?_
       . refine hg ?_;exact trivial
       exact StH.same svl rfl)
 rw [vvj (show s.imports.length<=i by omega)];refine hg ?_;refine xou [0,3,56,57] (fun i:Nat=>[(58,.one (.dat (cI i)))]) (fun i=>scBs (wlp inpU (s.inputs.take i) (wlp impU s.imports c))++[.box ((shtC s).map .dat) (some 31)])
  (fun i=>i<=s.inputs.length) (fun i=>s.inputs.length-i) 0 (Nat.zero_le _) ?_ ?_
 . refine hg ?_;exact StH.same svl rfl
 intro i hi;have hsl:=hs.nl;refine hg ?_;refine w4y (fun hlt _=>?_) (fun hlt _=>?_)
 . have hlt':i<s.inputs.length:=by omega
   have hy:=hs.n _ (wip hlt');have hU:=zpl (U:=inpU) (c:=(wlp impU s.imports c)) hlt';clear hs;have c1:=xvz (Γ:=Γ) (s.inputs.getD i default).unit hy.2.1;have c2:=xb6 (Γ:=Γ) (s.inputs.getD i default).kind hy.2.2;generalize wlp inpU (s.inputs.take i) (wlp impU s.imports c)=d at *;refine hg ?_
   repeat' ((first | refine hfk ?_ ?_<;>intros | refine hik ?_ | with_reducible first | refine wud (c1) ?_ | refine vqe (c1) ?_ | refine wud (c2) ?_ | refine vqe (c2) ?_)<;>refine hgS ?_)
   all_goals generalize s.inputs.getD i default=x at *
   all_goals first
    | (have hE:inpU x=(x.name,wau x.unit,true):=by simp [inpU,vvc, *]
       rw [hE] at hU;refine y0w [0,1] [(0,scB (useM d (x.name,wau x.unit,true)).1),(1,mU (useM d (x.name,wau x.unit,true)).2)] (cUse d _ _ _ hy.1) rfl (by decide) rfl (z0b d _) rfl (yux d _ _) ?_;refine hg ?_
       repeat' ((first | refine hfk ?_ ?_<;>intros | refine hik ?_)<;>refine hgS ?_)
       refine ⟨i+1,by omega,by omega,?_⟩;rw [hU];refine StH.cutN [0,3,56,57,58] 3 rfl ?_ ?_
       . refine hg ?_;exact trivial
       exact StH.same svl rfl)
    | (have hE:inpU x=(x.name,wau x.unit,wgk x.kind):=by simp [inpU,vvc, *]
       rw [hE] at hU;refine y0w [0,1] [(0,scB (useM d (x.name,wau x.unit,wgk x.kind)).1),(1,mU (useM d (x.name,wau x.unit,wgk x.kind)).2)] (cUse d _ _ _ hy.1) rfl (by decide) rfl (z0b d _) rfl (yux d _ _) ?_;refine hg ?_
       repeat' ((first | refine hfk ?_ ?_<;>intros | refine hik ?_)<;>refine hgS ?_)
       refine ⟨i+1,by omega,by omega,?_⟩;rw [hU];refine StH.cutN [0,3,56,57,58] 3 rfl ?_ ?_
       . refine hg ?_;exact trivial
       exact StH.same svl rfl)
 rw [vvj (show s.inputs.length<=i by omega)];refine hg ?_;refine xou [0,3,79,80] (fun i:Nat=>[(81,.one (.dat (cI i)))]) (fun i=>scBs (wlp porU (s.ports.take i) (wlp inpU s.inputs (wlp impU s.imports c)))++[.box ((shtC s).map .dat) (some 31)])
  (fun i=>i<=s.ports.length) (fun i=>s.ports.length-i) 0 (Nat.zero_le _) ?_ ?_
 . refine hg ?_;exact StH.same svl rfl
 intro i hi;have hsl:=hs.pl;refine hg ?_;refine w4y (fun hlt _=>?_) (fun hlt _=>?_)
 . have hlt':i<s.ports.length:=by omega
   have hy:=hs.p _ (wip hlt');have hU:=zpl (U:=porU) (c:=(wlp inpU s.inputs (wlp impU s.imports c))) hlt';clear hs;have c1:=xvz (Γ:=Γ) (s.ports.getD i default).unit hy.2;have c2:=vyw (Γ:=Γ) (s.ports.getD i default).amount;generalize wlp porU (s.ports.take i) (wlp inpU s.inputs (wlp impU s.imports c))=d at *;refine hg ?_
   repeat' ((first | refine hfk ?_ ?_<;>intros | refine hik ?_ | with_reducible first | refine wud (c1) ?_ | refine vqe (c1) ?_ | refine wud (c2) ?_ | refine vqe (c2) ?_)<;>refine hgS ?_)
   all_goals generalize s.ports.getD i default=x at *
   all_goals first
    | (have hE:porU x=(x.name,wau x.unit,amtS x.amount):=by simp [porU,vvc, *]
       rw [hE] at hU;refine y0w [0,1] [(0,scB (useM d (x.name,wau x.unit,amtS x.amount)).1),(1,mU (useM d (x.name,wau x.unit,amtS x.amount)).2)] (cUse d _ _ _ hy.1) rfl (by decide) rfl (z0b d _) rfl (yux d _ _) ?_;refine hg ?_
       repeat' ((first | refine hfk ?_ ?_<;>intros | refine hik ?_)<;>refine hgS ?_)
       refine ⟨i+1,by omega,by omega,?_⟩;rw [hU];refine StH.cutN [0,3,79,80,81] 3 rfl ?_ ?_
       . refine hg ?_;exact trivial
       exact StH.same svl rfl)
 rw [vvj (show s.ports.length<=i by omega)];refine hg ?_;refine xou [0,97,98] (fun i:Nat=>[(99,.one (.dat (cI i)))]) (fun i=>scBs (wlp stoU (s.stores.take i) (wlp porU s.ports (wlp inpU s.inputs (wlp impU s.imports c))))++[.box ((shtC s).map .dat) (some 31)])
  (fun i=>i<=s.stores.length) (fun i=>s.stores.length-i) 0 (Nat.zero_le _) ?_ ?_
 . refine hg ?_;exact StH.same svl rfl
 intro i hi;have hsl:=hs.sl;refine hg ?_;refine w4y (fun hlt _=>?_) (fun hlt _=>?_)
 . have hlt':i<s.stores.length:=by omega
   have hy:=hs.o _ (wip hlt');have hU:=zpl (U:=stoU) (c:=(wlp porU s.ports (wlp inpU s.inputs (wlp impU s.imports c)))) hlt';clear hs;have c1:=xvz (Γ:=Γ) (s.stores.getD i default).unit hy.2;generalize wlp stoU (s.stores.take i) (wlp porU s.ports (wlp inpU s.inputs (wlp impU s.imports c)))=d at *;refine hg ?_
   repeat' ((first | refine hfk ?_ ?_<;>intros | refine hik ?_ | with_reducible first | refine wud (c1) ?_ | refine vqe (c1) ?_)<;>refine hgS ?_)
   all_goals generalize s.stores.getD i default=x at *
   all_goals first
    | (have hE:stoU x=(x.name,wau x.unit,false):=by simp [stoU,vvc, *]
       rw [hE] at hU;refine y0w [0,1] [(0,scB (useM d (x.name,wau x.unit,false)).1),(1,mU (useM d (x.name,wau x.unit,false)).2)] (cUse d _ _ _ hy.1) rfl (by decide) rfl (z0b d _) rfl (yux d _ _) ?_;refine hg ?_
       repeat' ((first | refine hfk ?_ ?_<;>intros | refine hik ?_)<;>refine hgS ?_)
       refine ⟨i+1,by omega,by omega,?_⟩;rw [hU];refine StH.cutN [0,97,98,99] 3 rfl ?_ ?_
       . refine hg ?_;exact trivial
       exact StH.same svl rfl)
    | (have hE:stoU x=(x.name,wau x.unit,decide (x.rule<3)):=by simp [stoU,vvc, *]
       rw [hE] at hU;refine y0w [0,1] [(0,scB (useM d (x.name,wau x.unit,decide (x.rule<3))).1),(1,mU (useM d (x.name,wau x.unit,decide (x.rule<3))).2)] (cUse d _ _ _ hy.1) rfl (by decide) rfl (z0b d _) rfl (yux d _ _) ?_;refine hg ?_
       repeat' ((first | refine hfk ?_ ?_<;>intros | refine hik ?_)<;>refine hgS ?_)
       refine ⟨i+1,by omega,by omega,?_⟩;rw [hU];refine StH.cutN [0,97,98,99] 3 rfl ?_ ?_
       . refine hg ?_;exact trivial
       exact StH.same svl rfl)
 rw [vvj (show s.stores.length<=i by omega)];refine hg ?_;refine StH.cutN [0] 2 rfl ?_ ?_
 . refine hg ?_;exact trivial
 exact StH.same svl rfl
theorem wpw (x:Prm) (h1:x.name.size<=1073741824) (h2:x.unit.size<=1073741824):CallsD Γ prog 73 [.agg (prmC x)] (.one (cB (!wgk x.name||!wau x.unit))):=by
 have c1:=xb6 (Γ:=Γ) x.name h1;have c2:=xvz (Γ:=Γ) x.unit h2;generalize wgk x.name=b1 at *;generalize wau x.unit=b2 at *;refine CallsD.run [] Go.Proofs.Tryz.func73 rfl rfl rfl ?_;simp only [Go.Proofs.Tryz.f73];refine hgR ?_
 repeat' ((first | refine hfk ?_ ?_<;>intros | refine hik ?_ | with_reducible first | refine wud (c1) ?_ | refine vqe (c1) ?_ | refine wud (c2) ?_ | refine vqe (c2) ?_)<;>refine hgS ?_)
 all_goals refine lfE ?_;first | exact trivial | rfl
theorem zm6 (s:Sht) (hs:s.Sm) (c:Sc):yev Γ prog 38 (scBs c) [.one (.ptr 0 0),.agg ((shtC s).map .dat)] (scBs (xhm s c)) (.tup []):=by
 unfold xhm;refine yev.run [] Go.Proofs.Tryz.func38 rfl rfl ?_;simp only [Go.Proofs.Tryz.f38];refine hgR ?_
 repeat' ((first | refine hfk ?_ ?_<;>intros | refine hik ?_)<;>refine hgS ?_)
 refine xou [0,3,12,13] (fun i:Nat=>[(14,.one (.dat (cI i)))]) (fun i=>scBs (wlp tabU (s.tables.take i) c)++[.box ((shtC s).map .dat) (some 31)])
  (fun i=>i<=s.tables.length) (fun i=>s.tables.length-i) 0 (Nat.zero_le _) ?_ ?_
 . refine hg ?_;exact StH.same svl rfl
 intro i hi;have hsl:=hs.tl;refine hg ?_;refine w4y (fun hlt _=>?_) (fun hlt _=>?_)
 . have hlt':i<s.tables.length:=by omega
   have hy:=hs.t _ (wip hlt');have hU:=zpl (U:=tabU) (c:=c) hlt';clear hs;have c1:=yn1 (Γ:=Γ) (s.tables.getD i default) hy.n hy.u hy.r;generalize wlp tabU (s.tables.take i) c=d at *;refine hg ?_
   repeat' ((first | refine hfk ?_ ?_<;>intros | refine hik ?_ | with_reducible first | refine wud (c1) ?_ | refine vqe (c1) ?_)<;>refine hgS ?_)
   all_goals generalize s.tables.getD i default=x at *
   all_goals first
    | (have hE:tabU x=(x.name,true,wcg (fun s=>(xnx s).2) x):=by simp [tabU,vvc, *]
       rw [hE] at hU;refine y0w [0,1] [(0,scB (useM d (x.name,true,wcg (fun s=>(xnx s).2) x)).1),(1,mU (useM d (x.name,true,wcg (fun s=>(xnx s).2) x)).2)] (cUse d _ _ _ hy.n) rfl (by decide) rfl (z0b d _) rfl (yux d _ _) ?_;refine hg ?_
       repeat' ((first | refine hfk ?_ ?_<;>intros | refine hik ?_)<;>refine hgS ?_)
       refine ⟨i+1,by omega,by omega,?_⟩;rw [hU];refine StH.cutN [0,3,12,13,14] 3 rfl ?_ ?_
       . refine hg ?_;exact trivial
       exact StH.same svl rfl)
 rw [vvj (show s.tables.length<=i by omega)];refine hg ?_;refine xou [0,3,26,27] (fun i:Nat=>[(28,.one (.dat (cI i)))]) (fun i=>scBs (wlp fncU (s.funcs.take i) (wlp tabU s.tables c))++[.box ((shtC s).map .dat) (some 31)])
  (fun i=>i<=s.funcs.length) (fun i=>s.funcs.length-i) 0 (Nat.zero_le _) ?_ ?_
 . refine hg ?_;exact StH.same svl rfl
 intro i hi;have hsl:=hs.fl;refine hg ?_;refine w4y (fun hlt _=>?_) (fun hlt _=>?_)
 . have hlt':i<s.funcs.length:=by omega
   have hy:=hs.f _ (wip hlt');have hU:=zpl (U:=fncU) (c:=(wlp tabU s.tables c)) hlt';clear hs;have c1:=ve6 (Γ:=Γ) (s.funcs.getD i default).params 73 (fun p=>!wgk p.name||!wau p.unit) hy.2.1 (fun y hh=>wpw y (hy.2.2.1 y hh).1 (hy.2.2.1 y hh).2);have c2:=xp9 (Γ:=Γ) (s.funcs.getD i default).body hy.2.2.2;generalize wlp fncU (s.funcs.take i) (wlp tabU s.tables c)=d at *;refine hg ?_
   repeat' ((first | refine hfk ?_ ?_<;>intros | refine hik ?_ | with_reducible first | refine wud (c1) ?_ | refine vqe (c1) ?_ | refine wud (c2) ?_ | refine vqe (c2) ?_)<;>refine hgS ?_)
   all_goals generalize s.funcs.getD i default=x at *
   all_goals first
    | (have hE:fncU x=(x.name,!x.params.any (fun p=>!wgk p.name||!wau p.unit),false):=by simp [fncU,vvc, *]
       rw [hE] at hU;refine y0w [0,1] [(0,scB (useM d (x.name,!x.params.any (fun p=>!wgk p.name||!wau p.unit),false)).1),(1,mU (useM d (x.name,!x.params.any (fun p=>!wgk p.name||!wau p.unit),false)).2)] (cUse d _ _ _ hy.1) rfl (by decide) rfl (z0b d _) rfl (yux d _ _) ?_;refine hg ?_
       repeat' ((first | refine hfk ?_ ?_<;>intros | refine hik ?_)<;>refine hgS ?_)
       refine ⟨i+1,by omega,by omega,?_⟩;rw [hU];refine StH.cutN [0,3,26,27,28] 3 rfl ?_ ?_
       . refine hg ?_;exact trivial
       exact StH.same svl rfl)
    | (have hE:fncU x=(x.name,!x.params.any (fun p=>!wgk p.name||!wau p.unit),v93 x.body):=by simp [fncU,vvc, *]
       rw [hE] at hU;refine y0w [0,1] [(0,scB (useM d (x.name,!x.params.any (fun p=>!wgk p.name||!wau p.unit),v93 x.body)).1),(1,mU (useM d (x.name,!x.params.any (fun p=>!wgk p.name||!wau p.unit),v93 x.body)).2)] (cUse d _ _ _ hy.1) rfl (by decide) rfl (z0b d _) rfl (yux d _ _) ?_;refine hg ?_
       repeat' ((first | refine hfk ?_ ?_<;>intros | refine hik ?_)<;>refine hgS ?_)
       refine ⟨i+1,by omega,by omega,?_⟩;rw [hU];refine StH.cutN [0,3,26,27,28] 3 rfl ?_ ?_
       . refine hg ?_;exact trivial
       exact StH.same svl rfl)
 rw [vvj (show s.funcs.length<=i by omega)];refine hg ?_;refine xou [0,58,59] (fun i:Nat=>[(60,.one (.dat (cI i)))]) (fun i=>scBs (wlp celU (s.cells.take i) (wlp fncU s.funcs (wlp tabU s.tables c)))++[.box ((shtC s).map .dat) (some 31)])
  (fun i=>i<=s.cells.length) (fun i=>s.cells.length-i) 0 (Nat.zero_le _) ?_ ?_
 . refine hg ?_;exact StH.same svl rfl
 intro i hi;have hsl:=hs.cl;refine hg ?_;refine w4y (fun hlt _=>?_) (fun hlt _=>?_)
 . have hlt':i<s.cells.length:=by omega
   have hy:=hs.c _ (wip hlt');have hU:=zpl (U:=celU) (c:=(wlp fncU s.funcs (wlp tabU s.tables c))) hlt';clear hs;have c1:=xvz (Γ:=Γ) (s.cells.getD i default).unit hy.2.1;have c2:=xp9 (Γ:=Γ) (s.cells.getD i default).x hy.2.2;generalize wlp celU (s.cells.take i) (wlp fncU s.funcs (wlp tabU s.tables c))=d at *;refine hg ?_
   repeat' ((first | refine hfk ?_ ?_<;>intros | refine hik ?_ | with_reducible first | refine wud (c1) ?_ | refine vqe (c1) ?_ | refine wud (c2) ?_ | refine vqe (c2) ?_)<;>refine hgS ?_)
   all_goals generalize s.cells.getD i default=x at *
   all_goals first
    | (have hE:celU x=(x.name,wau x.unit,v93 x.x):=by simp [celU,vvc, *]
       rw [hE] at hU;refine y0w [0,1] [(0,scB (useM d (x.name,wau x.unit,v93 x.x)).1),(1,mU (useM d (x.name,wau x.unit,v93 x.x)).2)] (cUse d _ _ _ hy.1) rfl (by decide) rfl (z0b d _) rfl (yux d _ _) ?_;refine hg ?_
       repeat' ((first | refine hfk ?_ ?_<;>intros | refine hik ?_)<;>refine hgS ?_)
       refine ⟨i+1,by omega,by omega,?_⟩;rw [hU];refine StH.cutN [0,58,59,60] 3 rfl ?_ ?_
       . refine hg ?_;exact trivial
       exact StH.same svl rfl)
 rw [vvj (show s.cells.length<=i by omega)];refine hg ?_;refine StH.cutN [0] 2 rfl ?_ ?_
 . refine hg ?_;exact trivial
 exact StH.same svl rfl
end Go.Hp.T
