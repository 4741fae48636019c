/- The proof, part Z32: 3j, 3k, 3m, 7e. -/
import Derived.Test.YtkbkjjahlafhoaaGreatDoorZ15
import Derived.Test.YtkbkjjahlafhoaaGreatDoorZ31
import Derived.Test.YtkbkjjahlafhoaaGreatDoorZ30
import Derived.Test.YtkbkjjahlafhoaaGreatDoorZ25
namespace Go.Hp.T
open Go Go.RowKit Go.Slot Go.Hp Go.Slot.T
open Go.Proofs.Tryz
attribute [local irreducible] hide RH
set_option maxRecDepth 10000
set_option maxHeartbeats 8000000
variable {Γ:List (Nat×List Cell)}
structure xtr (s:Sht) (cs:List Sc) (w:Wk) (x:Stp):Prop where
 m:SzM w.m
 n:w.srcs.length<=100
 o:w.outs.length<=100
 h:w.shares.length<=100
 il:x.inn.length<=200
 ol:x.out.length<=200
 cl:s.cells.length<=1073741824
 nl:s.inputs.length<=1073741824
 ml:s.imports.length<=1073741824
 sl:s.stores.length<=1073741824
 pl:s.ports.length<=1073741824
 src:x.kind<=2->0<x.out.length
 spl:x.kind=3->WtOk s cs x.cells/\(wtE s cs x.cells=0->x.out.length<=x.cells.length/\∀ k,k<=x.out.length->SzM (zo3 w.srcs.length x.inn (wtL s cs x.cells) x.out w.m k))/\∀ y∈wtL s cs x.cells,y.sz<=100000
 join:x.kind=4->0<x.out.length
 out:5<=x.kind->0<x.inn.length/\∃ l,yvz w.m (x.inn.getD 0 default)=some l
theorem wkj (s:Sht) (cs:List Sc) (w:Wk):wkBs s cs w++List.replicate 1 .fresh=[wkB s cs 1 2 3 4 w.srcs.length w.outs.length w.shares.length,mF w.m,aSr w.srcs,aOt w.outs,aSh w.shares,.fresh]:=rfl
theorem vhz (s:Sht) (cs:List Sc) (w:Wk):wkBs s cs w++List.replicate 2 .fresh=[wkB s cs 1 2 3 4 w.srcs.length w.outs.length w.shares.length,mF w.m,aSr w.srcs,aOt w.outs,aSh w.shares,.fresh,.fresh]:=rfl
abbrev stS (s:Sht) (cs:List Sc) (w:Wk):List (Nat×SB):=[(0,wkB s cs 1 7 3 4 w.srcs.length w.outs.length w.shares.length),(1,mF w.m),(2,.dead),(3,aOt w.outs),(4,aSh w.shares),(7,aSr w.srcs)]
abbrev stO (s:Sht) (cs:List Sc) (w:Wk):List (Nat×SB):=[(0,wkB s cs 1 2 7 8 w.srcs.length w.outs.length w.shares.length),(1,mF w.m),(2,aSr w.srcs),(3,.dead),(4,.dead),(7,aOt w.outs),(8,aSh w.shares)]
theorem zet (s:Sht) (cs:List Sc) (w:Wk) (x:Stp) (hx:xtr s cs w x) (hk:x.kind=0):z00 Γ prog 36 (wkBs s cs w) [.one (.ptr 0 0),.agg ((stpC x).map .dat)] (wkS s cs (yea s cs w x)) (.tup []):=by
 have ho:=hx.src (by omega);have c0:=wz8 (Γ:=Γ) s cs w hx.nl x.name;have c1:=z00.xht 1 (xmj (Γ:=Γ) s cs w (by have:=hx.n;omega) ⟨0,idxI s x.name,0⟩ (x.out.getD 0 default));obtain ⟨o,ho0⟩:∃ o,o=Fc.of 1:=⟨_,rfl⟩;have c2:=ywn (Γ:=Γ) ho0
 have ho9:True->o=Fc.of 1:=fun _=>ho0
 clear ho0;have hol:=hx.ol
 have e:yea s cs w x=srcW w ⟨0,idxI s x.name,0⟩ (x.out.getD 0 default):=by unfold yea;rw [hk];rfl
 rw [e];clear hx e;generalize idxI s x.name=j at *;generalize hw:srcW w ⟨0,j,0⟩ (x.out.getD 0 default)=w2 at *;clear hw;rw [wkj] at c1;refine hEh [(4,[.room 1])] func36 f36.eq_1 ?_
 repeat' first | refine hF ?_ ?_<;>intros | refine hI ?_ | (with_reducible first | refine w5a (c2) ?_ | refine xqd (c2) ?_)<;>refine hgS ?_
 refine wq5 5 (fun ξ=>z00.preN c0 (vda s cs w) rfl rfl) rfl rfl ?_;refine hg ?_
 repeat' first | refine hF ?_ ?_<;>intros | refine hI ?_
 refine yqt [0,1,2,3,4,7] (stS s cs w2) c1 rfl (by decide) rfl (by show [_,_,_,_,_,_]=[_,some (rnSB _ (mF _)),_,_,_,_];rw [vje];rfl) rfl (by show [_,rnSB _ (mF _),_,_,_,_,_,_]=_;rw [vje];rfl) ?_;refine hg ?_
 repeat' first | refine hF ?_ ?_<;>intros | refine hI ?_
 refine StH.back [0] 5 7 6 rfl rfl rfl rfl rfl ?_ ?_
 . rw [zey,v65];refine hg ?_
   first | exact trivial | rfl
 rw [zey,v65];refine hg ?_;exact sS
theorem vga (s:Sht) (cs:List Sc) (w:Wk) (x:Stp) (hx:xtr s cs w x) (hk:x.kind=1):z00 Γ prog 36 (wkBs s cs w) [.one (.ptr 0 0),.agg ((stpC x).map .dat)] (wkS s cs (yea s cs w x)) (.tup []):=by
 have ho:=hx.src (by omega);have c0:=vq5 (Γ:=Γ) s cs w hx.ml x.name;have c1:=z00.xht 1 (xmj (Γ:=Γ) s cs w (by have:=hx.n;omega) ⟨1,idxM s x.name,0⟩ (x.out.getD 0 default));obtain ⟨o,ho0⟩:∃ o,o=Fc.of 1:=⟨_,rfl⟩;have c2:=ywn (Γ:=Γ) ho0
 have ho9:True->o=Fc.of 1:=fun _=>ho0
 clear ho0;have hol:=hx.ol
 have e:yea s cs w x=srcW w ⟨1,idxM s x.name,0⟩ (x.out.getD 0 default):=by unfold yea;rw [hk];rfl
 rw [e];clear hx e;generalize idxM s x.name=j at *;generalize hw:srcW w ⟨1,j,0⟩ (x.out.getD 0 default)=w2 at *;clear hw;rw [wkj] at c1;refine hEh [(6,[.room 1])] func36 f36.eq_1 ?_
 repeat' first | refine hF ?_ ?_<;>intros | refine hI ?_ | (with_reducible first | refine w5a (c2) ?_ | refine xqd (c2) ?_)<;>refine hgS ?_
 refine wq5 5 (fun ξ=>z00.preN c0 (vda s cs w) rfl rfl) rfl rfl ?_;refine hg ?_
 repeat' first | refine hF ?_ ?_<;>intros | refine hI ?_
 refine yqt [0,1,2,3,4,7] (stS s cs w2) c1 rfl (by decide) rfl (by show [_,_,_,_,_,_]=[_,some (rnSB _ (mF _)),_,_,_,_];rw [vje];rfl) rfl (by show [_,rnSB _ (mF _),_,_,_,_,_,_]=_;rw [vje];rfl) ?_;refine hg ?_
 repeat' first | refine hF ?_ ?_<;>intros | refine hI ?_
 refine StH.back [0] 5 7 6 rfl rfl rfl rfl rfl ?_ ?_
 . rw [zey,v65];refine hg ?_
   first | exact trivial | rfl
 rw [zey,v65];refine hg ?_;exact sS
theorem vy8 (s:Sht) (cs:List Sc) (w:Wk) (x:Stp) (hx:xtr s cs w x) (hk:x.kind=2):z00 Γ prog 36 (wkBs s cs w) [.one (.ptr 0 0),.agg ((stpC x).map .dat)] (wkS s cs (yea s cs w x)) (.tup []):=by
 have ho:=hx.src (by omega);have c0:=vve (Γ:=Γ) s cs w hx.sl x.name;have c1:=z00.xht 1 (xmj (Γ:=Γ) s cs w (by have:=hx.n;omega) ⟨2,idxS s x.name,x.amount⟩ (x.out.getD 0 default));obtain ⟨o,ho0⟩:∃ o,o=Fc.of 1:=⟨_,rfl⟩;have c2:=ywn (Γ:=Γ) ho0
 have ho9:True->o=Fc.of 1:=fun _=>ho0
 clear ho0;have hol:=hx.ol
 have e:yea s cs w x=srcW w ⟨2,idxS s x.name,x.amount⟩ (x.out.getD 0 default):=by unfold yea;rw [hk];rfl
 rw [e];clear hx e;generalize idxS s x.name=j at *;generalize hw:srcW w ⟨2,j,x.amount⟩ (x.out.getD 0 default)=w2 at *;clear hw;rw [wkj] at c1;refine hEh [(8,[.room 1])] func36 f36.eq_1 ?_
 repeat' first | refine hF ?_ ?_<;>intros | refine hI ?_ | (with_reducible first | refine w5a (c2) ?_ | refine xqd (c2) ?_)<;>refine hgS ?_
 refine wq5 5 (fun ξ=>z00.preN c0 (vda s cs w) rfl rfl) rfl rfl ?_;refine hg ?_
 repeat' first | refine hF ?_ ?_<;>intros | refine hI ?_
 refine yqt [0,1,2,3,4,7] (stS s cs w2) c1 rfl (by decide) rfl (by show [_,_,_,_,_,_]=[_,some (rnSB _ (mF _)),_,_,_,_];rw [vje];rfl) rfl (by show [_,rnSB _ (mF _),_,_,_,_,_,_]=_;rw [vje];rfl) ?_;refine hg ?_
 repeat' first | refine hF ?_ ?_<;>intros | refine hI ?_
 refine StH.back [0] 5 7 6 rfl rfl rfl rfl rfl ?_ ?_
 . rw [zey,v65];refine hg ?_
   first | exact trivial | rfl
 rw [zey,v65];refine hg ?_;exact sS
theorem ynl (s:Sht) (cs:List Sc) (w:Wk) (x:Stp) (hx:xtr s cs w x) (hk:x.kind=5):z00 Γ prog 36 (wkBs s cs w) [.one (.ptr 0 0),.agg ((stpC x).map .dat)] (wkO s cs (yea s cs w x)) (.tup []):=by
 obtain ⟨ho,l,hl⟩:=hx.out (by omega);have c1:=z00.xht 2 (cOut (Γ:=Γ) s cs w (by have:=hx.o;omega) (by have:=hx.h;omega) ⟨0,idxP s x.name,0,⟨#[]⟩⟩ (x.inn.getD 0 default) l hl);obtain ⟨o,ho0⟩:∃ o,o=Fc.of 1:=⟨_,rfl⟩;have c2:=ywn (Γ:=Γ) ho0
 have ho9:True->o=Fc.of 1:=fun _=>ho0
 clear ho0;have hil:=hx.il;have c0:=vqz (Γ:=Γ) s cs w hx.pl x.name
 have e:yea s cs w x=outW w ⟨0,idxP s x.name,0,⟨#[]⟩⟩ (x.inn.getD 0 default):=by unfold yea;rw [hk];rfl
 rw [e];clear hx e hl;generalize idxP s x.name=j at *;generalize hw:outW w ⟨0,j,0,⟨#[]⟩⟩ (x.inn.getD 0 default)=w2 at *;clear hw;rw [vhz] at c1;refine hEh [(19,[.room 2])] func36 f36.eq_1 ?_
 repeat' first | refine hF ?_ ?_<;>intros | refine hI ?_ | (with_reducible first | refine w5a (c2) ?_ | refine xqd (c2) ?_)<;>refine hgS ?_
 refine wq5 5 (fun ξ=>z00.preN c0 (vda s cs w) rfl rfl) rfl rfl ?_;refine hg ?_
 repeat' first | refine hF ?_ ?_<;>intros | refine hI ?_
 refine yqt [0,1,2,3,4,7,8] (stO s cs w2) c1 rfl (by decide) rfl (by show [_,_,_,_,_,_,_]=[_,some (rnSB _ (mF _)),_,_,_,_,_];rw [vje];rfl) rfl (by show [_,rnSB _ (mF _),_,_,_,_,_,_,_]=_;rw [vje];rfl) ?_;refine hg ?_
 repeat' first | refine hF ?_ ?_<;>intros | refine hI ?_
 refine StH.back [0] 5 7 9 rfl rfl rfl rfl rfl ?_ ?_
 . rw [w7i,v65];refine hg ?_
   first | exact trivial | rfl
 rw [w7i,v65];refine hg ?_;refine StH.back [0] 6 8 7 rfl rfl rfl rfl rfl ?_ ?_
 . rw [zvk,v65];refine hg ?_
   first | exact trivial | rfl
 rw [zvk,v65];refine hg ?_;exact sS
theorem xwg (s:Sht) (cs:List Sc) (w:Wk) (x:Stp) (hx:xtr s cs w x) (hk:x.kind=6):z00 Γ prog 36 (wkBs s cs w) [.one (.ptr 0 0),.agg ((stpC x).map .dat)] (wkO s cs (yea s cs w x)) (.tup []):=by
 obtain ⟨ho,l,hl⟩:=hx.out (by omega);have c1:=z00.xht 2 (cOut (Γ:=Γ) s cs w (by have:=hx.o;omega) (by have:=hx.h;omega) ⟨1,idxS s x.name,x.amount,⟨#[]⟩⟩ (x.inn.getD 0 default) l hl);obtain ⟨o,ho0⟩:∃ o,o=Fc.of 1:=⟨_,rfl⟩;have c2:=ywn (Γ:=Γ) ho0
 have ho9:True->o=Fc.of 1:=fun _=>ho0
 clear ho0;have hil:=hx.il;have c0:=vve (Γ:=Γ) s cs w hx.sl x.name
 have e:yea s cs w x=outW w ⟨1,idxS s x.name,x.amount,⟨#[]⟩⟩ (x.inn.getD 0 default):=by unfold yea;rw [hk];rfl
 rw [e];clear hx e hl;generalize idxS s x.name=j at *;generalize hw:outW w ⟨1,j,x.amount,⟨#[]⟩⟩ (x.inn.getD 0 default)=w2 at *;clear hw;rw [vhz] at c1;refine hEh [(21,[.room 2])] func36 f36.eq_1 ?_
 repeat' first | refine hF ?_ ?_<;>intros | refine hI ?_ | (with_reducible first | refine w5a (c2) ?_ | refine xqd (c2) ?_)<;>refine hgS ?_
 refine wq5 5 (fun ξ=>z00.preN c0 (vda s cs w) rfl rfl) rfl rfl ?_;refine hg ?_
 repeat' first | refine hF ?_ ?_<;>intros | refine hI ?_
 refine yqt [0,1,2,3,4,7,8] (stO s cs w2) c1 rfl (by decide) rfl (by show [_,_,_,_,_,_,_]=[_,some (rnSB _ (mF _)),_,_,_,_,_];rw [vje];rfl) rfl (by show [_,rnSB _ (mF _),_,_,_,_,_,_,_]=_;rw [vje];rfl) ?_;refine hg ?_
 repeat' first | refine hF ?_ ?_<;>intros | refine hI ?_
 refine StH.back [0] 5 7 9 rfl rfl rfl rfl rfl ?_ ?_
 . rw [w7i,v65];refine hg ?_
   first | exact trivial | rfl
 rw [w7i,v65];refine hg ?_;refine StH.back [0] 6 8 7 rfl rfl rfl rfl rfl ?_ ?_
 . rw [zvk,v65];refine hg ?_
   first | exact trivial | rfl
 rw [zvk,v65];refine hg ?_;exact sS
theorem yos (s:Sht) (cs:List Sc) (w:Wk) (x:Stp) (hx:xtr s cs w x) (hk:x.kind=7):z00 Γ prog 36 (wkBs s cs w) [.one (.ptr 0 0),.agg ((stpC x).map .dat)] (wkO s cs (yea s cs w x)) (.tup []):=by
 obtain ⟨ho,l,hl⟩:=hx.out (by omega);have c1:=z00.xht 2 (cOut (Γ:=Γ) s cs w (by have:=hx.o;omega) (by have:=hx.h;omega) ⟨2,0,0,x.name⟩ (x.inn.getD 0 default) l hl);obtain ⟨o,ho0⟩:∃ o,o=Fc.of 1:=⟨_,rfl⟩;have c2:=ywn (Γ:=Γ) ho0
 have ho9:True->o=Fc.of 1:=fun _=>ho0
 clear ho0;have hil:=hx.il
 have e:yea s cs w x=outW w ⟨2,0,0,x.name⟩ (x.inn.getD 0 default):=by unfold yea;rw [hk];rfl
 rw [e];clear hx e hl;generalize hw:outW w ⟨2,0,0,x.name⟩ (x.inn.getD 0 default)=w2 at *;clear hw;rw [vhz] at c1;refine hEh [(23,[.room 2])] func36 f36.eq_1 ?_
 repeat' first | refine hF ?_ ?_<;>intros | refine hI ?_ | (with_reducible first | refine w5a (c2) ?_ | refine xqd (c2) ?_)<;>refine hgS ?_
 refine yqt [0,1,2,3,4,7,8] (stO s cs w2) c1 rfl (by decide) rfl (by show [_,_,_,_,_,_,_]=[_,some (rnSB _ (mF _)),_,_,_,_,_];rw [vje];rfl) rfl (by show [_,rnSB _ (mF _),_,_,_,_,_,_,_]=_;rw [vje];rfl) ?_;refine hg ?_
 repeat' first | refine hF ?_ ?_<;>intros | refine hI ?_
 refine StH.back [0] 5 7 9 rfl rfl rfl rfl rfl ?_ ?_
 . rw [w7i,v65];refine hg ?_
   first | exact trivial | rfl
 rw [w7i,v65];refine hg ?_;refine StH.back [0] 6 8 7 rfl rfl rfl rfl rfl ?_ ?_
 . rw [zvk,v65];refine hg ?_
   first | exact trivial | rfl
 rw [zvk,v65];refine hg ?_;exact sS
theorem zqg (s:Sht) (cs:List Sc) (w:Wk) (x:Stp) (hx:xtr s cs w x) (hk:x.kind=8):z00 Γ prog 36 (wkBs s cs w) [.one (.ptr 0 0),.agg ((stpC x).map .dat)] (wkO s cs (yea s cs w x)) (.tup []):=by
 obtain ⟨ho,l,hl⟩:=hx.out (by omega);have c1:=cOut (Γ:=Γ) s cs w (by have:=hx.o;omega) (by have:=hx.h;omega) ⟨3,0,0,⟨#[]⟩⟩ (x.inn.getD 0 default) l hl;obtain ⟨o,ho0⟩:∃ o,o=Fc.of 1:=⟨_,rfl⟩;have c2:=ywn (Γ:=Γ) ho0
 have ho9:True->o=Fc.of 1:=fun _=>ho0
 clear ho0;have hil:=hx.il
 have e:yea s cs w x=outW w ⟨3,0,0,⟨#[]⟩⟩ (x.inn.getD 0 default):=by unfold yea;rw [hk];rfl
 rw [e];clear hx e hl;generalize hw:outW w ⟨3,0,0,⟨#[]⟩⟩ (x.inn.getD 0 default)=w2 at *;clear hw;obtain ⟨kk,inn,out,nm,cells,amt⟩:=x;dsimp only at *;subst hk;refine hEh [] func36 f36.eq_1 ?_
 repeat' first | refine hF ?_ ?_<;>intros | refine hI ?_ | (with_reducible first | refine w5a (c2) ?_ | refine xqd (c2) ?_)<;>refine hgS ?_
 refine yhu [0,1,2,3,4] [wkB s cs 1 2 7 8 w2.srcs.length w2.outs.length w2.shares.length,mF w2.m,aSr w2.srcs,.dead,.dead,zj1 ⟨8,inn,out,nm,cells,amt⟩,.box ((fcC o).map .dat) (some 51),aOt w2.outs,aSh w2.shares] c1 rfl (by decide) rfl (by show [_,_,_,_,_]=[_,some (rnSB _ (mF _)),_,_,_];rw [vje];rfl) rfl (by show [_,rnSB _ (mF _),_,_,_,_,_,_,_]=_;rw [vje];rfl) ?_;refine hg ?_
 repeat' first | refine hF ?_ ?_<;>intros | refine hI ?_
 refine StH.back [0] 5 7 9 rfl rfl rfl rfl rfl ?_ ?_
 . rw [w7i,v65];refine hg ?_
   first | exact trivial | rfl
 rw [w7i,v65];refine hg ?_;refine StH.back [0] 6 8 7 rfl rfl rfl rfl rfl ?_ ?_
 . rw [zvk,v65];refine hg ?_
   first | exact trivial | rfl
 rw [zvk,v65];refine hg ?_;exact sS
theorem vkm (s:Sht) (cs:List Sc) (w:Wk) (x:Stp) (hx:xtr s cs w x) (hk:x.kind=4):z00 Γ prog 36 (wkBs s cs w) [.one (.ptr 0 0),.agg ((stpC x).map .dat)] (wkBs s cs (yea s cs w x)) (.tup []):=by
 have ho:=hx.join hk;have hol:=hx.ol;obtain ⟨o,ho0⟩:∃ o,o=Fc.of 1:=⟨_,rfl⟩;have c2:=ywn (Γ:=Γ) ho0;have c1:=w8h (Γ:=Γ) s cs w hx.m (by have:=hx.n;omega) x.inn hx.il o (by rw [ho0];have:=y1h;omega)
 have e:yea s cs w x=setM w (updF w.m (x.out.getD 0 default) (mixF w.m w.srcs.length x.inn (Fc.of 1))):=by unfold yea;rw [hk];rfl
 rw [<-ho0] at e;rw [e];clear ho0;clear hx e;generalize mixF w.m w.srcs.length x.inn o=l at *;refine hEh [] func36 f36.eq_1 ?_
 repeat' first | refine hF ?_ ?_<;>intros | refine hI ?_ | (with_reducible first | refine w5a (c2) ?_ | refine xqd (c2) ?_)<;>refine hgS ?_
 refine wq5 5 (fun ξ=>z00.preN c1 (vda s cs w) rfl rfl) rfl rfl ?_;refine hg ?_
 repeat' first | refine hF ?_ ?_<;>intros | refine hI ?_
 refine StH.cutN [0] 5 rfl ?_ ?_
 . refine hg ?_
   first | exact trivial | rfl
 exact sS
theorem wan (s:Sht) (cs:List Sc) (w:Wk) (x:Stp) (hx:xtr s cs w x) (hk:x.kind=3) (h0:wtE s cs x.cells=0):z00 Γ prog 36 (wkBs s cs w) [.one (.ptr 0 0),.agg ((stpC x).map .dat)] (wkBs s cs (yea s cs w x)) (.tup []):=by
 have hn:=hx.n;have hil:=hx.il;have hol:=hx.ol;obtain ⟨hw1,hw2,hw3⟩:=hx.spl hk;obtain ⟨hlen,hsz⟩:=hw2 h0;have c1:=vp0 (Γ:=Γ) s cs w hx.cl x hw1;obtain ⟨o,ho0⟩:∃ o,o=Fc.of 1:=⟨_,rfl⟩;have c2:=ywn (Γ:=Γ) ho0
 have ho9:True->o=Fc.of 1:=fun _=>ho0
 clear ho0
 have er:wtR s cs x.cells=.tup [.one (.dat (frsC (wtL s cs x.cells))),.one (.dat (cI 0))]:=by unfold wtR;rw [h0];rfl
 have ef:wtF s cs x.cells=wtL s cs x.cells:=by unfold wtF;rw [h0];rfl
 have e:yea s cs w x=setM w (zo3 w.srcs.length x.inn (wtL s cs x.cells) x.out w.m x.out.length):=by unfold yea;rw [hk,ef];rfl
 have hwl:(wtL s cs x.cells).length=x.cells.length:=by unfold wtL;rw [List.length_map]
 rw [e];rw [er] at c1;clear hx e ef er h0 hw1 hw2;obtain ⟨kk,inn,out,nm,cells,amt⟩:=x;dsimp only at *;subst hk;generalize wtL s cs cells=wt at *
 have hmx:∀ k,k<out.length->z00 Γ prog 73 (wkBs s cs (setM w (zo3 w.srcs.length inn wt out w.m k))) [.one (.ptr 0 0),.one (.dat (wy9 inn)),.agg ((wt.getD k Fc.zero).C.map .dat)] (wkBs s cs (setM w (zo3 w.srcs.length inn wt out w.m k))) (.one (.dat (frsC (mixF (zo3 w.srcs.length inn wt out w.m k) w.srcs.length inn (wt.getD k Fc.zero))))):=fun k hk=>
  w8h s cs (setM w (zo3 w.srcs.length inn wt out w.m k)) (hsz k (by omega)) (show w.srcs.length<=200 by omega) inn hil _ (hw3 _ (ldM (by omega)))
 clear hsz hw3;refine hEh [] func36 f36.eq_1 ?_
 repeat' first | refine hF ?_ ?_<;>intros | refine hI ?_ | (with_reducible first | refine w5a (c2) ?_ | refine xqd (c2) ?_)<;>refine hgS ?_
 refine yhu [0,1,2,3,4] (wkBs s cs w++[zj1 ⟨3,inn,out,nm,cells,amt⟩,.box ((fcC o).map .dat) (some 51)]) c1 rfl (by decide) rfl (by show [_,_,_,_,_]=[_,some (rnSB _ (mF _)),_,_,_];rw [vje];rfl) rfl (by show [_,rnSB _ (mF _),_,_,_,_,_]=_;rw [vje];rfl) ?_;refine hg ?_
 repeat' first | refine hF ?_ ?_<;>intros | refine hI ?_
 refine vi3 [0,3,5,62,63] (fun k:Nat=>[(64,.one (.dat (cI k)))]) (fun k=>wkBs s cs (setM w (zo3 w.srcs.length inn wt out w.m k))++[zj1 ⟨3,inn,out,nm,cells,amt⟩,.box ((fcC o).map .dat) (some 51)]) (fun k=>k<=out.length) (fun k=>out.length-k) 0 (Nat.zero_le _) ?_ ?_
 . refine hg ?_;exact sS
 intro k hk;refine hg ?_;refine vdi (fun hlt _=>?_) (fun hlt _=>?_)
 . have hk':k<out.length:=by omega
   have c3:=hmx k hk';have es:=ya4 (n:=w.srcs.length) (inn:=inn) (wt:=wt) (o:=out) (m:=w.m) (k:=k);clear hmx c1 c2;generalize mixF (zo3 w.srcs.length inn wt out w.m k) w.srcs.length inn (wt.getD k Fc.zero)=l at *;refine hg ?_
   repeat' first | refine hF ?_ ?_<;>intros | refine hI ?_
   refine wq5 5 (fun ξ=>z00.preN c3 (vda s cs _) rfl rfl) rfl rfl ?_;refine hg ?_
   repeat' first | refine hF ?_ ?_<;>intros | refine hI ?_
   refine ⟨k+1,by omega,by omega,?_⟩;rw [es];exact sS
 have ek:k=out.length:=by omega
 subst ek;clear hmx c1 c2;refine hg ?_
 repeat' first | refine hF ?_ ?_<;>intros | refine hI ?_
 refine StH.cutN [0] 5 rfl ?_ ?_
 . refine hg ?_
   first | exact trivial | rfl
 exact sS
theorem y9s (l:List Fc) (h0:0<l.length) (hl:l.length<=1000000):z00 Γ prog 76 [] [.one (.dat (frsC l))] [.arr (frsC l) 0 (some 51)] (.one (.sl 0 4 0 l.length)):=by
 refine hEh [] func76 f76.eq_1 ?_
 repeat' first | refine hF ?_ ?_<;>intros | refine hI ?_
 exact StH.refl
def midR (n:Nat) (sh:List (List Fc)) (k:Nat):List (List Fc):=(sh.take k).map (wt2 n)++sh.drop k
theorem w4y (n:Nat) {sh:List (List Fc)} {k:Nat} (h:k=sh.length):midR n sh k=sh.map (wt2 n):=by
 subst h;unfold midR;rw [List.take_length,List.drop_length,List.append_nil]
theorem y0o (n:Nat) {sh:List (List Fc)} {k:Nat} (h:k<sh.length):∃ A R:List (List Cell),A.length=k/\A.length+R.length+1=sh.length/\(midR n sh k).map (fun r=>[frsC r])=A++[frsC (sh.getD k default)]::R/\A++[frsC (wt2 n (sh.getD k default))]::R=(midR n sh (k+1)).map fun r=>[frsC r]:=by
 refine ⟨((sh.take k).map (wt2 n)).map (fun r=>[frsC r]),(sh.drop (k+1)).map (fun r=>[frsC r]),by simp;omega,by simp;omega,?_,?_⟩
 . unfold midR;rw [zn8 h,List.map_append];rfl
 . unfold midR;rw [yhw h,List.map_append,List.map_append,List.map_append,List.append_assoc];rfl
theorem wi4 (l:List Fc) (b:Nat) {η:List SB} {T:Option TypeId} (hb:gB η b=.arr (.sl 4 (l.map Fc.C)) 0 T):yo0 η (.sl b 4 0 l.length)=some (.sl 4 (l.map Fc.C),[b]):=by
 simp [yo0,hb,Cell.esz,Cell.cnt,subC]
theorem xo5 (l:List Fc) (z:Fc):(List.range l.length).map (fun i=>Fc.add (l.getD i Fc.zero) z)=l.map fun x=>Fc.add x z:=by
 apply List.ext_getElem
 . simp
 . intro i h1 h2;simp only [List.length_map,List.length_range] at h1;rw [List.getElem_map,List.getElem_map,List.getElem_range,ldE h1]
theorem vlj (l:List Fc):l.map Fc.C=((List.range l.length).map fun i=>l.getD i Fc.zero).map Fc.C:=by
 congr 1
 apply List.ext_getElem
 . simp
 . intro i h1 h2;rw [List.getElem_map,List.getElem_range,ldE h1]
theorem w1v (s:Sht) (cs:List Sc) (w:Wk) (hn:w.srcs.length<=200) (hh:w.shares.length<=200) (hr:∀ l∈w.shares,0<l.length/\l.length<=1000/\∀ x∈l,x.sz<=100000):z00 Γ prog 37 (wkBs s cs w) [.one (.ptr 0 0)] (wkBs s cs ⟨w.m,w.srcs,w.outs,w.shares.map (wt2 w.srcs.length)⟩) (.tup []):=by
 obtain ⟨z,hz0⟩:∃ z,z=Fc.of 0:=⟨_,rfl⟩;have c0:=vv0 (Γ:=Γ) hz0;have hz9:∃ _:Unit,z=Fc.of 0:=⟨(),hz0⟩;have hzs:=y2e;rw [<-hz0] at hzs;clear hz0;refine hEh [(11,[.join])] func37 f37.eq_1 ?_
 repeat' first | refine hF ?_ ?_<;>intros | refine hI ?_
 refine vi3 [0,9,10] (fun k:Nat=>[(11,.one (.dat (cI k)))]) (fun k=>[wkB s cs 1 2 3 4 w.srcs.length w.outs.length w.shares.length,mF w.m,aSr w.srcs,aOt w.outs,.arr (.sl 1 ((midR w.srcs.length w.shares k).map fun r=>[frsC r])) 0 (some 33)]) (fun k=>k<=w.shares.length) (fun k=>w.shares.length-k) 0 (Nat.zero_le _) ?_ ?_
 . refine hg ?_;exact sS
 intro k hk;refine hg ?_;refine vdi (fun hlt _=>?_) (fun hlt _=>?_)
 . have hk':k<w.shares.length:=by omega
   obtain ⟨A,Rr,hA,hAl,e3,e4⟩:=y0o w.srcs.length hk';have g1:=vxv (R:=Rr) hA;have g2:=xpm (R:=Rr) hA
   have g3:∀ v,(A++v::Rr).length=w.shares.length:=fun v=>by rw [List.length_append,List.length_cons];omega
   obtain ⟨r1,r2,r3⟩:=hr _ (vdv hk')
   have el:wt2 w.srcs.length (w.shares.getD k default)=(w.shares.getD k default++List.replicate (w.srcs.length-(w.shares.getD k default).length) (Fc.of 0)).map fun x=>Fc.add x (Fc.of 0):=rfl
   rw [el,<-hz9.elim fun _ h=>h] at e4;rw [e3];clear e3 hr el;generalize w.shares.getD k default=l at *;have c1:=y9s (Γ:=Γ) l r1 (by omega);refine hg3 @g1 @g2 @g3 ?_
   repeat' first | refine hF ?_ ?_<;>intros | refine hI ?_
   refine y3m (z00.at [] c1 (by decide) rfl rfl rfl) rfl ?_;refine hg ?_
   repeat' first | refine hF ?_ ?_<;>intros | refine hI ?_
   clear c1;refine vi3 [0,2,9,10,11] (fun j:Nat=>[(3,.one (.sl 5 4 0 (l.length+j)))]) (fun j=>[wkB s cs 1 2 3 4 w.srcs.length w.outs.length w.shares.length,mF w.m,aSr w.srcs,aOt w.outs,.arr (.sl 1 (A++[frsC l]::Rr)) 0 (some 33),.arr (.sl 4 ((l++List.replicate j z).map Fc.C)) 0 (some 51)]) (fun j=>j<=w.srcs.length-l.length) (fun j=>w.srcs.length-l.length-j) 0 (Nat.zero_le _) ?_ ?_
   . refine hg ?_;simp only [List.replicate_zero,List.append_nil];exact sS
   intro j hj
   have hjl:(l++List.replicate j z).length=l.length+j:=by simp
   have hjs:l++List.replicate (j+1) z=(l++List.replicate j z)++[z]:=by rw [List.replicate_succ',List.append_assoc]
   refine hg ?_;refine vdi (fun hlt2 _=>?_) (fun hlt2 _=>?_)
   . refine hg ?_
     repeat' first | refine hF ?_ ?_<;>intros | refine hI ?_ | (with_reducible first | refine w5a (c0) ?_ | refine xqd (c0) ?_)<;>refine hgS ?_
     refine ⟨j+1,by omega,by omega,?_⟩;refine StH.back [0,2,3,9,10,11] 5 6 6 rfl rfl rfl rfl rfl ?_ ?_
     . rw [xcf,v65];refine hg ?_
       first | exact trivial | rfl
     rw [xcf,v65];refine hg ?_;rw [hjs,show (List.map Fc.C (l++List.replicate j z)++[fcC z]).length=l.length+(j+1) by simp];exact StH.same svl (by simp only [List.map_append,List.map_cons,List.map_nil];rfl)
   have ej:j=w.srcs.length-l.length:=by omega
   subst ej
   have hz:∀ x∈l++List.replicate (w.srcs.length-l.length) z,x.sz<=100000:=fun x hx=>by
    rcases List.mem_append.1 hx with hx | hx
    . exact r3 x hx
    . rw [(List.mem_replicate.1 hx).2];omega
   have hlb:(l++List.replicate (w.srcs.length-l.length) z).length<=2000:=by rw [hjl];omega
   rw [<-hjl];clear hjs r3 hlt2 hj hjl;generalize l++List.replicate (w.srcs.length-l.length) z=l2 at *;refine hg ?_;refine wrk ?_;refine hg ?_
   repeat' first | refine hF ?_ ?_<;>intros | refine hI ?_
   refine vi3 [0,2,3,9,10,11,31,32] (fun i:Nat=>[(33,.one (.dat (cI i)))]) (fun i=>[wkB s cs 1 2 3 4 w.srcs.length w.outs.length w.shares.length,mF w.m,aSr w.srcs,aOt w.outs,.arr (.sl 1 (A++[frsC l]::Rr)) 0 (some 33),.arr (.sl 4 (zgl (fun i=>l2.getD i Fc.zero) (fun i=>Fc.add (l2.getD i Fc.zero) z) l2.length i)) 0 (some 51)]) (fun i=>i<=l2.length) (fun i=>l2.length-i) 0 (Nat.zero_le _) ?_ ?_
   . refine hg ?_;rw [vlj,xhy (fun i=>l2.getD i Fc.zero) (fun i=>Fc.add (l2.getD i Fc.zero) z)];exact sS
   intro i hi;refine hg ?_;refine vdi (fun hlt3 _=>?_) (fun hlt3 _=>?_)
   . have hi':i<l2.length:=by omega
     obtain ⟨B,Rb,hB,hBl,e5,e6⟩:=yv4 (fun i=>l2.getD i Fc.zero) (fun i=>Fc.add (l2.getD i Fc.zero) z) hi';have q1:=vxv (R:=Rb) hB;have q2:=xpm (R:=Rb) hB
     have q3:∀ v,(B++v::Rb).length=l2.length:=fun v=>by rw [List.length_append,List.length_cons];omega
     have z1:=hz _ (ldM (d:=Fc.zero) hi');obtain ⟨ee,c2⟩:=fAdd (Γ:=Γ) (l2.getD i Fc.zero) z (by omega) (by omega);rw [e5];clear e5 e4 hz g1 g2 g3;refine hg3 @q1 @q2 @q3 ?_
     repeat' first | refine hF ?_ ?_<;>intros | refine hI ?_ | (with_reducible first | refine w5a (c0) ?_ | refine xqd (c0) ?_ | refine w5a (c2) ?_ | refine xqd (c2) ?_)<;>refine hgS ?_
     refine ⟨i+1,by omega,by omega,?_⟩;refine hg1 @q2 ?_;rw [<-e6];exact sS
   have ei:i=l2.length:=by omega
   subst ei;rw [yht _ _ rfl,xo5];rw [show l2.length=(l2.map fun x=>Fc.add x z).length by rw [List.length_map]];generalize l2.map (fun x=>Fc.add x z)=l3 at *;clear hz c0;refine hg ?_;refine hfrz (G:=[]) 3 rfl (wi4 l3 _ rfl) rfl rfl ?_;refine hg3 @g1 @g2 @g3 ?_
   repeat' first | refine hF ?_ ?_<;>intros | refine hI ?_
   refine ⟨k+1,by omega,by omega,?_⟩;refine StH.cutN [0,9,10,11] 5 rfl ?_ ?_
   . refine hg ?_
     first | exact trivial | rfl
   refine hg1 @g2 ?_;rw [<-e4];exact sS
 rw [w4y _ (by omega)];clear hr c0;refine hg ?_
 repeat' first | refine hF ?_ ?_<;>intros | refine hI ?_
 exact StH.same svl (by simp only [wkBs,wkB,List.length_map])
theorem x77 (v:Sc) (h:v.sz<=67108864):CallsD Γ prog 32 [.agg v.C] (.one (cB (!decide v.ok))):=by
 have c:=toD (Γ:=Γ) (vmg v h);simp only [Sc.C_eq] at c;generalize decide v.ok=b at *;refine hE [] func32 f32.eq_1 ?_
 repeat' first | refine hF ?_ ?_<;>intros | refine hI ?_ | (with_reducible first | refine w5a (c) ?_ | refine xqd (c) ?_)<;>refine hgS ?_
 exact RLe.ofEq rfl
abbrev frR (r:Fr):AV:=.tup [.agg (flC r.1),.one (cI r.2.1),.one (cI r.2.2)]
theorem y8h (a b:Int):RLe (.tup [.agg [.zc,.zc,.zc],.one (cI a),.one (cI b)]) (frR (⟨[],[],[]⟩,a,b)):=.tup (.cons (.agg (.cons (.zcSl _) (.cons (.zcSl _) (.cons (.zcSl _) .nil)))) (.cons (.refl _) (.cons (.refl _) .nil)))
structure xgs (s:Sht) (cs:List Sc) (l:List Stp):Prop where
 len:l.length<=100
 k:∀ n,n<l.length->0<=(l.getD n default).kind/\(l.getD n default).kind<=8
 st:∀ n,n<l.length->(∀ j,j<n->errW s cs (l.getD j default)=0)->xtr s cs (vp4 s cs l nilW n) (l.getD n default)
 fl:(∀ j,j<l.length->errW s cs (l.getD j default)=0)->∀ r∈(vp4 s cs l nilW l.length).shares,0<r.length/\r.length<=1000/\∀ x∈r,x.sz<=100000
theorem xej (s:Sht) (cs:List Sc) (w:Wk) (x:Stp):(yea s cs w x).srcs.length<=w.srcs.length+1/\(yea s cs w x).outs.length<=w.outs.length+1/\(yea s cs w x).shares.length<=w.shares.length+1:=by
 unfold yea srcW outW setM
 cases decide (x.kind=0)<;>cases decide (x.kind=1)<;>cases decide (x.kind=2)<;>cases decide (x.kind=3)<;>cases decide (x.kind=4)<;>cases decide (x.kind=5)<;>cases decide (x.kind=6)<;>cases decide (x.kind=7)<;>cases decide (x.kind=8)<;>simp
theorem xw8 (s:Sht) (cs:List Sc) (l:List Stp):∀ n,(vp4 s cs l nilW n).srcs.length<=n/\(vp4 s cs l nilW n).outs.length<=n/\(vp4 s cs l nilW n).shares.length<=n
 | 0=>⟨Nat.le_refl _,Nat.le_refl _,Nat.le_refl _⟩
 | n+1=>by
  have h1:=xw8 s cs l n;have h2:=xej s cs (vp4 s cs l nilW n) (l.getD n default);rw [vp4];omega
theorem xqo {s:Sht} {cs:List Sc} {l:List Stp}:∀{n:Nat},n<=l.length->(∀ j,j<n->errW s cs (l.getD j default)=0)->yvg s cs l 0=yvg s cs (l.drop n) n
 | 0,_,_=>by rw [List.drop_zero]
 | n+1,hn,h=>by
  rw [xqo (n:=n) (by omega) (fun j hj=>h j (by omega)),zn8 (by omega),yvg,h n (by omega),decide_eq_true rfl,cond_true]
theorem ycp {s:Sht} {cs:List Sc} {l:List Stp} {n:Nat} (hn:n<l.length) (h:∀ j,j<n->errW s cs (l.getD j default)=0) (he:¬errW s cs (l.getD n default)=0):yvg s cs l 0=some (errW s cs (l.getD n default),n):=by
 rw [xqo (n:=n) (by omega) h,zn8 hn,yvg,decide_eq_false he,cond_false]
theorem yb7 {s:Sht} {cs:List Sc} {l:List Stp} (h:∀ j,j<l.length->errW s cs (l.getD j default)=0):yvg s cs l 0=none:=by
 rw [xqo (Nat.le_refl _) h,List.drop_length,yvg]
theorem z3l (s:Sht) (r:Int) (cs:List Sc) (hs:s.Sm) (hcl:cs.length<=1048576) (hcz:∀ v∈cs,v.sz<=100000) (h:badA s r cs=false) (hk:¬(whd s r).1=0):CallsD Γ prog 10 [.agg (shtC s),.one (cI r),.one (.sl 8 (cs.map Sc.C))] (frR (x0f s r cs)):=by
 have hR:=xwi (Γ:=Γ) s hs;have c2:=toD (Γ:=Γ) (w8c 32 (fun v=>!decide v.ok) cs (by omega) (fun i hi=>x77 _ (by have:=hcz _ (ldM (d:=Sc.zero) hi);omega)));have c3:=x0t (Γ:=Γ) s r hs;have hrl:=hs.rl;have hcll:=hs.cl
 have e:x0f s r cs=(⟨[],[],[]⟩,(whd s r).1,(whd s r).2.1):=by unfold x0f;rw [h,cond_false,decide_eq_false hk];rfl
 rw [e];simp only [badA,Bool.or_eq_false_iff,Bool.not_eq_false',decide_eq_false_iff_not,decide_eq_true_eq] at h;obtain ⟨h1,h2,h3,h4,h5⟩:=h;rw [h1] at hR;rw [h5] at c2;generalize whd s r=k at *;obtain ⟨k1,k2,k3⟩:=k;dsimp only at *;clear hs h1 h5 hcz e;refine hE [] func10 f10.eq_1 ?_
 repeat' first | refine hF ?_ ?_<;>intros | refine hI ?_ | (with_reducible first | refine w5a (hR) ?_ | refine xqd (hR) ?_ | refine w5a (c2) ?_ | refine xqd (c2) ?_ | refine w5a (c3) ?_ | refine xqd (c3) ?_)<;>refine hgS ?_
 all_goals first
  | exact y8h _ _
  | (exfalso;omega)
abbrev fwBs (s:Sht) (cs:List Sc) (w:Wk):List SB:=[.box ((shtC s).map .dat) (some 31),.box [.dat .zc,.dat .zc,.dat .zc] (some 41),mF w.m,wkB s cs 2 4 5 6 w.srcs.length w.outs.length w.shares.length,aSr w.srcs,aOt w.outs,aSh w.shares]
inductive StpC (Γ:List (Nat×List Cell)) (s:Sht) (cs:List Sc) (w w2:Wk) (x:Stp):Prop
 | src (h:z00 Γ prog 36 (wkBs s cs w) [.one (.ptr 0 0),.agg ((stpC x).map .dat)] (wkS s cs w2) (.tup []))
 | mix (h:z00 Γ prog 36 (wkBs s cs w) [.one (.ptr 0 0),.agg ((stpC x).map .dat)] (wkBs s cs w2) (.tup []))
 | out (h:z00 Γ prog 36 (wkBs s cs w) [.one (.ptr 0 0),.agg ((stpC x).map .dat)] (wkO s cs w2) (.tup []))
theorem z9e (s:Sht) (cs:List Sc) (w:Wk) (x:Stp) (hx:xtr s cs w x) (h0:0<=x.kind/\x.kind<=8) (he:errW s cs x=0):StpC Γ s cs w (yea s cs w x) x:=by
 have hk:x.kind=0\/x.kind=1\/x.kind=2\/x.kind=3\/x.kind=4\/x.kind=5\/x.kind=6\/x.kind=7\/x.kind=8:=by omega
 rcases hk with hk | hk | hk | hk | hk | hk | hk | hk | hk
 . exact .src (zet s cs w x hx hk)
 . exact .src (vga s cs w x hx hk)
 . exact .src (vy8 s cs w x hx hk)
 . exact .mix (wan s cs w x hx hk (by rw [<-he];unfold errW;rw [hk];rfl))
 . exact .mix (vkm s cs w x hx hk)
 . exact .out (ynl s cs w x hx hk)
 . exact .out (xwg s cs w x hx hk)
 . exact .out (yos s cs w x hx hk)
 . exact .out (zqg s cs w x hx hk)
theorem z4e (s:Sht) (r:Int) (cs:List Sc) (hs:s.Sm) (hcl:cs.length<=1048576) (hcz:∀ v∈cs,v.sz<=100000) (h:badA s r cs=false) (hk:(whd s r).1=0) (hw:xgs s cs (s.recipes.getD r.toNat default).steps):CallsD Γ prog 10 [.agg (shtC s),.one (cI r),.one (.sl 8 (cs.map Sc.C))] (frR (x0f s r cs)):=by
 have hR:=xwi (Γ:=Γ) s hs;have c2:=toD (Γ:=Γ) (w8c 32 (fun v=>!decide v.ok) cs (by omega) (fun i hi=>x77 _ (by have:=hcz _ (ldM (d:=Sc.zero) hi);omega)));have c3:=x0t (Γ:=Γ) s r hs;have hrl:=hs.rl;have hcll:=hs.cl
 have e:x0f s r cs=match yvg s cs (s.recipes.getD r.toNat default).steps 0 with
  | some e=>(⟨[],[],[]⟩,e.1,e.2)
  | none=>(xbw (vp4 s cs (s.recipes.getD r.toNat default).steps nilW (s.recipes.getD r.toNat default).steps.length),0,0):=by unfold x0f;rw [h,cond_false,decide_eq_true hk];rfl
 simp only [badA,Bool.or_eq_false_iff,Bool.not_eq_false',decide_eq_false_iff_not,decide_eq_true_eq] at h;obtain ⟨h1,h2,h3,h4,h5⟩:=h;rw [h1] at hR;rw [h5] at c2;rw [hk] at c3;generalize (whd s r).2.1=k2 at *;generalize x0f s r cs=R at *;clear hs h1 h5 hcz hk
 have hcf:=fun w (hn:w.srcs.length<=200) hh hr=>w1v (Γ:=Γ) s cs w hn hh hr
 obtain ⟨L,hL⟩:∃ L,(s.recipes.getD r.toNat default).steps=L:=⟨_,rfl⟩;rw [hL] at hw e
 replace e:∃ _:Unit,R=match yvg s cs L 0 with
  | some e=>(⟨[],[],[]⟩,e.1,e.2)
  | none=>(xbw (vp4 s cs L nilW L.length),0,0):=⟨(),e⟩
 have hLl:=hw.len;refine hE [] func10 f10.eq_1 ?_
 repeat' first | refine hF ?_ ?_<;>intros | refine hI ?_ | (with_reducible first | refine w5a (hR) ?_ | refine xqd (hR) ?_ | refine w5a (c2) ?_ | refine xqd (c2) ?_ | refine w5a (c3) ?_ | refine xqd (c3) ?_)<;>refine hgS ?_
 all_goals try (exfalso;omega)
 clear hR c2 c3
 try simp only [hL]
 refine vi3 [6,12,66,67] (fun i:Nat=>[(68,.one (.dat (cI i)))]) (fun i=>fwBs s cs (vp4 s cs L nilW i)) (fun i=>i<=L.length/\∀ j,j<i->errW s cs (L.getD j default)=0) (fun i=>L.length-i) 0 ⟨Nat.zero_le _,fun j hj=>by omega⟩ ?_ ?_
 . refine hg ?_;refine StH.trans (StH.vog 3 11 (es:=3) (c:=.sl 3 []) (T:=some 60) rfl rfl rfl (fun r hr=>by cases hr) rfl) ?_;refine StH.trans (StH.vog 3 12 (es:=4) (c:=.sl 4 []) (T:=some 62) rfl rfl rfl (fun r hr=>by cases hr) rfl) ?_;refine StH.trans (StH.vog 3 13 (es:=1) (c:=.sl 1 []) (T:=some 33) rfl rfl rfl (fun r hr=>by cases hr) rfl) ?_;refine hg ?_;exact sS
 rintro i ⟨hi,hj⟩;refine hg ?_;refine vdi (fun hlt _=>?_) (fun hlt _=>?_)
 . have hlt':i<L.length:=by omega
   have hst:=hw.st i hlt' hj;have hkk:=hw.k i hlt';by_cases he:errW s cs (L.getD i default)=0
   . have c5:=z9e (Γ:=Γ) s cs (vp4 s cs L nilW i) (L.getD i default) hst hkk he;have hnx:∀ j,j<i+1->errW s cs (L.getD j default)=0:=za5 hj he;obtain ⟨w2,hw2⟩:∃ w2,vp4 s cs L nilW (i+1)=w2:=⟨_,rfl⟩;rw [show yea s cs (vp4 s cs L nilW i) (L.getD i default)=w2 from hw2] at c5
     replace hw2:True->vp4 s cs L nilW (i+1)=w2:=fun _=>hw2
     have hwt:(L.getD i default).kind=3->wtE s cs (L.getD i default).cells=0/\WtOk s cs (L.getD i default).cells:=fun h33=>⟨by rw [<-he];unfold errW;rw [h33];rfl,(hst.spl h33).1⟩
     clear e hw hst he hcf;generalize vp4 s cs L nilW i=w at *;refine hg ?_;generalize L.getD i default=x at *;by_cases h33:x.kind=3
     . obtain ⟨hwe,hwo⟩:=hwt h33;have c4:=vp0 (Γ:=Γ) s cs w hcll x hwo;rw [show wtR s cs x.cells=.tup [.one (.dat (frsC (wtL s cs x.cells))),.one (.dat (cI 0))] by unfold wtR;rw [hwe];rfl] at c4;clear hwt hwe hwo hkk;obtain ⟨kk,inn,out,nm,cells,amt⟩:=x;dsimp only at *;subst h33;generalize wtL s cs cells=wt at *
       repeat' first | refine hF ?_ ?_<;>intros | refine hI ?_
       all_goals try (exfalso;omega)
       refine yhu [3,2,4,5,6] [.box ((shtC s).map .dat) (some 31),.box [.dat .zc,.dat .zc,.dat .zc] (some 41),mF w.m,wkB s cs 2 4 5 6 w.srcs.length w.outs.length w.shares.length,aSr w.srcs,aOt w.outs,aSh w.shares,zj1 ⟨3,inn,out,nm,cells,amt⟩] c4 rfl (by decide) rfl (by show [_,_,_,_,_]=[_,some (rnSB _ (mF _)),_,_,_];rw [vje];rfl) rfl (by show [_,_,rnSB _ (mF _),_,_,_,_,_]=_;rw [vje];rfl) ?_;refine hg ?_
       repeat' first | refine hF ?_ ?_<;>intros | refine hI ?_
       clear c4
       rcases c5 with h | h | h
       . refine yhu [3,2,4,5,6] [.box ((shtC s).map .dat) (some 31),.box [.dat .zc,.dat .zc,.dat .zc] (some 41),mF w2.m,wkB s cs 2 8 5 6 w2.srcs.length w2.outs.length w2.shares.length,.dead,aOt w2.outs,aSh w2.shares,zj1 ⟨3,inn,out,nm,cells,amt⟩,aSr w2.srcs] h rfl (by decide) rfl (by show [_,_,_,_,_]=[_,some (rnSB _ (mF _)),_,_,_];rw [vje];rfl) rfl (by show [_,_,rnSB _ (mF _),_,_,_,_,_,_]=_;rw [vje];rfl) ?_;refine hg ?_
         repeat' first | refine hF ?_ ?_<;>intros | refine hI ?_
         refine ⟨i+1,⟨by omega,hnx⟩,by omega,?_⟩;refine StH.back [6,12,66,67,68] 4 8 7 rfl rfl rfl rfl rfl ?_ ?_
         . rw [woq,v65];refine hg ?_
           first | exact trivial | rfl
         rw [woq,v65];refine hg ?_;rw [hw2 trivial];exact sS
       . refine yhu [3,2,4,5,6] [.box ((shtC s).map .dat) (some 31),.box [.dat .zc,.dat .zc,.dat .zc] (some 41),mF w2.m,wkB s cs 2 4 5 6 w2.srcs.length w2.outs.length w2.shares.length,aSr w2.srcs,aOt w2.outs,aSh w2.shares,zj1 ⟨3,inn,out,nm,cells,amt⟩] h rfl (by decide) rfl (by show [_,_,_,_,_]=[_,some (rnSB _ (mF _)),_,_,_];rw [vje];rfl) rfl (by show [_,_,rnSB _ (mF _),_,_,_,_,_]=_;rw [vje];rfl) ?_;refine hg ?_
         repeat' first | refine hF ?_ ?_<;>intros | refine hI ?_
         refine ⟨i+1,⟨by omega,hnx⟩,by omega,?_⟩;refine StH.cutN [6,12,66,67,68] 7 rfl ?_ ?_
         . refine hg ?_
           first | exact trivial | rfl
         refine hg ?_;rw [hw2 trivial];exact sS
       . refine yhu [3,2,4,5,6] [.box ((shtC s).map .dat) (some 31),.box [.dat .zc,.dat .zc,.dat .zc] (some 41),mF w2.m,wkB s cs 2 4 8 9 w2.srcs.length w2.outs.length w2.shares.length,aSr w2.srcs,.dead,.dead,zj1 ⟨3,inn,out,nm,cells,amt⟩,aOt w2.outs,aSh w2.shares] h rfl (by decide) rfl (by show [_,_,_,_,_]=[_,some (rnSB _ (mF _)),_,_,_];rw [vje];rfl) rfl (by show [_,_,rnSB _ (mF _),_,_,_,_,_,_,_]=_;rw [vje];rfl) ?_;refine hg ?_
         repeat' first | refine hF ?_ ?_<;>intros | refine hI ?_
         refine ⟨i+1,⟨by omega,hnx⟩,by omega,?_⟩;refine StH.back [6,12,66,67,68] 5 8 10 rfl rfl rfl rfl rfl ?_ ?_
         . rw [ynf,v65];refine hg ?_
           first | exact trivial | rfl
         rw [ynf,v65];refine hg ?_;refine StH.back [6,12,66,67,68] 6 9 7 rfl rfl rfl rfl rfl ?_ ?_
         . rw [xtm,v65];refine hg ?_
           first | exact trivial | rfl
         rw [xtm,v65];refine hg ?_;rw [hw2 trivial];exact sS
     . clear hwt
       repeat' first | refine hF ?_ ?_<;>intros | refine hI ?_
       all_goals try (exfalso;omega)
       rcases c5 with h | h | h
       . refine yhu [3,2,4,5,6] [.box ((shtC s).map .dat) (some 31),.box [.dat .zc,.dat .zc,.dat .zc] (some 41),mF w2.m,wkB s cs 2 8 5 6 w2.srcs.length w2.outs.length w2.shares.length,.dead,aOt w2.outs,aSh w2.shares,zj1 x,aSr w2.srcs] h rfl (by decide) rfl (by show [_,_,_,_,_]=[_,some (rnSB _ (mF _)),_,_,_];rw [vje];rfl) rfl (by show [_,_,rnSB _ (mF _),_,_,_,_,_,_]=_;rw [vje];rfl) ?_;refine hg ?_
         repeat' first | refine hF ?_ ?_<;>intros | refine hI ?_
         refine ⟨i+1,⟨by omega,hnx⟩,by omega,?_⟩;refine StH.back [6,12,66,67,68] 4 8 7 rfl rfl rfl rfl rfl ?_ ?_
         . rw [woq,v65];refine hg ?_
           first | exact trivial | rfl
         rw [woq,v65];refine hg ?_;rw [hw2 trivial];exact sS
       . refine yhu [3,2,4,5,6] [.box ((shtC s).map .dat) (some 31),.box [.dat .zc,.dat .zc,.dat .zc] (some 41),mF w2.m,wkB s cs 2 4 5 6 w2.srcs.length w2.outs.length w2.shares.length,aSr w2.srcs,aOt w2.outs,aSh w2.shares,zj1 x] h rfl (by decide) rfl (by show [_,_,_,_,_]=[_,some (rnSB _ (mF _)),_,_,_];rw [vje];rfl) rfl (by show [_,_,rnSB _ (mF _),_,_,_,_,_]=_;rw [vje];rfl) ?_;refine hg ?_
         repeat' first | refine hF ?_ ?_<;>intros | refine hI ?_
         refine ⟨i+1,⟨by omega,hnx⟩,by omega,?_⟩;refine StH.cutN [6,12,66,67,68] 7 rfl ?_ ?_
         . refine hg ?_
           first | exact trivial | rfl
         refine hg ?_;rw [hw2 trivial];exact sS
       . refine yhu [3,2,4,5,6] [.box ((shtC s).map .dat) (some 31),.box [.dat .zc,.dat .zc,.dat .zc] (some 41),mF w2.m,wkB s cs 2 4 8 9 w2.srcs.length w2.outs.length w2.shares.length,aSr w2.srcs,.dead,.dead,zj1 x,aOt w2.outs,aSh w2.shares] h rfl (by decide) rfl (by show [_,_,_,_,_]=[_,some (rnSB _ (mF _)),_,_,_];rw [vje];rfl) rfl (by show [_,_,rnSB _ (mF _),_,_,_,_,_,_,_]=_;rw [vje];rfl) ?_;refine hg ?_
         repeat' first | refine hF ?_ ?_<;>intros | refine hI ?_
         refine ⟨i+1,⟨by omega,hnx⟩,by omega,?_⟩;refine StH.back [6,12,66,67,68] 5 8 10 rfl rfl rfl rfl rfl ?_ ?_
         . rw [ynf,v65];refine hg ?_
           first | exact trivial | rfl
         rw [ynf,v65];refine hg ?_;refine StH.back [6,12,66,67,68] 6 9 7 rfl rfl rfl rfl rfl ?_ ?_
         . rw [xtm,v65];refine hg ?_
           first | exact trivial | rfl
         rw [xtm,v65];refine hg ?_;rw [hw2 trivial];exact sS
   . have h33:(L.getD i default).kind=3:=Classical.byContradiction fun h=>he (by unfold errW;rw [decide_eq_false h];rfl)
     have eR:=ycp hlt' hj he
     have ew:errW s cs (L.getD i default)=wtE s cs (L.getD i default).cells:=by unfold errW;rw [h33];rfl
     obtain ⟨_,e⟩:=e;rw [eR] at e;dsimp only at e;rw [ew] at e he;have c4:=vp0 (Γ:=Γ) s cs (vp4 s cs L nilW i) hcll (L.getD i default) (hst.spl h33).1;rw [show wtR s cs (L.getD i default).cells=.tup [.one (.dat (.raw (.slice none 0 0))),.one (.dat (cI (wtE s cs (L.getD i default).cells)))] by unfold wtR;rw [decide_eq_false he];rfl] at c4;rw [e];clear e hw hst hcf hkk eR ew hj;generalize vp4 s cs L nilW i=w at *;refine hg ?_;generalize L.getD i default=x at *;obtain ⟨kk,inn,out,nm,cells,amt⟩:=x;dsimp only at *;subst h33;generalize wtE s cs cells=er at *
     repeat' first | refine hF ?_ ?_<;>intros | refine hI ?_
     refine yhu [3,2,4,5,6] [.box ((shtC s).map .dat) (some 31),.box [.dat .zc,.dat .zc,.dat .zc] (some 41),mF w.m,wkB s cs 2 4 5 6 w.srcs.length w.outs.length w.shares.length,aSr w.srcs,aOt w.outs,aSh w.shares,zj1 ⟨3,inn,out,nm,cells,amt⟩] c4 rfl (by decide) rfl (by show [_,_,_,_,_]=[_,some (rnSB _ (mF _)),_,_,_];rw [vje];rfl) rfl (by show [_,_,rnSB _ (mF _),_,_,_,_,_]=_;rw [vje];rfl) ?_;refine hg ?_
     repeat' first | refine hF ?_ ?_<;>intros | refine hI ?_
     all_goals try (exfalso;omega)
     all_goals exact y8h _ _
 have ei:i=L.length:=by omega
 subst ei;obtain ⟨_,e⟩:=e;rw [yb7 hj] at e;dsimp only at e;rw [e];have hln:=xw8 s cs L L.length;have c6:=hcf (vp4 s cs L nilW L.length) (by omega) (by omega) (hw.fl hj);clear e hw hcf hj;unfold xbw;generalize vp4 s cs L nilW L.length=w at *;refine hg ?_
 repeat' first | refine hF ?_ ?_<;>intros | refine hI ?_
 refine yhu [3,2,4,5,6] [.box ((shtC s).map .dat) (some 31),.box [.dat .zc,.dat .zc,.dat .zc] (some 41),mF w.m,wkB s cs 2 4 5 6 w.srcs.length w.outs.length (w.shares.map (wt2 w.srcs.length)).length,aSr w.srcs,aOt w.outs,aSh (w.shares.map (wt2 w.srcs.length))] c6 rfl (by decide) rfl (by show [_,_,_,_,_]=[_,some (rnSB _ (mF _)),_,_,_];rw [vje];rfl) rfl (by show [_,_,rnSB _ (mF _),_,_,_,_]=_;rw [vje];rfl) ?_;refine hg ?_
 repeat' first | refine hF ?_ ?_<;>intros | refine hI ?_
 exact RLe.ofEq rfl
end Go.Hp.T
namespace Go.Hp.T
open Go Go.RowKit Go.Slot Go.Hp Go.Slot.T
set_option maxRecDepth 10000
def szB (s:ByteArray):Bool:=decide (s.size<=1073741824)
def lnB {α:Type} (l:List α):Bool:=decide (l.length<=1073741824)
def exB (x:Ex):Bool:=x.args.isEmpty&&(szB x.unit&&szB x.name)
theorem yjb {x:Ex} (h:exB x=true):x.Sm:=by
 simp only [exB,szB,Bool.and_eq_true,decide_eq_true_eq,List.isEmpty_iff] at h;exact .mk x (by rw [h.1];decide) h.2.1 h.2.2 (fun y hy=>by rw [h.1] at hy;cases hy)
def stpB (x:Stp):Bool:=lnB x.inn&&(lnB x.out&&(lnB x.cells&&(x.inn.all szB&&(x.out.all szB&&(x.cells.all szB&&szB x.name)))))
theorem vs7 {x:Stp} (h:stpB x=true):x.Sm:=by
 simp only [stpB,szB,lnB,Bool.and_eq_true,decide_eq_true_eq,List.all_eq_true] at h;exact ⟨h.1,h.2.1,h.2.2.1,h.2.2.2.1,h.2.2.2.2.1,h.2.2.2.2.2.1,h.2.2.2.2.2.2⟩
def shtB (s:Sht):Bool:=szB s.name&&(lnB s.imports&&(lnB s.inputs&&(s.tables.isEmpty&&(s.funcs.isEmpty&&(lnB s.cells&&(lnB s.ports&&(lnB s.stores&&(lnB s.recipes&&
 (s.imports.all (fun x=>szB x.name&&(szB x.unit&&szB x.port))&&(s.inputs.all (fun x=>szB x.name&&(szB x.unit&&szB x.kind))&&(s.cells.all (fun x=>szB x.name&&(szB x.unit&&exB x.x))&&
 (s.ports.all (fun x=>szB x.name&&szB x.unit)&&(s.stores.all (fun x=>szB x.name&&szB x.unit)&&s.recipes.all (fun x=>szB x.kind&&(lnB x.steps&&x.steps.all stpB)))))))))))))))
theorem xix {s:Sht} (h:shtB s=true):s.Sm:=by
 simp only [shtB,szB,lnB,Bool.and_eq_true,decide_eq_true_eq,List.all_eq_true,List.isEmpty_iff] at h;obtain ⟨h1,h2,h3,h4,h5,h6,h7,h8,h9,i,n,c,p,o,r⟩:=h;exact ⟨h1,h2,h3,by rw [h4];decide,by rw [h5];decide,h6,h7,h8,h9,i,n,fun x hx=>(by rw [h4] at hx;cases hx),fun x hx=>(by rw [h5] at hx;cases hx),fun x hx=>⟨(c x hx).1,(c x hx).2.1,yjb (c x hx).2.2⟩,p,o,fun x hx=>⟨(r x hx).1,(r x hx).2.1,fun y hy=>vs7 ((r x hx).2.2 y hy)⟩⟩
end Go.Hp.T
