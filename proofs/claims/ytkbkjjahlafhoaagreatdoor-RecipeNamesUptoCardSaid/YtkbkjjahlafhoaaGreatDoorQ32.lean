/- The proof, part Q32: 3j, 3k, 3m, 7e. -/
import Derived.Test.YtkbkjjahlafhoaaGreatDoorQ17
import Derived.Test.YtkbkjjahlafhoaaGreatDoorQ31
import Derived.Test.YtkbkjjahlafhoaaGreatDoorQ30
import Derived.Test.YtkbkjjahlafhoaaGreatDoorQ26
namespace Go.Hp.T
open Go Go.RowKit Go.Slot Go.Hp Go.Slot.T
open Go.Proofs.Tryz
variable {sh:List (List Fc)} {k:Nat} {cs:List Sc} {l:List Stp}
attribute [local irreducible] hide RH
set_option maxRecDepth 10000
set_option maxHeartbeats 8000000
variable {Γ:List (Nat×List Cell)}
structure v3d (s:Sht) (cs:List Sc) (w:Wk) (x:Stp):Prop where
 m:SzM w.m
 n:w.srcs.length<=100
 o:w.outs.length<=100
 h:w.shares.length<=100
 il:x.inn.length<=200
 ol:x.out.length<=200
 cl:s.cells.length<=1073741824
 nl:s.inputs.length<=1073741824
 ml:s.imports.length<=1073741824
 sl:s.stores.length<=1073741824
 pl:s.ports.length<=1073741824
 src:x.kind<=2->0<x.out.length
 spl:x.kind=3->WtOk s cs x.cells/\(wtE s cs x.cells=0->x.out.length<=x.cells.length/\∀ k,k<=x.out.length->SzM (zlv w.srcs.length x.inn (wtL s cs x.cells) x.out w.m k))/\∀ y∈wtL s cs x.cells,y.sz<=100000
 join:x.kind=4->0<x.out.length
 out:5<=x.kind->0<x.inn.length/\∃ l,v7b w.m (x.inn.getD 0 default)=some l
theorem zko (s:Sht) (cs:List Sc) (w:Wk):wkBs s cs w++List.replicate 1 .fresh=[wkB s cs 1 2 3 4 w.srcs.length w.outs.length w.shares.length,mF w.m,aSr w.srcs,aOt w.outs,aSh w.shares,.fresh]:=rfl
theorem zg5 (s:Sht) (cs:List Sc) (w:Wk):wkBs s cs w++List.replicate 2 .fresh=[wkB s cs 1 2 3 4 w.srcs.length w.outs.length w.shares.length,mF w.m,aSr w.srcs,aOt w.outs,aSh w.shares,.fresh,.fresh]:=rfl
abbrev stS (s:Sht) (cs:List Sc) (w:Wk):List (Nat×SB):=[(0,wkB s cs 1 7 3 4 w.srcs.length w.outs.length w.shares.length),(1,mF w.m),(2,.dead),(3,aOt w.outs),(4,aSh w.shares),(7,aSr w.srcs)]
abbrev stO (s:Sht) (cs:List Sc) (w:Wk):List (Nat×SB):=[(0,wkB s cs 1 2 7 8 w.srcs.length w.outs.length w.shares.length),(1,mF w.m),(2,aSr w.srcs),(3,.dead),(4,.dead),(7,aOt w.outs),(8,aSh w.shares)]
theorem zfq (s:Sht) (cs:List Sc) (w:Wk) (x:Stp) (hx:v3d s cs w x) (hk:x.kind=0):xbh Γ prog 36 (wkBs s cs w) [.one (.ptr 0 0),.agg ((stpC x).map .dat)] (wkS s cs (vlo s cs w x)) (.tup []):=by
 have ho:=hx.src (by omega);have c0:=zsc (Γ:=Γ) s cs w hx.nl x.name;have c1:=xbh.w5u 1 (wsn (Γ:=Γ) s cs w (by have:=hx.n;omega) ⟨0,idxI s x.name,0⟩ (x.out.getD 0 default));obtain ⟨o,ho0⟩:∃ o,o=Fc.of 1:=⟨_,rfl⟩;have c2:=vzx (Γ:=Γ) ho0
 have ho9:True->o=Fc.of 1:=fun _=>ho0
 clear ho0;have hol:=hx.ol
 have e:vlo s cs w x=srcW w ⟨0,idxI s x.name,0⟩ (x.out.getD 0 default):=by unfold vlo;rw [hk];rfl
 rw [e];clear hx e;generalize idxI s x.name=j at *;generalize hw:srcW w ⟨0,j,0⟩ (x.out.getD 0 default)=w2 at *;clear hw;rw [zko] at c1;refine hEh [(4,[.room 1])] func36 f36.eq_1 ?_
 (with_reducible refine wdy c2 ?_)<;>refine hgS ?_
 refine z5f 5 (fun ξ=>xbh.preN c0 (wzv s cs w) rfl rfl) rfl rfl ?_;refine hg ?_;refine wlt [0,1,2,3,4,7] (stS s cs w2) c1 rfl (by decide) rfl (by show [_,_,_,_,_,_]=[_,some (rnSB _ (mF _)),_,_,_,_];rw [vnt];rfl) rfl (by show [_,rnSB _ (mF _),_,_,_,_,_,_]=_;rw [vnt];rfl) ?_;refine hg ?_;refine hI ?_;refine StH.back [0] 5 7 6 rfl rfl rfl rfl rfl ?_ ?_
 . rw [yn7,xlw];refine hg ?_
   first | exact trivial | rfl
 rw [yn7,xlw];refine hg ?_;exact sS
theorem xyb (s:Sht) (cs:List Sc) (w:Wk) (x:Stp) (hx:v3d s cs w x) (hk:x.kind=1):xbh Γ prog 36 (wkBs s cs w) [.one (.ptr 0 0),.agg ((stpC x).map .dat)] (wkS s cs (vlo s cs w x)) (.tup []):=by
 have ho:=hx.src (by omega);have c0:=x0n (Γ:=Γ) s cs w hx.ml x.name;have c1:=xbh.w5u 1 (wsn (Γ:=Γ) s cs w (by have:=hx.n;omega) ⟨1,idxM s x.name,0⟩ (x.out.getD 0 default));obtain ⟨o,ho0⟩:∃ o,o=Fc.of 1:=⟨_,rfl⟩;have c2:=vzx (Γ:=Γ) ho0
 have ho9:True->o=Fc.of 1:=fun _=>ho0
 clear ho0;have hol:=hx.ol
 have e:vlo s cs w x=srcW w ⟨1,idxM s x.name,0⟩ (x.out.getD 0 default):=by unfold vlo;rw [hk];rfl
 rw [e];clear hx e;generalize idxM s x.name=j at *;generalize hw:srcW w ⟨1,j,0⟩ (x.out.getD 0 default)=w2 at *;clear hw;rw [zko] at c1;refine hEh [(6,[.room 1])] func36 f36.eq_1 ?_
 (with_reducible refine wdy c2 ?_)<;>refine hgS ?_
 refine z5f 5 (fun ξ=>xbh.preN c0 (wzv s cs w) rfl rfl) rfl rfl ?_;refine hg ?_;refine wlt [0,1,2,3,4,7] (stS s cs w2) c1 rfl (by decide) rfl (by show [_,_,_,_,_,_]=[_,some (rnSB _ (mF _)),_,_,_,_];rw [vnt];rfl) rfl (by show [_,rnSB _ (mF _),_,_,_,_,_,_]=_;rw [vnt];rfl) ?_;refine hg ?_;refine hI ?_;refine StH.back [0] 5 7 6 rfl rfl rfl rfl rfl ?_ ?_
 . rw [yn7,xlw];refine hg ?_
   first | exact trivial | rfl
 rw [yn7,xlw];refine hg ?_;exact sS
theorem w6j (s:Sht) (cs:List Sc) (w:Wk) (x:Stp) (hx:v3d s cs w x) (hk:x.kind=2):xbh Γ prog 36 (wkBs s cs w) [.one (.ptr 0 0),.agg ((stpC x).map .dat)] (wkS s cs (vlo s cs w x)) (.tup []):=by
 have ho:=hx.src (by omega);have c0:=yy7 (Γ:=Γ) s cs w hx.sl x.name;have c1:=xbh.w5u 1 (wsn (Γ:=Γ) s cs w (by have:=hx.n;omega) ⟨2,idxS s x.name,x.amount⟩ (x.out.getD 0 default));obtain ⟨o,ho0⟩:∃ o,o=Fc.of 1:=⟨_,rfl⟩;have c2:=vzx (Γ:=Γ) ho0
 have ho9:True->o=Fc.of 1:=fun _=>ho0
 clear ho0;have hol:=hx.ol
 have e:vlo s cs w x=srcW w ⟨2,idxS s x.name,x.amount⟩ (x.out.getD 0 default):=by unfold vlo;rw [hk];rfl
 rw [e];clear hx e;generalize idxS s x.name=j at *;generalize hw:srcW w ⟨2,j,x.amount⟩ (x.out.getD 0 default)=w2 at *;clear hw;rw [zko] at c1;refine hEh [(8,[.room 1])] func36 f36.eq_1 ?_
 (with_reducible refine wdy c2 ?_)<;>refine hgS ?_
 refine z5f 5 (fun ξ=>xbh.preN c0 (wzv s cs w) rfl rfl) rfl rfl ?_;refine hg ?_;refine wlt [0,1,2,3,4,7] (stS s cs w2) c1 rfl (by decide) rfl (by show [_,_,_,_,_,_]=[_,some (rnSB _ (mF _)),_,_,_,_];rw [vnt];rfl) rfl (by show [_,rnSB _ (mF _),_,_,_,_,_,_]=_;rw [vnt];rfl) ?_;refine hg ?_;refine hI ?_;refine StH.back [0] 5 7 6 rfl rfl rfl rfl rfl ?_ ?_
 . rw [yn7,xlw];refine hg ?_
   first | exact trivial | rfl
 rw [yn7,xlw];refine hg ?_;exact sS
theorem x00 (s:Sht) (cs:List Sc) (w:Wk) (x:Stp) (hx:v3d s cs w x) (hk:x.kind=5):xbh Γ prog 36 (wkBs s cs w) [.one (.ptr 0 0),.agg ((stpC x).map .dat)] (wkO s cs (vlo s cs w x)) (.tup []):=by
 obtain ⟨ho,l,hl⟩:=hx.out (by omega);have c1:=xbh.w5u 2 (cOut (Γ:=Γ) s cs w (by have:=hx.o;omega) (by have:=hx.h;omega) ⟨0,idxP s x.name,0,⟨#[]⟩⟩ (x.inn.getD 0 default) l hl);obtain ⟨o,ho0⟩:∃ o,o=Fc.of 1:=⟨_,rfl⟩;have c2:=vzx (Γ:=Γ) ho0
 have ho9:True->o=Fc.of 1:=fun _=>ho0
 clear ho0;have hil:=hx.il;have c0:=vkm (Γ:=Γ) s cs w hx.pl x.name
 have e:vlo s cs w x=outW w ⟨0,idxP s x.name,0,⟨#[]⟩⟩ (x.inn.getD 0 default):=by unfold vlo;rw [hk];rfl
 rw [e];clear hx e hl;generalize idxP s x.name=j at *;generalize hw:outW w ⟨0,j,0,⟨#[]⟩⟩ (x.inn.getD 0 default)=w2 at *;clear hw;rw [zg5] at c1;refine hEh [(19,[.room 2])] func36 f36.eq_1 ?_
 (with_reducible refine wdy c2 ?_)<;>refine hgS ?_
 refine z5f 5 (fun ξ=>xbh.preN c0 (wzv s cs w) rfl rfl) rfl rfl ?_;refine hg ?_;refine wlt [0,1,2,3,4,7,8] (stO s cs w2) c1 rfl (by decide) rfl (by show [_,_,_,_,_,_,_]=[_,some (rnSB _ (mF _)),_,_,_,_,_];rw [vnt];rfl) rfl (by show [_,rnSB _ (mF _),_,_,_,_,_,_,_]=_;rw [vnt];rfl) ?_;refine hg ?_;refine hI ?_;refine StH.back [0] 5 7 9 rfl rfl rfl rfl rfl ?_ ?_
 . rw [vsn,xlw];refine hg ?_
   first | exact trivial | rfl
 rw [vsn,xlw];refine hg ?_;refine StH.back [0] 6 8 7 rfl rfl rfl rfl rfl ?_ ?_
 . rw [wu1,xlw];refine hg ?_
   first | exact trivial | rfl
 rw [wu1,xlw];refine hg ?_;exact sS
theorem xyc (s:Sht) (cs:List Sc) (w:Wk) (x:Stp) (hx:v3d s cs w x) (hk:x.kind=6):xbh Γ prog 36 (wkBs s cs w) [.one (.ptr 0 0),.agg ((stpC x).map .dat)] (wkO s cs (vlo s cs w x)) (.tup []):=by
 obtain ⟨ho,l,hl⟩:=hx.out (by omega);have c1:=xbh.w5u 2 (cOut (Γ:=Γ) s cs w (by have:=hx.o;omega) (by have:=hx.h;omega) ⟨1,idxS s x.name,x.amount,⟨#[]⟩⟩ (x.inn.getD 0 default) l hl);obtain ⟨o,ho0⟩:∃ o,o=Fc.of 1:=⟨_,rfl⟩;have c2:=vzx (Γ:=Γ) ho0
 have ho9:True->o=Fc.of 1:=fun _=>ho0
 clear ho0;have hil:=hx.il;have c0:=yy7 (Γ:=Γ) s cs w hx.sl x.name
 have e:vlo s cs w x=outW w ⟨1,idxS s x.name,x.amount,⟨#[]⟩⟩ (x.inn.getD 0 default):=by unfold vlo;rw [hk];rfl
 rw [e];clear hx e hl;generalize idxS s x.name=j at *;generalize hw:outW w ⟨1,j,x.amount,⟨#[]⟩⟩ (x.inn.getD 0 default)=w2 at *;clear hw;rw [zg5] at c1;refine hEh [(21,[.room 2])] func36 f36.eq_1 ?_
 (with_reducible refine wdy c2 ?_)<;>refine hgS ?_
 refine z5f 5 (fun ξ=>xbh.preN c0 (wzv s cs w) rfl rfl) rfl rfl ?_;refine hg ?_;refine wlt [0,1,2,3,4,7,8] (stO s cs w2) c1 rfl (by decide) rfl (by show [_,_,_,_,_,_,_]=[_,some (rnSB _ (mF _)),_,_,_,_,_];rw [vnt];rfl) rfl (by show [_,rnSB _ (mF _),_,_,_,_,_,_,_]=_;rw [vnt];rfl) ?_;refine hg ?_;refine hI ?_;refine StH.back [0] 5 7 9 rfl rfl rfl rfl rfl ?_ ?_
 . rw [vsn,xlw];refine hg ?_
   first | exact trivial | rfl
 rw [vsn,xlw];refine hg ?_;refine StH.back [0] 6 8 7 rfl rfl rfl rfl rfl ?_ ?_
 . rw [wu1,xlw];refine hg ?_
   first | exact trivial | rfl
 rw [wu1,xlw];refine hg ?_;exact sS
theorem xpz (s:Sht) (cs:List Sc) (w:Wk) (x:Stp) (hx:v3d s cs w x) (hk:x.kind=7):xbh Γ prog 36 (wkBs s cs w) [.one (.ptr 0 0),.agg ((stpC x).map .dat)] (wkO s cs (vlo s cs w x)) (.tup []):=by
 obtain ⟨ho,l,hl⟩:=hx.out (by omega);have c1:=xbh.w5u 2 (cOut (Γ:=Γ) s cs w (by have:=hx.o;omega) (by have:=hx.h;omega) ⟨2,0,0,x.name⟩ (x.inn.getD 0 default) l hl);obtain ⟨o,ho0⟩:∃ o,o=Fc.of 1:=⟨_,rfl⟩;have c2:=vzx (Γ:=Γ) ho0
 have ho9:True->o=Fc.of 1:=fun _=>ho0
 clear ho0;have hil:=hx.il
 have e:vlo s cs w x=outW w ⟨2,0,0,x.name⟩ (x.inn.getD 0 default):=by unfold vlo;rw [hk];rfl
 rw [e];clear hx e hl;generalize hw:outW w ⟨2,0,0,x.name⟩ (x.inn.getD 0 default)=w2 at *;clear hw;rw [zg5] at c1;refine hEh [(23,[.room 2])] func36 f36.eq_1 ?_
 (with_reducible refine wdy c2 ?_)<;>refine hgS ?_
 refine wlt [0,1,2,3,4,7,8] (stO s cs w2) c1 rfl (by decide) rfl (by show [_,_,_,_,_,_,_]=[_,some (rnSB _ (mF _)),_,_,_,_,_];rw [vnt];rfl) rfl (by show [_,rnSB _ (mF _),_,_,_,_,_,_,_]=_;rw [vnt];rfl) ?_;refine hg ?_;refine hI ?_;refine StH.back [0] 5 7 9 rfl rfl rfl rfl rfl ?_ ?_
 . rw [vsn,xlw];refine hg ?_
   first | exact trivial | rfl
 rw [vsn,xlw];refine hg ?_;refine StH.back [0] 6 8 7 rfl rfl rfl rfl rfl ?_ ?_
 . rw [wu1,xlw];refine hg ?_
   first | exact trivial | rfl
 rw [wu1,xlw];refine hg ?_;exact sS
theorem y11 (s:Sht) (cs:List Sc) (w:Wk) (x:Stp) (hx:v3d s cs w x) (hk:x.kind=8):xbh Γ prog 36 (wkBs s cs w) [.one (.ptr 0 0),.agg ((stpC x).map .dat)] (wkO s cs (vlo s cs w x)) (.tup []):=by
 obtain ⟨ho,l,hl⟩:=hx.out (by omega);have c1:=cOut (Γ:=Γ) s cs w (by have:=hx.o;omega) (by have:=hx.h;omega) ⟨3,0,0,⟨#[]⟩⟩ (x.inn.getD 0 default) l hl;obtain ⟨o,ho0⟩:∃ o,o=Fc.of 1:=⟨_,rfl⟩;have c2:=vzx (Γ:=Γ) ho0
 have ho9:True->o=Fc.of 1:=fun _=>ho0
 clear ho0;have hil:=hx.il
 have e:vlo s cs w x=outW w ⟨3,0,0,⟨#[]⟩⟩ (x.inn.getD 0 default):=by unfold vlo;rw [hk];rfl
 rw [e];clear hx e hl;generalize hw:outW w ⟨3,0,0,⟨#[]⟩⟩ (x.inn.getD 0 default)=w2 at *;clear hw;obtain ⟨kk,inn,out,nm,cells,amt⟩:=x;dsimp only at *;subst hk;refine hEh [] func36 f36.eq_1 ?_
 (with_reducible refine wdy c2 ?_)<;>refine hgS ?_
 refine yp5 [0,1,2,3,4] [wkB s cs 1 2 7 8 w2.srcs.length w2.outs.length w2.shares.length,mF w2.m,aSr w2.srcs,.dead,.dead,vsx ⟨8,inn,out,nm,cells,amt⟩,.box ((fcC o).map .dat) (some 51),aOt w2.outs,aSh w2.shares] c1 rfl (by decide) rfl (by show [_,_,_,_,_]=[_,some (rnSB _ (mF _)),_,_,_];rw [vnt];rfl) rfl (by show [_,rnSB _ (mF _),_,_,_,_,_,_,_]=_;rw [vnt];rfl) ?_;refine hg ?_;refine StH.back [0] 5 7 9 rfl rfl rfl rfl rfl ?_ ?_
 . rw [vsn,xlw];refine hg ?_
   first | exact trivial | rfl
 rw [vsn,xlw];refine hg ?_;refine StH.back [0] 6 8 7 rfl rfl rfl rfl rfl ?_ ?_
 . rw [wu1,xlw];refine hg ?_
   first | exact trivial | rfl
 rw [wu1,xlw];refine hg ?_;exact sS
theorem x9l (s:Sht) (cs:List Sc) (w:Wk) (x:Stp) (hx:v3d s cs w x) (hk:x.kind=4):xbh Γ prog 36 (wkBs s cs w) [.one (.ptr 0 0),.agg ((stpC x).map .dat)] (wkBs s cs (vlo s cs w x)) (.tup []):=by
 have ho:=hx.join hk;have hol:=hx.ol;obtain ⟨o,ho0⟩:∃ o,o=Fc.of 1:=⟨_,rfl⟩;have c2:=vzx (Γ:=Γ) ho0;have c1:=zzl (Γ:=Γ) s cs w hx.m (by have:=hx.n;omega) x.inn hx.il o (by rw [ho0];have:=wzi;omega)
 have e:vlo s cs w x=setM w (updF w.m (x.out.getD 0 default) (mixF w.m w.srcs.length x.inn (Fc.of 1))):=by unfold vlo;rw [hk];rfl
 rw [<-ho0] at e;rw [e];clear ho0;clear hx e;generalize mixF w.m w.srcs.length x.inn o=l at *;refine hEh [] func36 f36.eq_1 ?_
 (with_reducible refine wdy c2 ?_)<;>refine hgS ?_
 refine z5f 5 (fun ξ=>xbh.preN c1 (wzv s cs w) rfl rfl) rfl rfl ?_;refine hg ?_;refine hI ?_;refine StH.cutN [0] 5 rfl ?_ ?_
 . refine hg ?_
   first | exact trivial | rfl
 exact sS
theorem wq1 (s:Sht) (cs:List Sc) (w:Wk) (x:Stp) (hx:v3d s cs w x) (hk:x.kind=3) (h0:wtE s cs x.cells=0):xbh Γ prog 36 (wkBs s cs w) [.one (.ptr 0 0),.agg ((stpC x).map .dat)] (wkBs s cs (vlo s cs w x)) (.tup []):=by
 have hn:=hx.n;have hil:=hx.il;have hol:=hx.ol;obtain ⟨hw1,hw2,hw3⟩:=hx.spl hk;obtain ⟨hlen,hsz⟩:=hw2 h0;have c1:=v0s (Γ:=Γ) s cs w hx.cl x hw1;obtain ⟨o,ho0⟩:∃ o,o=Fc.of 1:=⟨_,rfl⟩;have c2:=vzx (Γ:=Γ) ho0
 have ho9:True->o=Fc.of 1:=fun _=>ho0
 clear ho0
 have er:wtR s cs x.cells=.tup [.one (.dat (frsC (wtL s cs x.cells))),.one (.dat (cI 0))]:=by unfold wtR;rw [h0];rfl
 have ef:wtF s cs x.cells=wtL s cs x.cells:=by unfold wtF;rw [h0];rfl
 have e:vlo s cs w x=setM w (zlv w.srcs.length x.inn (wtL s cs x.cells) x.out w.m x.out.length):=by unfold vlo;rw [hk,ef];rfl
 have hwl:(wtL s cs x.cells).length=x.cells.length:=by unfold wtL;rw [List.length_map]
 rw [e];rw [er] at c1;clear hx e ef er h0 hw1 hw2;obtain ⟨kk,inn,out,nm,cells,amt⟩:=x;dsimp only at *;subst hk;generalize wtL s cs cells=wt at *
 have hmx:∀ k,k<out.length->xbh Γ prog 73 (wkBs s cs (setM w (zlv w.srcs.length inn wt out w.m k))) [.one (.ptr 0 0),.one (.dat (zjy inn)),.agg ((wt.getD k Fc.zero).C.map .dat)] (wkBs s cs (setM w (zlv w.srcs.length inn wt out w.m k))) (.one (.dat (frsC (mixF (zlv w.srcs.length inn wt out w.m k) w.srcs.length inn (wt.getD k Fc.zero))))):=fun k hk=>
  zzl s cs (setM w (zlv w.srcs.length inn wt out w.m k)) (hsz k (by omega)) (show w.srcs.length<=200 by omega) inn hil _ (hw3 _ (ldM (by omega)))
 clear hsz hw3;refine hEh [] func36 f36.eq_1 ?_
 (with_reducible refine wdy c2 ?_)<;>refine hgS ?_
 refine yp5 [0,1,2,3,4] (wkBs s cs w++[vsx ⟨3,inn,out,nm,cells,amt⟩,.box ((fcC o).map .dat) (some 51)]) c1 rfl (by decide) rfl (by show [_,_,_,_,_]=[_,some (rnSB _ (mF _)),_,_,_];rw [vnt];rfl) rfl (by show [_,rnSB _ (mF _),_,_,_,_,_]=_;rw [vnt];rfl) ?_;refine hg ?_;refine wf5 [0,3,5,62,63] (fun k:Nat=>[(64,.one (.dat (cI k)))]) (fun k=>wkBs s cs (setM w (zlv w.srcs.length inn wt out w.m k))++[vsx ⟨3,inn,out,nm,cells,amt⟩,.box ((fcC o).map .dat) (some 51)]) (fun k=>k<=out.length) (fun k=>out.length-k) 0 (Nat.zero_le _) ?_ ?_
 . refine hg ?_;exact sS
 intro k hk;refine hg ?_;refine y8g (fun hlt _=>?_) (fun hlt _=>?_)
 . have hk':k<out.length:=by omega
   have c3:=hmx k hk';have es:=wgf (n:=w.srcs.length) (inn:=inn) (wt:=wt) (o:=out) (m:=w.m) (k:=k);clear hmx c1 c2;generalize mixF (zlv w.srcs.length inn wt out w.m k) w.srcs.length inn (wt.getD k Fc.zero)=l at *;refine hg ?_;refine z5f 5 (fun ξ=>xbh.preN c3 (wzv s cs _) rfl rfl) rfl rfl ?_;refine hg ?_;refine hI ?_;refine ⟨k+1,by omega,by omega,?_⟩;rw [es];exact sS
 have ek:k=out.length:=by omega
 subst ek;clear hmx c1 c2;refine hg ?_;refine StH.cutN [0] 5 rfl ?_ ?_
 . refine hg ?_
   first | exact trivial | rfl
 exact sS
theorem ydz (l:List Fc) (h0:0<l.length) (hl:l.length<=1000000):xbh Γ prog 76 [] [.one (.dat (frsC l))] [.arr (frsC l) 0 (some 51)] (.one (.sl 0 4 0 l.length)):=by
 refine hEh [] func76 f76.eq_1 ?_;exact StH.refl
def midR (n:Nat) (sh:List (List Fc)) (k:Nat):List (List Fc):=(sh.take k).map (wsy n)++sh.drop k
theorem xoh (n:Nat) (h:k=sh.length):midR n sh k=sh.map (wsy n):=by
 subst h;unfold midR;rw [List.take_length,List.drop_length,List.append_nil]
theorem vsw (n:Nat) (h:k<sh.length):∃ A R:List (List Cell),A.length=k/\A.length+R.length+1=sh.length/\(midR n sh k).map (fun r=>[frsC r])=A++[frsC (sh.getD k default)]::R/\A++[frsC (wsy n (sh.getD k default))]::R=(midR n sh (k+1)).map fun r=>[frsC r]:=by
 refine ⟨((sh.take k).map (wsy n)).map (fun r=>[frsC r]),(sh.drop (k+1)).map (fun r=>[frsC r]),by simp;omega,by simp;omega,?_,?_⟩
 . unfold midR;rw [xc3 h,List.map_append];rfl
 . unfold midR;rw [vys h,List.map_append,List.map_append,List.map_append,List.append_assoc];rfl
theorem w5r (l:List Fc) (b:Nat) {η:List SB} {T:Option TypeId} (hb:gB η b=.arr (.sl 4 (l.map Fc.C)) 0 T):xf6 η (.sl b 4 0 l.length)=some (.sl 4 (l.map Fc.C),[b]):=by
 simp [xf6,hb,Cell.esz,Cell.cnt,subC]
theorem xbe (l:List Fc) (z:Fc):(List.range l.length).map (fun i=>Fc.add (l.getD i Fc.zero) z)=l.map fun x=>Fc.add x z:=by
 apply List.ext_getElem
 . simp
 . intro i h1 h2;simp only [List.length_map,List.length_range] at h1;rw [List.getElem_map,List.getElem_map,List.getElem_range,ldE h1]
theorem wxf (l:List Fc):l.map Fc.C=((List.range l.length).map fun i=>l.getD i Fc.zero).map Fc.C:=by
 congr 1
 apply List.ext_getElem
 . simp
 . intro i h1 h2;rw [List.getElem_map,List.getElem_range,ldE h1]
theorem xdn (s:Sht) (cs:List Sc) (w:Wk) (hn:w.srcs.length<=200) (hh:w.shares.length<=200) (hr:∀ l∈w.shares,0<l.length/\l.length<=1000/\∀ x∈l,x.sz<=100000):xbh Γ prog 37 (wkBs s cs w) [.one (.ptr 0 0)] (wkBs s cs ⟨w.m,w.srcs,w.outs,w.shares.map (wsy w.srcs.length)⟩) (.tup []):=by
 obtain ⟨z,hz0⟩:∃ z,z=Fc.of 0:=⟨_,rfl⟩;have c0:=zh7 (Γ:=Γ) hz0;have hz9:∃ _:Unit,z=Fc.of 0:=⟨(),hz0⟩;have hzs:=zyp;rw [<-hz0] at hzs;clear hz0;refine hEh [(11,[.join])] func37 f37.eq_1 ?_;refine wf5 [0,9,10] (fun k:Nat=>[(11,.one (.dat (cI k)))]) (fun k=>[wkB s cs 1 2 3 4 w.srcs.length w.outs.length w.shares.length,mF w.m,aSr w.srcs,aOt w.outs,.arr (.sl 1 ((midR w.srcs.length w.shares k).map fun r=>[frsC r])) 0 (some 33)]) (fun k=>k<=w.shares.length) (fun k=>w.shares.length-k) 0 (Nat.zero_le _) ?_ ?_
 . refine hg ?_;exact sS
 intro k hk;refine hg ?_;refine y8g (fun hlt _=>?_) (fun hlt _=>?_)
 . have hk':k<w.shares.length:=by omega
   obtain ⟨A,Rr,hA,hAl,e3,e4⟩:=vsw w.srcs.length hk';have g1:=z3h (R:=Rr) hA;have g2:=vcb (R:=Rr) hA
   have g3:∀ v,(A++v::Rr).length=w.shares.length:=fun v=>by rw [List.length_append,List.length_cons];omega
   obtain ⟨r1,r2,r3⟩:=hr _ (z1y hk')
   have el:wsy w.srcs.length (w.shares.getD k default)=(w.shares.getD k default++List.replicate (w.srcs.length-(w.shares.getD k default).length) (Fc.of 0)).map fun x=>Fc.add x (Fc.of 0):=rfl
   rw [el,<-hz9.elim fun _ h=>h] at e4;rw [e3];clear e3 hr el;generalize w.shares.getD k default=l at *;have c1:=ydz (Γ:=Γ) l r1 (by omega);refine hg3 @g1 @g2 @g3 ?_;refine v92 (xbh.at [] c1 (by decide) rfl rfl rfl) rfl ?_;refine hg ?_;clear c1;refine wf5 [0,2,9,10,11] (fun j:Nat=>[(3,.one (.sl 5 4 0 (l.length+j)))]) (fun j=>[wkB s cs 1 2 3 4 w.srcs.length w.outs.length w.shares.length,mF w.m,aSr w.srcs,aOt w.outs,.arr (.sl 1 (A++[frsC l]::Rr)) 0 (some 33),.arr (.sl 4 ((l++List.replicate j z).map Fc.C)) 0 (some 51)]) (fun j=>j<=w.srcs.length-l.length) (fun j=>w.srcs.length-l.length-j) 0 (Nat.zero_le _) ?_ ?_
   . refine hg ?_;simp only [List.replicate_zero,List.append_nil];exact sS
   intro j hj
   have hjl:(l++List.replicate j z).length=l.length+j:=by simp
   have hjs:l++List.replicate (j+1) z=(l++List.replicate j z)++[z]:=by rw [List.replicate_succ',List.append_assoc]
   refine hg ?_;refine y8g (fun hlt2 _=>?_) (fun hlt2 _=>?_)
   . refine hg ?_
     (with_reducible refine wdy c0 ?_)<;>refine hgS ?_
     refine ⟨j+1,by omega,by omega,?_⟩;refine StH.back [0,2,3,9,10,11] 5 6 6 rfl rfl rfl rfl rfl ?_ ?_
     . rw [xs6,xlw];refine hg ?_
       first | exact trivial | rfl
     rw [xs6,xlw];refine hg ?_;rw [hjs,show (List.map Fc.C (l++List.replicate j z)++[fcC z]).length=l.length+(j+1) by simp];exact StH.same svl (by simp only [List.map_append,List.map_cons,List.map_nil];rfl)
   have ej:j=w.srcs.length-l.length:=by omega
   subst ej
   have hz:∀ x∈l++List.replicate (w.srcs.length-l.length) z,x.sz<=100000:=fun x hx=>by
    rcases List.mem_append.1 hx with hx | hx
    . exact r3 x hx
    . rw [(List.mem_replicate.1 hx).2];omega
   have hlb:(l++List.replicate (w.srcs.length-l.length) z).length<=2000:=by rw [hjl];omega
   rw [<-hjl];clear hjs r3 hlt2 hj hjl;generalize l++List.replicate (w.srcs.length-l.length) z=l2 at *;refine hg ?_;refine wy2 ?_;refine hg ?_;refine wf5 [0,2,3,9,10,11,31,32] (fun i:Nat=>[(33,.one (.dat (cI i)))]) (fun i=>[wkB s cs 1 2 3 4 w.srcs.length w.outs.length w.shares.length,mF w.m,aSr w.srcs,aOt w.outs,.arr (.sl 1 (A++[frsC l]::Rr)) 0 (some 33),.arr (.sl 4 (xtg (fun i=>l2.getD i Fc.zero) (fun i=>Fc.add (l2.getD i Fc.zero) z) l2.length i)) 0 (some 51)]) (fun i=>i<=l2.length) (fun i=>l2.length-i) 0 (Nat.zero_le _) ?_ ?_
   . refine hg ?_;rw [wxf,yqo (fun i=>l2.getD i Fc.zero) (fun i=>Fc.add (l2.getD i Fc.zero) z)];exact sS
   intro i hi;refine hg ?_;refine y8g (fun hlt3 _=>?_) (fun hlt3 _=>?_)
   . have hi':i<l2.length:=by omega
     obtain ⟨B,Rb,hB,hBl,e5,e6⟩:=y1l (fun i=>l2.getD i Fc.zero) (fun i=>Fc.add (l2.getD i Fc.zero) z) hi';have q1:=z3h (R:=Rb) hB;have q2:=vcb (R:=Rb) hB
     have q3:∀ v,(B++v::Rb).length=l2.length:=fun v=>by rw [List.length_append,List.length_cons];omega
     have z1:=hz _ (ldM (d:=Fc.zero) hi');obtain ⟨ee,c2⟩:=fAdd (Γ:=Γ) (l2.getD i Fc.zero) z (by omega) (by omega);rw [e5];clear e5 e4 hz g1 g2 g3;refine hg3 @q1 @q2 @q3 ?_
     repeat' first|refine hI ?_|(with_reducible first|refine y04 c0 ?_|refine y04 c2 ?_)<;>refine hgS ?_
     refine ⟨i+1,by omega,by omega,?_⟩;refine hg1 @q2 ?_;rw [<-e6];exact sS
   have ei:i=l2.length:=by omega
   subst ei;rw [x45 _ _ rfl,xbe];rw [show l2.length=(l2.map fun x=>Fc.add x z).length by rw [List.length_map]];generalize l2.map (fun x=>Fc.add x z)=l3 at *;clear hz c0;refine hg ?_;refine hfrz (G:=[]) 3 rfl (w5r l3 _ rfl) rfl rfl ?_;refine hg3 @g1 @g2 @g3 ?_;refine ⟨k+1,by omega,by omega,?_⟩;refine StH.cutN [0,9,10,11] 5 rfl ?_ ?_
   . refine hg ?_
     first | exact trivial | rfl
   refine hg1 @g2 ?_;rw [<-e4];exact sS
 rw [xoh _ (by omega)];clear hr c0;refine hg ?_;exact StH.same svl (by simp only [wkBs,wkB,List.length_map])
theorem vwx (v:Sc) (h:v.sz<=67108864):CallsD Γ prog 32 [.agg v.C] (.one (cB (!decide v.ok))):=by
 have c:=toD (Γ:=Γ) (wrr v h);simp only [Sc.C_eq] at c;generalize decide v.ok=b at *;refine hE [] func32 f32.eq_1 ?_
 (with_reducible refine wdy c ?_)<;>refine hgS ?_
 exact RLe.ofEq rfl
abbrev frR (r:Fr):AV:=.tup [.agg (flC r.1),.one (cI r.2.1),.one (cI r.2.2)]
theorem wde (a b:Int):RLe (.tup [.agg [.zc,.zc,.zc],.one (cI a),.one (cI b)]) (frR (⟨[],[],[]⟩,a,b)):=.tup (.cons (.agg (.cons (.zcSl _) (.cons (.zcSl _) (.cons (.zcSl _) .nil)))) (.cons (.refl _) (.cons (.refl _) .nil)))
structure wjm (s:Sht) (cs:List Sc) (l:List Stp):Prop where
 len:l.length<=100
 k:∀ n,n<l.length->0<=(l.getD n default).kind/\(l.getD n default).kind<=8
 st:∀ n,n<l.length->(∀ j,j<n->errW s cs (l.getD j default)=0)->v3d s cs (ytm s cs l nilW n) (l.getD n default)
 fl:(∀ j,j<l.length->errW s cs (l.getD j default)=0)->∀ r∈(ytm s cs l nilW l.length).shares,0<r.length/\r.length<=1000/\∀ x∈r,x.sz<=100000
theorem xkh (s:Sht) (cs:List Sc) (w:Wk) (x:Stp):(vlo s cs w x).srcs.length<=w.srcs.length+1/\(vlo s cs w x).outs.length<=w.outs.length+1/\(vlo s cs w x).shares.length<=w.shares.length+1:=by
 unfold vlo srcW outW setM
 cases decide (x.kind=0)<;>cases decide (x.kind=1)<;>cases decide (x.kind=2)<;>cases decide (x.kind=3)<;>cases decide (x.kind=4)<;>cases decide (x.kind=5)<;>cases decide (x.kind=6)<;>cases decide (x.kind=7)<;>cases decide (x.kind=8)<;>simp
theorem x6p (s:Sht) (cs:List Sc) (l:List Stp):∀ n,(ytm s cs l nilW n).srcs.length<=n/\(ytm s cs l nilW n).outs.length<=n/\(ytm s cs l nilW n).shares.length<=n
 | 0=>⟨Nat.le_refl _,Nat.le_refl _,Nat.le_refl _⟩
 | n+1=>by
  have h1:=x6p s cs l n;have h2:=xkh s cs (ytm s cs l nilW n) (l.getD n default);rw [ytm];omega
theorem w2n {s:Sht} {cs:List Sc} {l:List Stp}:∀{n:Nat},n<=l.length->(∀ j,j<n->errW s cs (l.getD j default)=0)->zwk s cs l 0=zwk s cs (l.drop n) n
 | 0,_,_=>by rw [List.drop_zero]
 | n+1,hn,h=>by
  rw [w2n (n:=n) (by omega) (fun j hj=>h j (by omega)),xc3 (by omega),zwk,h n (by omega),decide_eq_true rfl,cond_true]
theorem y1o {s:Sht} {n:Nat} (hn:n<l.length) (h:∀ j,j<n->errW s cs (l.getD j default)=0) (he:¬errW s cs (l.getD n default)=0):zwk s cs l 0=some (errW s cs (l.getD n default),n):=by
 rw [w2n (n:=n) (by omega) h,xc3 hn,zwk,decide_eq_false he,cond_false]
theorem vvp {s:Sht} (h:∀ j,j<l.length->errW s cs (l.getD j default)=0):zwk s cs l 0=none:=by
 rw [w2n (Nat.le_refl _) h,List.drop_length,zwk]
theorem xq9 (s:Sht) (r:Int) (cs:List Sc) (hs:s.Sm) (hcl:cs.length<=1048576) (hcz:∀ v∈cs,v.sz<=100000) (h:badA s r cs=true):CallsD Γ prog 10 [.agg (shtC s),.one (cI r),.one (.sl 8 (cs.map Sc.C))] (frR (ww1 s r cs)):=by
 have hR:=zjd (Γ:=Γ) s hs;have c2:=toD (Γ:=Γ) (vpe 32 (fun v=>!decide v.ok) cs (by omega) (fun i hi=>vwx _ (by have:=hcz _ (ldM (d:=Sc.zero) hi);omega)));have hrl:=hs.rl;have hcll:=hs.cl
 have e:ww1 s r cs=(⟨[],[],[]⟩,1,0):=by unfold ww1;rw [h,cond_true]
 rw [e];have hb:badA s r cs=(!vtb s||(decide (r<0)||(decide ((s.recipes.length:Int)<=r)||(!decide (cs.length=s.cells.length)||cs.any fun v=>!decide v.ok)))):=rfl;rw [h] at hb
 replace hb:∃ _:Unit,true=(!vtb s||(decide (r<0)||(decide ((s.recipes.length:Int)<=r)||(!decide (cs.length=s.cells.length)||cs.any fun v=>!decide v.ok)))):=⟨(),hb⟩
 clear hs h hcz e;generalize vtb s=b at *;generalize (cs.any fun v=>!decide v.ok)=b2 at *;refine hE [] func10 f10.eq_1 ?_
 repeat' first|refine hF ?_ ?_<;>intros|(with_reducible first|refine wdy hR ?_|refine wdy c2 ?_)<;>refine hgS ?_
 all_goals first
  | exact wde _ _
  | (exfalso
     obtain ⟨_,hb⟩:=hb;rw [show b=true by assumption,show b2=false by assumption,decide_eq_false (show ¬r<0 by omega),decide_eq_false (show ¬(s.recipes.length:Int)<=r by omega),decide_eq_true (show cs.length=s.cells.length by omega)] at hb
     cases hb)
theorem vve (s:Sht) (r:Int) (cs:List Sc) (hs:s.Sm) (hcl:cs.length<=1048576) (hcz:∀ v∈cs,v.sz<=100000) (h:badA s r cs=false) (hk:¬(vt5 s r).1=0):CallsD Γ prog 10 [.agg (shtC s),.one (cI r),.one (.sl 8 (cs.map Sc.C))] (frR (ww1 s r cs)):=by
 have hR:=zjd (Γ:=Γ) s hs;have c2:=toD (Γ:=Γ) (vpe 32 (fun v=>!decide v.ok) cs (by omega) (fun i hi=>vwx _ (by have:=hcz _ (ldM (d:=Sc.zero) hi);omega)));have c3:=vwp (Γ:=Γ) s r hs;have hrl:=hs.rl;have hcll:=hs.cl
 have e:ww1 s r cs=(⟨[],[],[]⟩,(vt5 s r).1,(vt5 s r).2.1):=by unfold ww1;rw [h,cond_false,decide_eq_false hk];rfl
 rw [e];simp only [badA,Bool.or_eq_false_iff,Bool.not_eq_false',decide_eq_false_iff_not,decide_eq_true_eq] at h;obtain ⟨h1,h2,h3,h4,h5⟩:=h;rw [h1] at hR;rw [h5] at c2;generalize vt5 s r=k at *;obtain ⟨k1,k2,k3⟩:=k;dsimp only at *;clear hs h1 h5 hcz e;refine hE [] func10 f10.eq_1 ?_
 repeat' first|refine hF ?_ ?_<;>intros|(with_reducible first|refine wdy hR ?_|refine wdy c2 ?_|refine wdy c3 ?_)<;>refine hgS ?_
 all_goals first
  | exact wde _ _
  | (exfalso;omega)
abbrev fwBs (s:Sht) (cs:List Sc) (w:Wk):List SB:=[.box ((shtC s).map .dat) (some 31),.box [.dat .zc,.dat .zc,.dat .zc] (some 41),mF w.m,wkB s cs 2 4 5 6 w.srcs.length w.outs.length w.shares.length,aSr w.srcs,aOt w.outs,aSh w.shares]
inductive StpC (Γ:List (Nat×List Cell)) (s:Sht) (cs:List Sc) (w w2:Wk) (x:Stp):Prop
 | src (h:xbh Γ prog 36 (wkBs s cs w) [.one (.ptr 0 0),.agg ((stpC x).map .dat)] (wkS s cs w2) (.tup []))
 | mix (h:xbh Γ prog 36 (wkBs s cs w) [.one (.ptr 0 0),.agg ((stpC x).map .dat)] (wkBs s cs w2) (.tup []))
 | out (h:xbh Γ prog 36 (wkBs s cs w) [.one (.ptr 0 0),.agg ((stpC x).map .dat)] (wkO s cs w2) (.tup []))
theorem ysv (s:Sht) (cs:List Sc) (w:Wk) (x:Stp) (hx:v3d s cs w x) (h0:0<=x.kind/\x.kind<=8) (he:errW s cs x=0):StpC Γ s cs w (vlo s cs w x) x:=by
 have hk:x.kind=0\/x.kind=1\/x.kind=2\/x.kind=3\/x.kind=4\/x.kind=5\/x.kind=6\/x.kind=7\/x.kind=8:=by omega
 rcases hk with hk | hk | hk | hk | hk | hk | hk | hk | hk
 . exact .src (zfq s cs w x hx hk)
 . exact .src (xyb s cs w x hx hk)
 . exact .src (w6j s cs w x hx hk)
 . exact .mix (wq1 s cs w x hx hk (by rw [<-he];unfold errW;rw [hk];rfl))
 . exact .mix (x9l s cs w x hx hk)
 . exact .out (x00 s cs w x hx hk)
 . exact .out (xyc s cs w x hx hk)
 . exact .out (xpz s cs w x hx hk)
 . exact .out (y11 s cs w x hx hk)
theorem xxj (s:Sht) (r:Int) (cs:List Sc) (hs:s.Sm) (hcl:cs.length<=1048576) (hcz:∀ v∈cs,v.sz<=100000) (h:badA s r cs=false) (hk:(vt5 s r).1=0) (hw:wjm s cs (s.recipes.getD r.toNat default).steps):CallsD Γ prog 10 [.agg (shtC s),.one (cI r),.one (.sl 8 (cs.map Sc.C))] (frR (ww1 s r cs)):=by
 have hR:=zjd (Γ:=Γ) s hs;have c2:=toD (Γ:=Γ) (vpe 32 (fun v=>!decide v.ok) cs (by omega) (fun i hi=>vwx _ (by have:=hcz _ (ldM (d:=Sc.zero) hi);omega)));have c3:=vwp (Γ:=Γ) s r hs;have hrl:=hs.rl;have hcll:=hs.cl
 have e:ww1 s r cs=match zwk s cs (s.recipes.getD r.toNat default).steps 0 with
  | some e=>(⟨[],[],[]⟩,e.1,e.2)
  | none=>(xjd (ytm s cs (s.recipes.getD r.toNat default).steps nilW (s.recipes.getD r.toNat default).steps.length),0,0):=by unfold ww1;rw [h,cond_false,decide_eq_true hk];rfl
 simp only [badA,Bool.or_eq_false_iff,Bool.not_eq_false',decide_eq_false_iff_not,decide_eq_true_eq] at h;obtain ⟨h1,h2,h3,h4,h5⟩:=h;rw [h1] at hR;rw [h5] at c2;rw [hk] at c3;generalize (vt5 s r).2.1=k2 at *;generalize ww1 s r cs=R at *;clear hs h1 h5 hcz hk
 have hcf:=fun w (hn:w.srcs.length<=200) hh hr=>xdn (Γ:=Γ) s cs w hn hh hr
 obtain ⟨L,hL⟩:∃ L,(s.recipes.getD r.toNat default).steps=L:=⟨_,rfl⟩;rw [hL] at hw e
 replace e:∃ _:Unit,R=match zwk s cs L 0 with
  | some e=>(⟨[],[],[]⟩,e.1,e.2)
  | none=>(xjd (ytm s cs L nilW L.length),0,0):=⟨(),e⟩
 have hLl:=hw.len;refine hE [] func10 f10.eq_1 ?_
 repeat' ((with_reducible first|refine wdy hR ?_|refine wdy c2 ?_|refine wdy c3 ?_)<;>refine hgS ?_)
 all_goals try (exfalso;omega)
 clear hR c2 c3
 try simp only [hL]
 refine wf5 [6,12,66,67] (fun i:Nat=>[(68,.one (.dat (cI i)))]) (fun i=>fwBs s cs (ytm s cs L nilW i)) (fun i=>i<=L.length/\∀ j,j<i->errW s cs (L.getD j default)=0) (fun i=>L.length-i) 0 ⟨Nat.zero_le _,fun j hj=>by omega⟩ ?_ ?_
 . refine hg ?_;refine StH.trans (StH.vhe 3 11 (es:=3) (c:=.sl 3 []) (T:=some 60) rfl rfl rfl (fun r hr=>by cases hr) rfl) ?_;refine StH.trans (StH.vhe 3 12 (es:=4) (c:=.sl 4 []) (T:=some 62) rfl rfl rfl (fun r hr=>by cases hr) rfl) ?_;refine StH.trans (StH.vhe 3 13 (es:=1) (c:=.sl 1 []) (T:=some 33) rfl rfl rfl (fun r hr=>by cases hr) rfl) ?_;refine hg ?_;exact sS
 rintro i ⟨hi,hj⟩;refine hg ?_;refine y8g (fun hlt _=>?_) (fun hlt _=>?_)
 . have hlt':i<L.length:=by omega
   have hst:=hw.st i hlt' hj;have hkk:=hw.k i hlt';by_cases he:errW s cs (L.getD i default)=0
   . have c5:=ysv (Γ:=Γ) s cs (ytm s cs L nilW i) (L.getD i default) hst hkk he;have hnx:∀ j,j<i+1->errW s cs (L.getD j default)=0:=yas hj he;obtain ⟨w2,hw2⟩:∃ w2,ytm s cs L nilW (i+1)=w2:=⟨_,rfl⟩;rw [show vlo s cs (ytm s cs L nilW i) (L.getD i default)=w2 from hw2] at c5
     replace hw2:True->ytm s cs L nilW (i+1)=w2:=fun _=>hw2
     have hwt:(L.getD i default).kind=3->wtE s cs (L.getD i default).cells=0/\WtOk s cs (L.getD i default).cells:=fun h33=>⟨by rw [<-he];unfold errW;rw [h33];rfl,(hst.spl h33).1⟩
     clear e hw hst he hcf;generalize ytm s cs L nilW i=w at *;refine hg ?_;generalize L.getD i default=x at *;by_cases h33:x.kind=3
     . obtain ⟨hwe,hwo⟩:=hwt h33;have c4:=v0s (Γ:=Γ) s cs w hcll x hwo;rw [show wtR s cs x.cells=.tup [.one (.dat (frsC (wtL s cs x.cells))),.one (.dat (cI 0))] by unfold wtR;rw [hwe];rfl] at c4;clear hwt hwe hwo hkk;obtain ⟨kk,inn,out,nm,cells,amt⟩:=x;dsimp only at *;subst h33;generalize wtL s cs cells=wt at *
       refine hF ?_ ?_<;>intros
       all_goals try (exfalso;omega)
       refine yp5 [3,2,4,5,6] [.box ((shtC s).map .dat) (some 31),.box [.dat .zc,.dat .zc,.dat .zc] (some 41),mF w.m,wkB s cs 2 4 5 6 w.srcs.length w.outs.length w.shares.length,aSr w.srcs,aOt w.outs,aSh w.shares,vsx ⟨3,inn,out,nm,cells,amt⟩] c4 rfl (by decide) rfl (by show [_,_,_,_,_]=[_,some (rnSB _ (mF _)),_,_,_];rw [vnt];rfl) rfl (by show [_,_,rnSB _ (mF _),_,_,_,_,_]=_;rw [vnt];rfl) ?_;refine hg ?_;clear c4
       rcases c5 with h | h | h
       . refine yp5 [3,2,4,5,6] [.box ((shtC s).map .dat) (some 31),.box [.dat .zc,.dat .zc,.dat .zc] (some 41),mF w2.m,wkB s cs 2 8 5 6 w2.srcs.length w2.outs.length w2.shares.length,.dead,aOt w2.outs,aSh w2.shares,vsx ⟨3,inn,out,nm,cells,amt⟩,aSr w2.srcs] h rfl (by decide) rfl (by show [_,_,_,_,_]=[_,some (rnSB _ (mF _)),_,_,_];rw [vnt];rfl) rfl (by show [_,_,rnSB _ (mF _),_,_,_,_,_,_]=_;rw [vnt];rfl) ?_;refine hg ?_;refine ⟨i+1,⟨by omega,hnx⟩,by omega,?_⟩;refine StH.back [6,12,66,67,68] 4 8 7 rfl rfl rfl rfl rfl ?_ ?_
         . rw [vq0,xlw];refine hg ?_
           first | exact trivial | rfl
         rw [vq0,xlw];refine hg ?_;rw [hw2 trivial];exact sS
       . refine yp5 [3,2,4,5,6] [.box ((shtC s).map .dat) (some 31),.box [.dat .zc,.dat .zc,.dat .zc] (some 41),mF w2.m,wkB s cs 2 4 5 6 w2.srcs.length w2.outs.length w2.shares.length,aSr w2.srcs,aOt w2.outs,aSh w2.shares,vsx ⟨3,inn,out,nm,cells,amt⟩] h rfl (by decide) rfl (by show [_,_,_,_,_]=[_,some (rnSB _ (mF _)),_,_,_];rw [vnt];rfl) rfl (by show [_,_,rnSB _ (mF _),_,_,_,_,_]=_;rw [vnt];rfl) ?_;refine hg ?_;refine ⟨i+1,⟨by omega,hnx⟩,by omega,?_⟩;refine StH.cutN [6,12,66,67,68] 7 rfl ?_ ?_
         . refine hg ?_
           first | exact trivial | rfl
         refine hg ?_;rw [hw2 trivial];exact sS
       . refine yp5 [3,2,4,5,6] [.box ((shtC s).map .dat) (some 31),.box [.dat .zc,.dat .zc,.dat .zc] (some 41),mF w2.m,wkB s cs 2 4 8 9 w2.srcs.length w2.outs.length w2.shares.length,aSr w2.srcs,.dead,.dead,vsx ⟨3,inn,out,nm,cells,amt⟩,aOt w2.outs,aSh w2.shares] h rfl (by decide) rfl (by show [_,_,_,_,_]=[_,some (rnSB _ (mF _)),_,_,_];rw [vnt];rfl) rfl (by show [_,_,rnSB _ (mF _),_,_,_,_,_,_,_]=_;rw [vnt];rfl) ?_;refine hg ?_;refine ⟨i+1,⟨by omega,hnx⟩,by omega,?_⟩;refine StH.back [6,12,66,67,68] 5 8 10 rfl rfl rfl rfl rfl ?_ ?_
         . rw [wxr,xlw];refine hg ?_
           first | exact trivial | rfl
         rw [wxr,xlw];refine hg ?_;refine StH.back [6,12,66,67,68] 6 9 7 rfl rfl rfl rfl rfl ?_ ?_
         . rw [yng,xlw];refine hg ?_
           first | exact trivial | rfl
         rw [yng,xlw];refine hg ?_;rw [hw2 trivial];exact sS
     . clear hwt
       refine hF ?_ ?_<;>intros
       all_goals try (exfalso;omega)
       rcases c5 with h | h | h
       . refine yp5 [3,2,4,5,6] [.box ((shtC s).map .dat) (some 31),.box [.dat .zc,.dat .zc,.dat .zc] (some 41),mF w2.m,wkB s cs 2 8 5 6 w2.srcs.length w2.outs.length w2.shares.length,.dead,aOt w2.outs,aSh w2.shares,vsx x,aSr w2.srcs] h rfl (by decide) rfl (by show [_,_,_,_,_]=[_,some (rnSB _ (mF _)),_,_,_];rw [vnt];rfl) rfl (by show [_,_,rnSB _ (mF _),_,_,_,_,_,_]=_;rw [vnt];rfl) ?_;refine hg ?_;refine ⟨i+1,⟨by omega,hnx⟩,by omega,?_⟩;refine StH.back [6,12,66,67,68] 4 8 7 rfl rfl rfl rfl rfl ?_ ?_
         . rw [vq0,xlw];refine hg ?_
           first | exact trivial | rfl
         rw [vq0,xlw];refine hg ?_;rw [hw2 trivial];exact sS
       . refine yp5 [3,2,4,5,6] [.box ((shtC s).map .dat) (some 31),.box [.dat .zc,.dat .zc,.dat .zc] (some 41),mF w2.m,wkB s cs 2 4 5 6 w2.srcs.length w2.outs.length w2.shares.length,aSr w2.srcs,aOt w2.outs,aSh w2.shares,vsx x] h rfl (by decide) rfl (by show [_,_,_,_,_]=[_,some (rnSB _ (mF _)),_,_,_];rw [vnt];rfl) rfl (by show [_,_,rnSB _ (mF _),_,_,_,_,_]=_;rw [vnt];rfl) ?_;refine hg ?_;refine ⟨i+1,⟨by omega,hnx⟩,by omega,?_⟩;refine StH.cutN [6,12,66,67,68] 7 rfl ?_ ?_
         . refine hg ?_
           first | exact trivial | rfl
         refine hg ?_;rw [hw2 trivial];exact sS
       . refine yp5 [3,2,4,5,6] [.box ((shtC s).map .dat) (some 31),.box [.dat .zc,.dat .zc,.dat .zc] (some 41),mF w2.m,wkB s cs 2 4 8 9 w2.srcs.length w2.outs.length w2.shares.length,aSr w2.srcs,.dead,.dead,vsx x,aOt w2.outs,aSh w2.shares] h rfl (by decide) rfl (by show [_,_,_,_,_]=[_,some (rnSB _ (mF _)),_,_,_];rw [vnt];rfl) rfl (by show [_,_,rnSB _ (mF _),_,_,_,_,_,_,_]=_;rw [vnt];rfl) ?_;refine hg ?_;refine ⟨i+1,⟨by omega,hnx⟩,by omega,?_⟩;refine StH.back [6,12,66,67,68] 5 8 10 rfl rfl rfl rfl rfl ?_ ?_
         . rw [wxr,xlw];refine hg ?_
           first | exact trivial | rfl
         rw [wxr,xlw];refine hg ?_;refine StH.back [6,12,66,67,68] 6 9 7 rfl rfl rfl rfl rfl ?_ ?_
         . rw [yng,xlw];refine hg ?_
           first | exact trivial | rfl
         rw [yng,xlw];refine hg ?_;rw [hw2 trivial];exact sS
   . have h33:(L.getD i default).kind=3:=Classical.byContradiction fun h=>he (by unfold errW;rw [decide_eq_false h];rfl)
     have eR:=y1o hlt' hj he
     have ew:errW s cs (L.getD i default)=wtE s cs (L.getD i default).cells:=by unfold errW;rw [h33];rfl
     obtain ⟨_,e⟩:=e;rw [eR] at e;dsimp only at e;rw [ew] at e he;have c4:=v0s (Γ:=Γ) s cs (ytm s cs L nilW i) hcll (L.getD i default) (hst.spl h33).1;rw [show wtR s cs (L.getD i default).cells=.tup [.one (.dat (.raw (.slice none 0 0))),.one (.dat (cI (wtE s cs (L.getD i default).cells)))] by unfold wtR;rw [decide_eq_false he];rfl] at c4;rw [e];clear e hw hst hcf hkk eR ew hj;generalize ytm s cs L nilW i=w at *;refine hg ?_;generalize L.getD i default=x at *;obtain ⟨kk,inn,out,nm,cells,amt⟩:=x;dsimp only at *;subst h33;generalize wtE s cs cells=er at *
     refine hF ?_ ?_<;>intros
     refine yp5 [3,2,4,5,6] [.box ((shtC s).map .dat) (some 31),.box [.dat .zc,.dat .zc,.dat .zc] (some 41),mF w.m,wkB s cs 2 4 5 6 w.srcs.length w.outs.length w.shares.length,aSr w.srcs,aOt w.outs,aSh w.shares,vsx ⟨3,inn,out,nm,cells,amt⟩] c4 rfl (by decide) rfl (by show [_,_,_,_,_]=[_,some (rnSB _ (mF _)),_,_,_];rw [vnt];rfl) rfl (by show [_,_,rnSB _ (mF _),_,_,_,_,_]=_;rw [vnt];rfl) ?_;refine hg ?_
     refine hF ?_ ?_<;>intros
     all_goals try (exfalso;omega)
     all_goals exact wde _ _
 have ei:i=L.length:=by omega
 subst ei;obtain ⟨_,e⟩:=e;rw [vvp hj] at e;dsimp only at e;rw [e];have hln:=x6p s cs L L.length;have c6:=hcf (ytm s cs L nilW L.length) (by omega) (by omega) (hw.fl hj);clear e hw hcf hj;unfold xjd;generalize ytm s cs L nilW L.length=w at *;refine hg ?_;refine yp5 [3,2,4,5,6] [.box ((shtC s).map .dat) (some 31),.box [.dat .zc,.dat .zc,.dat .zc] (some 41),mF w.m,wkB s cs 2 4 5 6 w.srcs.length w.outs.length (w.shares.map (wsy w.srcs.length)).length,aSr w.srcs,aOt w.outs,aSh (w.shares.map (wsy w.srcs.length))] c6 rfl (by decide) rfl (by show [_,_,_,_,_]=[_,some (rnSB _ (mF _)),_,_,_];rw [vnt];rfl) rfl (by show [_,_,rnSB _ (mF _),_,_,_,_]=_;rw [vnt];rfl) ?_;refine hg ?_;exact RLe.ofEq rfl
end Go.Hp.T
namespace Go.Hp.T
open Go Go.RowKit Go.Slot Go.Hp Go.Slot.T
set_option maxRecDepth 10000
def szB (s:ByteArray):Bool:=decide (s.size<=1073741824)
def lnB {α:Type} (l:List α):Bool:=decide (l.length<=1073741824)
def exB (x:Ex):Bool:=x.args.isEmpty&&(szB x.unit&&szB x.name)
theorem w3x {x:Ex} (h:exB x=true):x.Sm:=by
 simp only [exB,szB,Bool.and_eq_true,decide_eq_true_eq,List.isEmpty_iff] at h;exact .mk x (by rw [h.1];decide) h.2.1 h.2.2 (fun y hy=>by rw [h.1] at hy;cases hy)
def stpB (x:Stp):Bool:=lnB x.inn&&(lnB x.out&&(lnB x.cells&&(x.inn.all szB&&(x.out.all szB&&(x.cells.all szB&&szB x.name)))))
theorem xfn {x:Stp} (h:stpB x=true):x.Sm:=by
 simp only [stpB,szB,lnB,Bool.and_eq_true,decide_eq_true_eq,List.all_eq_true] at h;exact ⟨h.1,h.2.1,h.2.2.1,h.2.2.2.1,h.2.2.2.2.1,h.2.2.2.2.2.1,h.2.2.2.2.2.2⟩
def shtB (s:Sht):Bool:=szB s.name&&(lnB s.imports&&(lnB s.inputs&&(s.tables.isEmpty&&(s.funcs.isEmpty&&(lnB s.cells&&(lnB s.ports&&(lnB s.stores&&(lnB s.recipes&&
 (s.imports.all (fun x=>szB x.name&&(szB x.unit&&szB x.port))&&(s.inputs.all (fun x=>szB x.name&&(szB x.unit&&szB x.kind))&&(s.cells.all (fun x=>szB x.name&&(szB x.unit&&exB x.x))&&
 (s.ports.all (fun x=>szB x.name&&szB x.unit)&&(s.stores.all (fun x=>szB x.name&&szB x.unit)&&s.recipes.all (fun x=>szB x.kind&&(lnB x.steps&&x.steps.all stpB)))))))))))))))
theorem znv {s:Sht} (h:shtB s=true):s.Sm:=by
 simp only [shtB,szB,lnB,Bool.and_eq_true,decide_eq_true_eq,List.all_eq_true,List.isEmpty_iff] at h;obtain ⟨h1,h2,h3,h4,h5,h6,h7,h8,h9,i,n,c,p,o,r⟩:=h;exact ⟨h1,h2,h3,by rw [h4];decide,by rw [h5];decide,h6,h7,h8,h9,i,n,fun x hx=>(by rw [h4] at hx;cases hx),fun x hx=>(by rw [h5] at hx;cases hx),fun x hx=>⟨(c x hx).1,(c x hx).2.1,w3x (c x hx).2.2⟩,p,o,fun x hx=>⟨(r x hx).1,(r x hx).2.1,fun y hy=>xfn ((r x hx).2.2 y hy)⟩⟩
end Go.Hp.T
