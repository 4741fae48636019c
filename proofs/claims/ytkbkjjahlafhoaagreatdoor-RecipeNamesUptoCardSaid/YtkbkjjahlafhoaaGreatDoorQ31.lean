/- The proof, part Q31: 3g, 3h, 3i. -/
import Derived.Test.YtkbkjjahlafhoaaGreatDoorQ17
import Derived.Test.YtkbkjjahlafhoaaGreatDoorQ30
namespace Go.Hp
open Go Go.RowKit Go.Slot
theorem xnc (r:Nat->Nat) (cs:List Cell) (T:Option TypeId):rnSB r (.box (cs.map .dat) T)=.box (cs.map .dat) T:=by
 show SB.box ((cs.map HC.dat).map (rnHC r)) T=_;rw [List.map_map];rfl
end Go.Hp
namespace Go.Hp.T
open Go Go.RowKit Go.Slot Go.Hp Go.Slot.T
open Go.Proofs.Tryz
attribute [local irreducible] hide RH
set_option maxRecDepth 10000
set_option maxHeartbeats 8000000
variable {Γ:List (Nat×List Cell)}
abbrev cloB (cs:List Cell) (T:Option TypeId) (f:FuncId):List SB:=[.box (cs.map .dat) T,.clo f [.one (.ptr 0 0)]]
theorem wt7 {cs:List Cell} {T:Option TypeId} {f:FuncId} {a:List HC} {res:Cell} (ha:∀ r,a.map (rnHC r)=a) (h:xbh Γ prog f [.box (cs.map .dat) T] [.agg a,.one (.ptr 0 0)] [.box (cs.map .dat) T] (.one (.dat res))) :
 xbh Γ prog f (cloB cs T f) [.agg a,.one (.ptr 0 0)] (cloB cs T f) (.one (.dat res)):=
 xbh.preN (ξ:=[.clo f [.one (.ptr 0 0)]]) h (fun r hr=>by
  show [rnSB r (.box (cs.map .dat) T)]=_
  rw [xnc]) (by
  show [SV.agg (a.map (rnHC _)),SV.one (.ptr (atR (List.range 1) 2 0) 0)]=_
  rw [ha];rfl) rfl
theorem w4j (cs:List Cell) (T0:Option TypeId) (g:FuncId) (l:List Cel) (p:Cel->Bool) (hl:l.length<=1073741824) (h:∀ y∈l,xbh Γ prog g (cloB cs T0 g) [.agg ((celC y).map .dat),.one (.ptr 0 0)] (cloB cs T0 g) (.one (.dat (cB (p y))))) :
 xbh Γ prog 65 (cloB cs T0 g) [.one (.dat (.sl 7 (l.map Cel.C))),.one (.fnr 1)] (cloB cs T0 g) (.one (.dat (cI (idxF p l)))):=by
 refine hEh [] func65 f65.eq_1 ?_;refine wf5 [0,1,7] (fun i:Nat=>[(8,.one (.dat (cI i)))]) (fun _=>cloB cs T0 g) (fun i=>i<=l.length/\∀ j,j<i->p (l.getD j default)=false) (fun i=>l.length-i) 0 ⟨Nat.zero_le _,fun j hj=>by omega⟩ ?_ ?_
 . refine hg ?_;exact sS
 intro i hi;obtain ⟨hi,hj⟩:=hi;refine hg ?_;refine y8g (fun hlt _=>?_) (fun hlt _=>?_)
 . have hlt':i<l.length:=by omega
   have hb:=h _ (z1y hlt');refine hg ?_;refine zue hb ?_;generalize hp:p (l.getD i default)=q at *;clear hb;refine hg ?_
   refine hF ?_ ?_<;>intros
   . rename_i hq;rw [(wu8 hi hj).2 hlt' (by rw [hp];exact hq)];exact sS
   . rename_i hq;exact ⟨i+1,⟨by omega,yas hj (by rw [hp];simpa using hq)⟩,by omega,sS⟩
 . rw [(wu8 hi hj).1 (by omega)];refine hg ?_;exact sS
theorem zbf (y:Cel) (n:ByteArray) (T:Option TypeId):xbh Γ prog 66 [.box [.dat (cS n)] T] [.agg ((celC y).map .dat),.one (.ptr 0 0)] [.box [.dat (cS n)] T] (.one (.dat (cB (seq y.name n)))):=by
 refine hEh [] func66 f66.eq_1 ?_;exact StH.done 1 rfl (by kernel_rfl) rfl rfl
theorem zi6 (l:List Cel) (n:ByteArray) (hl:l.length<=1073741824):xbh Γ prog 65 (cloB [cS n] (some 9) 66) [.one (.dat (.sl 7 (l.map Cel.C))),.one (.fnr 1)] (cloB [cS n] (some 9) 66) (.one (.dat (cI (idxF (fun y=>seq y.name n) l)))):=
 w4j [cS n] (some 9) _ l (fun y=>seq y.name n) hl (fun y _=>wt7 (fun r=>by rw [List.map_map];rfl) (zbf y n _))
theorem yp6 (cs:List Cell) (T0:Option TypeId) (g:FuncId) (l:List Inp) (p:Inp->Bool) (hl:l.length<=1073741824) (h:∀ y∈l,xbh Γ prog g (cloB cs T0 g) [.agg ((inpC y).map .dat),.one (.ptr 0 0)] (cloB cs T0 g) (.one (.dat (cB (p y))))) :
 xbh Γ prog 119 (cloB cs T0 g) [.one (.dat (.sl 3 (l.map Inp.C))),.one (.fnr 1)] (cloB cs T0 g) (.one (.dat (cI (idxF p l)))):=by
 refine hEh [] func119 f119.eq_1 ?_;refine wf5 [0,1,7] (fun i:Nat=>[(8,.one (.dat (cI i)))]) (fun _=>cloB cs T0 g) (fun i=>i<=l.length/\∀ j,j<i->p (l.getD j default)=false) (fun i=>l.length-i) 0 ⟨Nat.zero_le _,fun j hj=>by omega⟩ ?_ ?_
 . refine hg ?_;exact sS
 intro i hi;obtain ⟨hi,hj⟩:=hi;refine hg ?_;refine y8g (fun hlt _=>?_) (fun hlt _=>?_)
 . have hlt':i<l.length:=by omega
   have hb:=h _ (z1y hlt');refine hg ?_;refine zue hb ?_;generalize hp:p (l.getD i default)=q at *;clear hb;refine hg ?_
   refine hF ?_ ?_<;>intros
   . rename_i hq;rw [(wu8 hi hj).2 hlt' (by rw [hp];exact hq)];exact sS
   . rename_i hq;exact ⟨i+1,⟨by omega,yas hj (by rw [hp];simpa using hq)⟩,by omega,sS⟩
 . rw [(wu8 hi hj).1 (by omega)];refine hg ?_;exact sS
theorem zrm (y:Inp) (n:ByteArray) (T:Option TypeId):xbh Γ prog 120 [.box [.dat (cS n)] T] [.agg ((inpC y).map .dat),.one (.ptr 0 0)] [.box [.dat (cS n)] T] (.one (.dat (cB (seq y.name n)))):=by
 refine hEh [] func120 f120.eq_1 ?_;exact StH.done 1 rfl (by kernel_rfl) rfl rfl
theorem xwl (l:List Inp) (n:ByteArray) (hl:l.length<=1073741824):xbh Γ prog 119 (cloB [cS n] (some 9) 120) [.one (.dat (.sl 3 (l.map Inp.C))),.one (.fnr 1)] (cloB [cS n] (some 9) 120) (.one (.dat (cI (idxF (fun y=>seq y.name n) l)))):=
 yp6 [cS n] (some 9) _ l (fun y=>seq y.name n) hl (fun y _=>wt7 (fun r=>by rw [List.map_map];rfl) (zrm y n _))
theorem zsc (s:Sht) (cs:List Sc) (w:Wk) (hl:s.inputs.length<=1073741824) (n:ByteArray):xbh Γ prog 70 (wkBs s cs w) [.one (.ptr 0 0),.one (.dat (cS n))] (wkBs s cs w) (.one (.dat (cI (idxI s n)))):=by
 have h:=xwl (Γ:=Γ) s.inputs n hl;unfold idxI;generalize idxF (fun y=>seq y.name n) s.inputs=j at *;refine hEh [(1,[.clo])] func70 f70.eq_1 ?_;refine hca [5,6] h ?_;exact StH.y4a rfl (by kernel_rfl) rfl
theorem z5x (cs:List Cell) (T0:Option TypeId) (g:FuncId) (l:List Imp) (p:Imp->Bool) (hl:l.length<=1073741824) (h:∀ y∈l,xbh Γ prog g (cloB cs T0 g) [.agg ((impC y).map .dat),.one (.ptr 0 0)] (cloB cs T0 g) (.one (.dat (cB (p y))))) :
 xbh Γ prog 121 (cloB cs T0 g) [.one (.dat (.sl 6 (l.map Imp.C))),.one (.fnr 1)] (cloB cs T0 g) (.one (.dat (cI (idxF p l)))):=by
 refine hEh [] func121 f121.eq_1 ?_;refine wf5 [0,1,7] (fun i:Nat=>[(8,.one (.dat (cI i)))]) (fun _=>cloB cs T0 g) (fun i=>i<=l.length/\∀ j,j<i->p (l.getD j default)=false) (fun i=>l.length-i) 0 ⟨Nat.zero_le _,fun j hj=>by omega⟩ ?_ ?_
 . refine hg ?_;exact sS
 intro i hi;obtain ⟨hi,hj⟩:=hi;refine hg ?_;refine y8g (fun hlt _=>?_) (fun hlt _=>?_)
 . have hlt':i<l.length:=by omega
   have hb:=h _ (z1y hlt');refine hg ?_;refine zue hb ?_;generalize hp:p (l.getD i default)=q at *;clear hb;refine hg ?_
   refine hF ?_ ?_<;>intros
   . rename_i hq;rw [(wu8 hi hj).2 hlt' (by rw [hp];exact hq)];exact sS
   . rename_i hq;exact ⟨i+1,⟨by omega,yas hj (by rw [hp];simpa using hq)⟩,by omega,sS⟩
 . rw [(wu8 hi hj).1 (by omega)];refine hg ?_;exact sS
theorem xkt (y:Imp) (n:ByteArray) (T:Option TypeId):xbh Γ prog 122 [.box [.dat (cS n)] T] [.agg ((impC y).map .dat),.one (.ptr 0 0)] [.box [.dat (cS n)] T] (.one (.dat (cB (seq y.name n)))):=by
 refine hEh [] func122 f122.eq_1 ?_;exact StH.done 1 rfl (by kernel_rfl) rfl rfl
theorem wzc (l:List Imp) (n:ByteArray) (hl:l.length<=1073741824):xbh Γ prog 121 (cloB [cS n] (some 9) 122) [.one (.dat (.sl 6 (l.map Imp.C))),.one (.fnr 1)] (cloB [cS n] (some 9) 122) (.one (.dat (cI (idxF (fun y=>seq y.name n) l)))):=
 z5x [cS n] (some 9) _ l (fun y=>seq y.name n) hl (fun y _=>wt7 (fun r=>by rw [List.map_map];rfl) (xkt y n _))
theorem x0n (s:Sht) (cs:List Sc) (w:Wk) (hl:s.imports.length<=1073741824) (n:ByteArray):xbh Γ prog 71 (wkBs s cs w) [.one (.ptr 0 0),.one (.dat (cS n))] (wkBs s cs w) (.one (.dat (cI (idxM s n)))):=by
 have h:=wzc (Γ:=Γ) s.imports n hl;unfold idxM;generalize idxF (fun y=>seq y.name n) s.imports=j at *;refine hEh [(1,[.clo])] func71 f71.eq_1 ?_;refine hca [5,6] h ?_;exact StH.y4a rfl (by kernel_rfl) rfl
theorem zel (cs:List Cell) (T0:Option TypeId) (g:FuncId) (l:List Sto) (p:Sto->Bool) (hl:l.length<=1073741824) (h:∀ y∈l,xbh Γ prog g (cloB cs T0 g) [.agg ((stoC y).map .dat),.one (.ptr 0 0)] (cloB cs T0 g) (.one (.dat (cB (p y))))) :
 xbh Γ prog 123 (cloB cs T0 g) [.one (.dat (.sl 3 (l.map Sto.C))),.one (.fnr 1)] (cloB cs T0 g) (.one (.dat (cI (idxF p l)))):=by
 refine hEh [] func123 f123.eq_1 ?_;refine wf5 [0,1,7] (fun i:Nat=>[(8,.one (.dat (cI i)))]) (fun _=>cloB cs T0 g) (fun i=>i<=l.length/\∀ j,j<i->p (l.getD j default)=false) (fun i=>l.length-i) 0 ⟨Nat.zero_le _,fun j hj=>by omega⟩ ?_ ?_
 . refine hg ?_;exact sS
 intro i hi;obtain ⟨hi,hj⟩:=hi;refine hg ?_;refine y8g (fun hlt _=>?_) (fun hlt _=>?_)
 . have hlt':i<l.length:=by omega
   have hb:=h _ (z1y hlt');refine hg ?_;refine zue hb ?_;generalize hp:p (l.getD i default)=q at *;clear hb;refine hg ?_
   refine hF ?_ ?_<;>intros
   . rename_i hq;rw [(wu8 hi hj).2 hlt' (by rw [hp];exact hq)];exact sS
   . rename_i hq;exact ⟨i+1,⟨by omega,yas hj (by rw [hp];simpa using hq)⟩,by omega,sS⟩
 . rw [(wu8 hi hj).1 (by omega)];refine hg ?_;exact sS
theorem v2x (y:Sto) (n:ByteArray) (T:Option TypeId):xbh Γ prog 124 [.box [.dat (cS n)] T] [.agg ((stoC y).map .dat),.one (.ptr 0 0)] [.box [.dat (cS n)] T] (.one (.dat (cB (seq y.name n)))):=by
 refine hEh [] func124 f124.eq_1 ?_;exact StH.done 1 rfl (by kernel_rfl) rfl rfl
theorem vo1 (l:List Sto) (n:ByteArray) (hl:l.length<=1073741824):xbh Γ prog 123 (cloB [cS n] (some 9) 124) [.one (.dat (.sl 3 (l.map Sto.C))),.one (.fnr 1)] (cloB [cS n] (some 9) 124) (.one (.dat (cI (idxF (fun y=>seq y.name n) l)))):=
 zel [cS n] (some 9) _ l (fun y=>seq y.name n) hl (fun y _=>wt7 (fun r=>by rw [List.map_map];rfl) (v2x y n _))
theorem yy7 (s:Sht) (cs:List Sc) (w:Wk) (hl:s.stores.length<=1073741824) (n:ByteArray):xbh Γ prog 72 (wkBs s cs w) [.one (.ptr 0 0),.one (.dat (cS n))] (wkBs s cs w) (.one (.dat (cI (idxS s n)))):=by
 have h:=vo1 (Γ:=Γ) s.stores n hl;unfold idxS;generalize idxF (fun y=>seq y.name n) s.stores=j at *;refine hEh [(1,[.clo])] func72 f72.eq_1 ?_;refine hca [5,6] h ?_;exact StH.y4a rfl (by kernel_rfl) rfl
theorem xzd (cs:List Cell) (T0:Option TypeId) (g:FuncId) (l:List Por) (p:Por->Bool) (hl:l.length<=1073741824) (h:∀ y∈l,xbh Γ prog g (cloB cs T0 g) [.agg ((porC y).map .dat),.one (.ptr 0 0)] (cloB cs T0 g) (.one (.dat (cB (p y))))) :
 xbh Γ prog 126 (cloB cs T0 g) [.one (.dat (.sl 3 (l.map Por.C))),.one (.fnr 1)] (cloB cs T0 g) (.one (.dat (cI (idxF p l)))):=by
 refine hEh [] func126 f126.eq_1 ?_;refine wf5 [0,1,7] (fun i:Nat=>[(8,.one (.dat (cI i)))]) (fun _=>cloB cs T0 g) (fun i=>i<=l.length/\∀ j,j<i->p (l.getD j default)=false) (fun i=>l.length-i) 0 ⟨Nat.zero_le _,fun j hj=>by omega⟩ ?_ ?_
 . refine hg ?_;exact sS
 intro i hi;obtain ⟨hi,hj⟩:=hi;refine hg ?_;refine y8g (fun hlt _=>?_) (fun hlt _=>?_)
 . have hlt':i<l.length:=by omega
   have hb:=h _ (z1y hlt');refine hg ?_;refine zue hb ?_;generalize hp:p (l.getD i default)=q at *;clear hb;refine hg ?_
   refine hF ?_ ?_<;>intros
   . rename_i hq;rw [(wu8 hi hj).2 hlt' (by rw [hp];exact hq)];exact sS
   . rename_i hq;exact ⟨i+1,⟨by omega,yas hj (by rw [hp];simpa using hq)⟩,by omega,sS⟩
 . rw [(wu8 hi hj).1 (by omega)];refine hg ?_;exact sS
theorem z8c (y:Por) (n:ByteArray) (T:Option TypeId):xbh Γ prog 127 [.box [.dat (cS n)] T] [.agg ((porC y).map .dat),.one (.ptr 0 0)] [.box [.dat (cS n)] T] (.one (.dat (cB (seq y.name n)))):=by
 refine hEh [] func127 f127.eq_1 ?_;exact StH.done 1 rfl (by kernel_rfl) rfl rfl
theorem ymg (l:List Por) (n:ByteArray) (hl:l.length<=1073741824):xbh Γ prog 126 (cloB [cS n] (some 9) 127) [.one (.dat (.sl 3 (l.map Por.C))),.one (.fnr 1)] (cloB [cS n] (some 9) 127) (.one (.dat (cI (idxF (fun y=>seq y.name n) l)))):=
 xzd [cS n] (some 9) _ l (fun y=>seq y.name n) hl (fun y _=>wt7 (fun r=>by rw [List.map_map];rfl) (z8c y n _))
theorem vkm (s:Sht) (cs:List Sc) (w:Wk) (hl:s.ports.length<=1073741824) (n:ByteArray):xbh Γ prog 75 (wkBs s cs w) [.one (.ptr 0 0),.one (.dat (cS n))] (wkBs s cs w) (.one (.dat (cI (idxP s n)))):=by
 have h:=ymg (Γ:=Γ) s.ports n hl;unfold idxP;generalize idxF (fun y=>seq y.name n) s.ports=j at *;refine hEh [(1,[.clo])] func75 f75.eq_1 ?_;refine hca [5,6] h ?_;exact StH.y4a rfl (by kernel_rfl) rfl
end Go.Hp.T
namespace Go.Hp
open Go Go.RowKit Go.Slot
variable {P:Program} {Γ:List (Nat×List Cell)}
theorem vn3 (n:Nat) (φ:List Nat) {f:FuncId} {η ηs:List SB} {args l:List SV} {res res':SV} {K:Bool->List Nat->List (Nat×SB)->SV->Prop} (h:xbh Γ P f ηs args ηs res) (hl:∀ m,args.map (xbb (atR φ m))=l) (hr:∀ m,rnSV (atR φ m) res=res') (hn:φ.Nodup)
 (hnn:Nat.ble n η.length=true) (hb:(φ.all fun j=>Nat.blt j n)=true) (hp:∀ m,φ.map (fun j=>η[j]?)=ηs.map (fun x=>some (rnSB (atR φ m) x))) (hc:(η.drop n).all xfj=true) (hk:K true (List.range n) [] res'):zgz Γ P f η l K:=by
 have hnn':n<=η.length:=by simpa using hnn
 have hb':∀ j∈φ,j<n:=fun j hj=>by simpa using List.all_eq_true.1 hb j hj
 refine z5f n (fun ξ=>?_) hnn hc hk
 have hk:=xbh.roN φ (η:=η.take n++ξ) h hn (List.all_eq_true.2 fun j hj=>by
  have:=hb' j hj
  simp only [List.length_append,List.length_take,Nat.blt_eq];omega) (by
  rw [<-hp]
  refine List.map_congr_left fun j hj=>?_
  have:=hb' j hj
  rw [List.getElem?_append_left (by simp;omega),List.getElem?_take,if_pos this])
 rw [hl,hr] at hk;exact hk
end Go.Hp
namespace Go.Hp.T
open Go Go.RowKit Go.Slot Go.Hp Go.Slot.T
open Go.Proofs.Tryz
variable {cs:List Sc} {l:List ByteArray} {k:Nat}
attribute [local irreducible] hide RH
set_option maxRecDepth 10000
set_option maxHeartbeats 8000000
variable {Γ:List (Nat×List Cell)}
structure WtOk (s:Sht) (cs:List Sc) (l:List ByteArray):Prop where
 len:l.length<=200
 idx:∀ n∈l,0<=idxC s n/\(idxC s n).toNat<cs.length
 ok:∀ n∈l,(valF s cs n).low.ok
 lz:∀ n∈l,(valF s cs n).low.sz<=100000
 hz:∀ n∈l,(valF s cs n).high.sz<=100000
theorem xf7 {s:Sht}:sumV s cs (l.take 0)=Fc.of 0:=rfl
theorem w2p {s:Sht} (h:k<l.length):sumV s cs (l.take (k+1))=Fc.add (sumV s cs (l.take k)) (valF s cs (l.getD k default)).low:=by
 unfold sumV;rw [vys h,List.foldl_append];rfl
theorem v17 {s:Sht} {cs:List Sc} {l:List ByteArray} (h:WtOk s cs l):∀ k,k<=l.length->(sumV s cs (l.take k)).ok/\(sumV s cs (l.take k)).sz<=k*100001+1
 | 0,_=>⟨Fc.wvr 0,by rw [xf7];have:=zyp;omega⟩
 | k+1,hk=>by
  have hm:=z1y (l:=l) (i:=k) (by omega);obtain ⟨h1,h2⟩:=v17 h k (by omega);rw [w2p (by omega)];have h3:=Fc.zgp (sumV s cs (l.take k)) (valF s cs (l.getD k default)).low;have h4:=h.lz _ hm;exact ⟨Fc.vgy.2 ⟨h1,h.ok _ hm⟩,by omega⟩
theorem wsd (a b:Fc) (ha:a.ok) (hb:b.ok) (h0:¬Fc.sign b=0) (la:a.sz<=67108864) (lb:b.sz<=67108864):CallsD Γ prog 68 [.agg (fcC a),.agg (fcC b)] (.tup [.agg (fcC (divF a b)),.one (cI 0)]):=by
 obtain ⟨x,rfl⟩:=Fc.xzx ha;obtain ⟨y,rfl⟩:=Fc.xzx hb
 have hy:¬y=0:=fun h=>h0 (by rw [h,Fc.x7c];rfl)
 rw [v8u hy];exact qDiv x y hy la lb
def zfe (s:Sht) (cs:List Sc) (l:List ByteArray):Nat->Fc:=fun i=>(valF s cs (l.getD i default)).low
def xtg (g h:Nat->Fc) (n k:Nat):List (List Cell):=(List.range k).map (fun i=>(h i).C)++((List.range n).drop k).map (fun i=>(g i).C)
theorem yqo (g h:Nat->Fc) (n:Nat):((List.range n).map g).map Fc.C=xtg g h n 0:=by
 unfold xtg;rw [List.map_map];rfl
theorem x45 (g h:Nat->Fc) {n:Nat} (hk:k=n):xtg g h n k=((List.range n).map h).map Fc.C:=by
 subst hk;unfold xtg;rw [List.drop_eq_nil_of_le (by simp),List.map_nil,List.append_nil,List.map_map];rfl
theorem y1l (g h:Nat->Fc) {n:Nat} (hk:k<n):∃ A R,A.length=k/\A.length+R.length+1=n/\xtg g h n k=A++(g k).C::R/\A++(h k).C::R=xtg g h n (k+1):=by
 refine ⟨(List.range k).map (fun i=>(h i).C),((List.range n).drop (k+1)).map (fun i=>(g i).C),by simp,by simp;omega,?_,?_⟩
 . unfold xtg;rw [List.drop_eq_getElem_cons (by simpa using hk),List.map_cons,List.getElem_range]
 . unfold xtg;rw [List.range_succ,List.map_append,List.append_assoc];rfl
theorem wuq {η:List SB} {b n:Nat} {c:Cell} {l:List Fc} {T:Option TypeId} (hb:gB η b=.arr (.sl 4 (l.map Fc.C)) 0 T) (hn:n=l.length):y7w η [.one (.sl b 4 0 n),.one (.dat c)]=some ([.one (frsC l),.one c],[b]):=by
 subst hn;simp [y7w,argD,xf6,hb,Cell.esz,Cell.cnt,subC]
def wtR (s:Sht) (cs:List Sc) (l:List ByteArray):SV:=bif decide (wtE s cs l=0) then .tup [.one (.dat (frsC (wtL s cs l))),.one (.dat (cI 0))] else .tup [.one (.dat (.raw (.slice none 0 0))),.one (.dat (cI (wtE s cs l)))]
theorem v9o {s:Sht} (hk:k<l.length) (h:badV (valF s cs (l.getD k default))=true):wtR s cs l=.tup [.one (.dat (.raw (.slice none 0 0))),.one (.dat (cI 3))]:=by
 unfold wtR wtE;rw [v2u (p:=fun w=>badV (valF s cs w)) hk h];rfl
theorem wbv {s:Sht} (h:∀ k,k<l.length->badV (valF s cs (l.getD k default))=false) (h0:Fc.sign (sumV s cs l)=0):wtR s cs l=.tup [.one (.dat (.raw (.slice none 0 0))),.one (.dat (cI 15))]:=by
 unfold wtR wtE;rw [yvt (p:=fun w=>badV (valF s cs w)) h,decide_eq_true h0];rfl
theorem yzh {s:Sht} (h:∀ k,k<l.length->badV (valF s cs (l.getD k default))=false) (h0:¬Fc.sign (sumV s cs l)=0):wtR s cs l=.tup [.one (.dat (frsC (wtL s cs l))),.one (.dat (cI 0))]:=by
 unfold wtR wtE;rw [yvt (p:=fun w=>badV (valF s cs w)) h,decide_eq_false h0];rfl
theorem xku {s:Sht}:wtL s cs l=(List.range l.length).map (fun i=>divF (zfe s cs l i) (sumV s cs l)):=by
 unfold wtL zfe;apply List.ext_getElem
 . simp
 . intro i h1 h2;simp only [List.length_map] at h1;rw [List.getElem_map,List.getElem_map,List.getElem_range,ldE h1]
abbrev vsx (x:Stp):SB:=.box ((stpC x).map .dat) (some 70)
theorem v0s (s:Sht) (cs:List Sc) (w:Wk) (hcl:s.cells.length<=1073741824) (x:Stp) (hx:WtOk s cs x.cells):xbh Γ prog 35 (wkBs s cs w) [.one (.ptr 0 0),.agg ((stpC x).map .dat)] (wkBs s cs w) (wtR s cs x.cells):=by
 have hso:=fun k hk=>v17 hx k hk
 have hxl:=hx.len;obtain ⟨z,hz0⟩:∃ z,z=Fc.of 0:=⟨_,rfl⟩;have c0:=zh7 (Γ:=Γ) hz0
 have hz9:True->z=Fc.of 0:=fun _=>hz0
 clear hz0
 have hb:=fun k (hk:k<x.cells.length)=>v9o (s:=s) (cs:=cs) hk
 have hz:=wbv (s:=s) (cs:=cs) (l:=x.cells);have hk0:=yzh (s:=s) (cs:=cs) (l:=x.cells);rw [xku] at hk0;generalize wtR s cs x.cells=R at *;refine hEh [(6,[.clo,.room 2])] func35 f35.eq_1 ?_
 (with_reducible refine wdy c0 ?_)<;>refine hgS ?_
 refine wf5 [0,3,6,7,18,19] (fun k:Nat=>[(20,.one (.dat (cI k)))]) (fun k=>wkBs s cs w++[vsx x,.arr (.sl 4 (x2q (zfe s cs x.cells) x.cells.length k)) 0 none,.box ((sumV s cs (x.cells.take k)).C.map .dat) (some 51)])
  (fun k=>k<=x.cells.length/\∀ j,j<k->badV (valF s cs (x.cells.getD j default))=false) (fun k=>x.cells.length-k) 0 ⟨Nat.zero_le _,fun j hj=>by omega⟩ ?_ ?_
 . refine hg ?_;rw [vak];have hz0:=hz9 trivial;subst hz0;exact sS
 rintro k ⟨hk,hj⟩;refine hg ?_;refine y8g (fun hlt _=>?_) (fun hlt _=>?_)
 . have hk':k<x.cells.length:=by omega
   have hm:=z1y hk';obtain ⟨A,Rr,hA,hAl,e3,e4⟩:=yya (zfe s cs x.cells) hk';have g1:=z3h (R:=Rr) hA;have g2:=vcb (R:=Rr) hA
   have g3:∀ v,(A++v::Rr).length=x.cells.length:=fun v=>by rw [List.length_append,List.length_cons];omega
   replace e4:=e4 _ rfl
   obtain ⟨i1,i2⟩:=hx.idx _ hm;have z1:=hx.lz _ hm;have z2:=hx.hz _ hm;have z3:=(hso k (by omega)).2;have hbk:=hb k hk';have hcF:=zi6 (Γ:=Γ) s.cells (x.cells.getD k default) hcl;have hs2:=w2p (s:=s) (cs:=cs) hk'
   replace e4:A++(cs.getD (idxC s (x.cells.getD k default)).toNat Sc.zero).low.C::Rr=x2q (zfe s cs x.cells) x.cells.length (k+1):=e4
   have hv:valF s cs (x.cells.getD k default)=cs.getD (idxC s (x.cells.getD k default)).toNat Sc.zero:=rfl;rw [hv] at z1 z2 hbk hs2;change xbh _ _ _ _ _ _ (.one (.dat (cI (idxC s (x.cells.getD k default))))) at hcF;generalize idxC s (x.cells.getD k default)=j at *;have c1:=y26 (Γ:=Γ) (cs.getD j.toNat Sc.zero).low (cs.getD j.toNat Sc.zero).high (by omega) (by omega);have c2:=zct (Γ:=Γ) (cs.getD j.toNat Sc.zero).low (by omega);obtain ⟨ee,c3⟩:=fAdd (Γ:=Γ) (sumV s cs (x.cells.take k)) (cs.getD j.toNat Sc.zero).low (by omega) (by omega);rw [<-hs2] at c3
   have hbv:True->badV (cs.getD j.toNat Sc.zero)=(!decide ((cs.getD j.toNat Sc.zero).low=(cs.getD j.toNat Sc.zero).high)||decide (Fc.sign (cs.getD j.toNat Sc.zero).low<0)):=fun _=>rfl
   generalize hq:badV (cs.getD j.toNat Sc.zero)=q at *;generalize decide ((cs.getD j.toNat Sc.zero).low=(cs.getD j.toNat Sc.zero).high)=b1 at *;rw [e3];clear e3 hb hz hk0 hso hm hx c0 hs2;refine hg3 @g1 @g2 @g3 ?_;refine vn3 (res':=.one (.dat (cI j))) 10 [8,9] hcF (fun _=>rfl) (fun _=>rfl) (by decide) rfl rfl (fun _=>rfl) rfl ?_;refine hg3 @g1 @g2 @g3 ?_
   repeat' first|refine hF ?_ ?_<;>intros|refine hI ?_|(with_reducible first|refine wdy c1 ?_|refine wdy c2 ?_|refine wdy c3 ?_)<;>refine hgS ?_
   all_goals first
    | (rw [hbk (by rw [hbv trivial];first | (rw [show b1=false by assumption];rfl) | (rw [decide_eq_true (show Fc.sign (cs.getD j.toNat Sc.zero).low<0 by assumption),Bool.or_true]))]
       exact StH.y4a rfl (by kernel_rfl) rfl)
    | (refine ⟨k+1,⟨by omega,yas hj (by rw [hv,hq,hbv trivial,show b1=true by assumption,decide_eq_false (show ¬Fc.sign (cs.getD j.toNat Sc.zero).low<0 by assumption)];rfl)⟩,by omega,?_⟩
       refine StH.cutN [0,3,6,7,18,19,20] 8 rfl ?_ ?_
       . refine hg ?_
         first | exact trivial | rfl
       refine hg1 @g2 ?_;rw [<-e4]
       exact sS)
 have ek:k=x.cells.length:=by omega
 subst ek;have z3:=(hso _ (Nat.le_refl _));rw [vqd _ rfl];rw [List.take_length] at z3 ⊢;have c1:=zct (Γ:=Γ) (sumV s cs x.cells) (by omega)
 have hd:∀ i,i<x.cells.length->¬Fc.sign (sumV s cs x.cells)=0->CallsD Γ prog 68 [.agg (fcC (zfe s cs x.cells i)),.agg (fcC (sumV s cs x.cells))] (.tup [.agg (fcC (divF (zfe s cs x.cells i) (sumV s cs x.cells))),.one (cI 0)]):=fun i hi h0=>wsd _ _ (hx.ok _ (z1y hi)) z3.1 h0 (by have:=hx.lz _ (z1y hi);unfold zfe;omega) (by omega)
 replace hz:=hz hj
 replace hk0:=hk0 hj
 clear hb hso hx c0 hj;generalize zfe s cs x.cells=g at *;generalize sumV s cs x.cells=u at *;refine hg ?_;by_cases hu:Fc.sign u=0
 . rw [hz hu];clear hk0 hd
   (with_reducible refine wdy c1 ?_)<;>refine hgS ?_
   all_goals first
    | (exfalso;omega)
    | exact StH.y4a rfl (by kernel_rfl) rfl
 rw [hk0 hu]
 replace hd:=fun i hi=>hd i hi hu
 clear hz hk0
 (with_reducible refine wdy c1 ?_)<;>refine hgS ?_
 all_goals try (exfalso;omega)
 refine wf5 [6,7,66,67] (fun k:Nat=>[(68,.one (.dat (cI k)))]) (fun k=>wkBs s cs w++[vsx x,.arr (.sl 4 (xtg g (fun i=>divF (g i) u) x.cells.length k)) 0 none,.box (u.C.map .dat) (some 51)])
  (fun k=>k<=x.cells.length) (fun k=>x.cells.length-k) 0 (Nat.zero_le _) ?_ ?_
 . refine hg ?_;rw [yqo g (fun i=>divF (g i) u)];exact sS
 intro k hk;refine hg ?_;refine y8g (fun hlt _=>?_) (fun hlt _=>?_)
 . have hk':k<x.cells.length:=by omega
   obtain ⟨A,Rr,hA,hAl,e3,e4⟩:=y1l g (fun i=>divF (g i) u) hk';have g1:=z3h (R:=Rr) hA;have g2:=vcb (R:=Rr) hA
   have g3:∀ v,(A++v::Rr).length=x.cells.length:=fun v=>by rw [List.length_append,List.length_cons];omega
   have c2:=hd k hk';rw [e3];clear e3 hd;refine hg3 @g1 @g2 @g3 ?_
   repeat' first|refine hI ?_|(with_reducible refine y04 c2 ?_)<;>refine hgS ?_
   refine ⟨k+1,by omega,by omega,?_⟩;refine hg1 @g2 ?_;rw [<-e4];exact sS
 have ek:k=x.cells.length:=by omega
 subst ek;rw [x45 _ _ rfl];clear hd;refine hg ?_;exact StH.va6 (bs:=[6]) (wuq rfl (by simp)) rfl rfl rfl rfl
end Go.Hp.T
namespace Go.Hp
open Go Go.RowKit Go.Slot
variable {P:Program} {Γ:List (Nat×List Cell)}
variable {ηs ηs':List SB} {i:Nat} {x x0 x1 x2 x3 x4 x5 x6 x7 x8 x9:SB} {f:FuncId} {res:SV}
theorem w0t {n:Nat} (h:ηs[i]? = some x):(ηs++List.replicate n .fresh)[i]? = some x:=by
 rw [List.getElem?_append_left (List.getElem?_eq_some_iff.1 h).1];exact h
theorem wsm {n:Nat} (h:(ηs++List.replicate n .fresh)[i]? = some x):ηs[i]? = some x\/x=.fresh:=by
 by_cases hi:i<ηs.length
 . rw [List.getElem?_append_left hi] at h;exact .inl h
 . rw [List.getElem?_append_right (by omega),List.getElem?_replicate] at h;split at h
   . cases h;exact .inr rfl
   . cases h
theorem zsl {n b:Nat}:okB (ηs++List.replicate n .fresh) b↔okB ηs b:=
 ⟨fun ⟨x,h,hx⟩=>⟨x,(wsm h).resolve_right hx,hx⟩,fun ⟨x,h,hx⟩=>⟨x,w0t h,hx⟩⟩
theorem xs6:swL 5 6 [x0,x1,x2,x3,x4,x5,x6]=[swSB 5 6 x0,swSB 5 6 x1,swSB 5 6 x2,swSB 5 6 x3,swSB 5 6 x4,swSB 5 6 x6,swSB 5 6 x5]:=rfl
theorem ypb:swL 5 6 [x0,x1,x2,x3,x4,x5,x6,x7]=[swSB 5 6 x0,swSB 5 6 x1,swSB 5 6 x2,swSB 5 6 x3,swSB 5 6 x4,swSB 5 6 x6,swSB 5 6 x5,swSB 5 6 x7]:=rfl
theorem wkr:swL 6 7 [x0,x1,x2,x3,x4,x5,x6,x7]=[swSB 6 7 x0,swSB 6 7 x1,swSB 6 7 x2,swSB 6 7 x3,swSB 6 7 x4,swSB 6 7 x5,swSB 6 7 x7,swSB 6 7 x6]:=rfl
theorem yn7:swL 5 7 [x0,x1,x2,x3,x4,x5,x6,x7]=[swSB 5 7 x0,swSB 5 7 x1,swSB 5 7 x2,swSB 5 7 x3,swSB 5 7 x4,swSB 5 7 x7,swSB 5 7 x6,swSB 5 7 x5]:=rfl
theorem vsn:swL 5 7 [x0,x1,x2,x3,x4,x5,x6,x7,x8]=[swSB 5 7 x0,swSB 5 7 x1,swSB 5 7 x2,swSB 5 7 x3,swSB 5 7 x4,swSB 5 7 x7,swSB 5 7 x6,swSB 5 7 x5,swSB 5 7 x8]:=rfl
theorem wu1:swL 6 8 [x0,x1,x2,x3,x4,x5,x6,x7,x8]=[swSB 6 8 x0,swSB 6 8 x1,swSB 6 8 x2,swSB 6 8 x3,swSB 6 8 x4,swSB 6 8 x5,swSB 6 8 x8,swSB 6 8 x7,swSB 6 8 x6]:=rfl
theorem vq0:swL 4 8 [x0,x1,x2,x3,x4,x5,x6,x7,x8]=[swSB 4 8 x0,swSB 4 8 x1,swSB 4 8 x2,swSB 4 8 x3,swSB 4 8 x8,swSB 4 8 x5,swSB 4 8 x6,swSB 4 8 x7,swSB 4 8 x4]:=rfl
theorem wxr:swL 5 8 [x0,x1,x2,x3,x4,x5,x6,x7,x8,x9]=[swSB 5 8 x0,swSB 5 8 x1,swSB 5 8 x2,swSB 5 8 x3,swSB 5 8 x4,swSB 5 8 x8,swSB 5 8 x6,swSB 5 8 x7,swSB 5 8 x5,swSB 5 8 x9]:=rfl
theorem yng:swL 6 9 [x0,x1,x2,x3,x4,x5,x6,x7,x8,x9]=[swSB 6 9 x0,swSB 6 9 x1,swSB 6 9 x2,swSB 6 9 x3,swSB 6 9 x4,swSB 6 9 x5,swSB 6 9 x9,swSB 6 9 x7,swSB 6 9 x8,swSB 6 9 x6]:=rfl
theorem yp5 (φ:List Nat) (η2:List SB) {η:List SB} {args l:List SV} {K:Bool->List SB->SV->Prop} (h:xbh Γ P f ηs args ηs' res) (hl:args.map (xbb (atR φ η.length))=l) (hn:φ.Nodup) (hb:(φ.all fun j=>Nat.blt j η.length)=true)
 (hp:φ.map (fun j=>η[j]?)=ηs.map (fun x=>some (rnSB (atR φ η.length) x))) (hlen:Nat.ble φ.length ηs'.length=true) (he:putR φ η ηs'=η2) (hk:K true η2 (rnSV (atR φ η.length) res)):vb3 Γ P f η l K:=yru φ h hl hn hb hp hlen (he▸hk)
theorem xbh.w5u (n : Nat) {sl : List SV} (h : xbh Γ P f ηs sl ηs' res) : xbh Γ P f (ηs ++ List.replicate n .fresh) sl ηs' res := by
 refine ⟨h.1,fun Mo ρ w vs hI hr=>?_⟩
 have eM:MX Mo ρ (ηs++List.replicate n .fresh)=MX Mo ρ ηs:=by
  funext b o
  refine propext ⟨fun h=>?_,fun h=>?_⟩
  . rcases h with h | ⟨i,x,h1,h2,h3⟩
    . exact .inl h
    . rcases wsm h1 with h1 | rfl
      . exact .inr ⟨i,x,h1,h2,h3⟩
      . cases h2
  . rcases h with h | ⟨i,x,h1,h2⟩
    . exact .inl h
    . exact .inr ⟨i,x,w0t h1,h2⟩
 have eX:∀ k,Xb ρ (ηs++List.replicate n .fresh) k↔Xb ρ ηs k:=fun k=>by
  constructor
  . rintro ⟨i,x,h1,h2,h3⟩
    rcases wsm h1 with h1 | rfl
    . exact ⟨i,x,h1,h2,h3⟩
    . cases h2
  . rintro ⟨i,x,h1,h2⟩;exact ⟨i,x,w0t h1,h2⟩
 have hm:Mv (ηs++List.replicate n .fresh) ρ (MX Mo ρ (ηs++List.replicate n .fresh)) w ηs ρ (MX Mo ρ ηs) w:=⟨fun b hb=>zsl.1 hb,fun _ _=>rfl,by rw [eM];exact ydx.shrink w (fun _ _ h=>h),Grow.refl w⟩;have hI0:HInv Γ Mo ρ ηs w:=⟨hI.bnd,fun i x hx=>SBR.mv hm (fun _ _=>rfl) (hI.blk i x (w0t hx)),fun i j x y h1 h2=>hI.inj i j x y (w0t h1) (w0t h2),fun i x h=>hI.sep i x (w0t h),by rw [<-eM];exact hI.glob⟩;refine (h.2 Mo ρ w vs hI0 (hr.mv hm)).mono (fun e w' ⟨v,ρ',h1,h2,h3⟩=>⟨v,ρ',h1,?_,h3⟩)
 exact ⟨fun b hb=>h2.ok b (zsl.1 hb),fun b hb=>h2.rho b (zsl.1 hb),by rw [eM];exact h2.keep,h2.grow,h2.inv,h2.size,h2.os,h2.tape,h2.output,fun k hk hx=>h2.frame k hk (fun h=>hx ((eX k).2 h)),fun k hk=>by
  rcases h2.fresh k hk with h | h
  . exact .inl h
  . exact .inr ((eX k).2 h)⟩
end Go.Hp
namespace Go.Hp.T
open Go Go.RowKit Go.Slot Go.Hp Go.Slot.T
open Go.Proofs.Tryz
attribute [local irreducible] hide RH
set_option maxRecDepth 10000
set_option maxHeartbeats 8000000
variable {Γ:List (Nat×List Cell)}
abbrev wkS (s:Sht) (cs:List Sc) (w:Wk):List SB:=[wkB s cs 1 5 3 4 w.srcs.length w.outs.length w.shares.length,mF w.m,.dead,aOt w.outs,aSh w.shares,aSr w.srcs]
abbrev wkO (s:Sht) (cs:List Sc) (w:Wk):List SB:=[wkB s cs 1 2 5 6 w.srcs.length w.outs.length w.shares.length,mF w.m,aSr w.srcs,.dead,.dead,aOt w.outs,aSh w.shares]
theorem v9s (n:Nat):∃ A:List (List Cell),A.length=n/\x2q (fun _=>Fc.of 0) (n+1) (n+1)=A++fcC (Fc.of 0)::[]/\A++fcC (Fc.of 1)::[]=(newL n).map Fc.C:=by
 refine ⟨(List.replicate n (Fc.of 0)).map Fc.C,by simp,?_,?_⟩
 . unfold x2q;rw [Nat.sub_self,List.replicate_zero,List.append_nil,List.range_succ,List.map_append]
   congr 1
   rw [List.map_replicate];apply List.ext_getElem
   . simp
   . intro i h1 h2;simp
 . unfold newL;rw [List.map_append];rfl
theorem xcl (n b:Nat) {η:List SB} {T:Option TypeId} (hb:gB η b=.arr (.sl 4 ((newL n).map Fc.C)) 0 T):xf6 η (.sl b 4 0 (n+1))=some (.sl 4 ((newL n).map Fc.C),[b]):=by
 simp [xf6,hb,Cell.esz,Cell.cnt,subC,newL]
theorem wsn (s:Sht) (cs:List Sc) (w:Wk) (hn:w.srcs.length<=200) (x:Src) (p:ByteArray):xbh Γ prog 69 (wkBs s cs w) [.one (.ptr 0 0),.agg (x.C.map .dat),.one (.dat (cS p))] (wkS s cs (srcW w x p)) (.tup []):=by
 obtain ⟨A,hA,ea,en⟩:=v9s w.srcs.length;have q1:=z3h (R:=[]) hA;have q2:=vcb (R:=[]) hA
 have q3:∀ v,(A++v::[]).length=w.srcs.length+1:=fun v=>by rw [List.length_append,List.length_cons,List.length_nil];omega
 obtain ⟨z,hz0⟩:∃ z,z=Fc.of 0:=⟨_,rfl⟩;have c0:=zh7 (Γ:=Γ) hz0;obtain ⟨o,ho0⟩:∃ o,o=Fc.of 1:=⟨_,rfl⟩;have c1:=vzx (Γ:=Γ) ho0;rw [<-hz0] at ea;rw [<-ho0] at en;clear hz0 ho0;unfold srcW;refine hEh [(10,[.join])] func69 f69.eq_1 ?_;refine hI ?_;refine wf5 [0,2,6,7,30,31] (fun k:Nat=>[(32,.one (.dat (cI k)))]) (fun k=>[wkB s cs 1 6 3 4 (w.srcs.length+1) w.outs.length w.shares.length,mF w.m,.dead,aOt w.outs,aSh w.shares,.box (x.C.map .dat) (some 60),aSr (w.srcs++[x]),.arr (.sl 4 (x2q (fun _=>z) (w.srcs.length+1) k)) 0 none]) (fun k=>k<=w.srcs.length+1) (fun k=>w.srcs.length+1-k) 0 (Nat.zero_le _) ?_ ?_
 . refine hg ?_;rw [vak];exact StH.same svl (by simp only [aSr,List.map_append,List.map_cons,List.map_nil,List.length_append,List.length_map];rfl)
 intro k hk;refine hg ?_;refine y8g (fun hlt _=>?_) (fun hlt _=>?_)
 . have hk':k<w.srcs.length+1:=by omega
   obtain ⟨B,Rr,hB,hBl,e3,e4⟩:=yya (fun _=>z) hk';have g1:=z3h (R:=Rr) hB;have g2:=vcb (R:=Rr) hB
   have g3:∀ v,(B++v::Rr).length=w.srcs.length+1:=fun v=>by rw [List.length_append,List.length_cons];omega
   replace e4:=e4 _ rfl
   rw [e3];clear e3 ea en q1 q2 q3;refine hg3 @g1 @g2 @g3 ?_
   (with_reducible refine wdy c0 ?_)<;>refine hgS ?_
   refine ⟨k+1,by omega,by omega,?_⟩;refine hg1 @g2 ?_;rw [<-e4];exact sS
 have ek:k=w.srcs.length+1:=by omega
 subst ek;rw [ea];clear ea;refine hg ?_;refine wy2 ?_;refine hg3 @q1 @q2 @q3 ?_
 (with_reducible refine wdy c1 ?_)<;>refine hgS ?_
 refine hg1 @q2 ?_
 try rw [en]
 refine hfrz (G:=[]) 7 rfl (xcl _ _ rfl) rfl rfl ?_;refine hg ?_;refine StH.back [0] 5 6 6 rfl rfl rfl rfl rfl ?_ ?_
 . rw [ypb,xlw];refine hg ?_
   first | exact trivial | rfl
 rw [ypb,xlw];refine hg ?_;exact StH.same svl (by simp only [wkS,wkB,List.length_append,List.length_cons,List.length_nil,Nat.zero_add])
theorem cOut (s:Sht) (cs:List Sc) (w:Wk) (hn:w.outs.length<=200) (hh:w.shares.length<=200) (x:Ot) (p:ByteArray) (l:List Fc) (hl:v7b w.m p=some l):xbh Γ prog 74 (wkBs s cs w) [.one (.ptr 0 0),.agg (x.C.map .dat),.one (.dat (cS p))] (wkO s cs (outW w x p)) (.tup []):=by
 unfold outW;rw [hl,Option.getD_some];refine hEh [] func74 f74.eq_1 ?_
 repeat' refine hI ?_
 refine StH.back [0] 5 6 8 rfl rfl rfl rfl rfl ?_ ?_
 . rw [ypb,xlw];refine hg ?_
   first | exact trivial | rfl
 rw [ypb,xlw];refine hg ?_;refine StH.back [0] 6 7 7 rfl rfl rfl rfl rfl ?_ ?_
 . rw [wkr,xlw];refine hg ?_
   first | exact trivial | rfl
 rw [wkr,xlw];refine hg ?_;exact StH.same svl (by simp only [wkO,wkB,aOt,aSh,List.length_map,List.length_append,List.length_cons,List.length_nil,Nat.zero_add,List.map_append,List.map_cons,List.map_nil];rfl)
end Go.Hp.T
