/- The proof, part Q28: 6b, Iy, 6c, 6d, 6e, 6f. -/
import Derived.Test.YtkbkjjahlafhoaaGreatDoorQ17
import Derived.Test.YtkbkjjahlafhoaaGreatDoorQ27
import Derived.Test.YtkbkjjahlafhoaaGreatDoorQ13
import Derived.Test.YtkbkjjahlafhoaaGreatDoorQ21
namespace Go.Hp.T
open Go Go.RowKit Go.Slot Go.Hp Go.Slot.T
open Go.Proofs.Tryz
variable {c:Int} {r:Nat->Nat}
attribute [local irreducible] hide RH
set_option maxRecDepth 10000
set_option maxHeartbeats 8000000
variable {Γ:List (Nat×List Cell)}
abbrev Ms:=List (ByteArray×ByteArray)
abbrev Mn:=List (Tg×Unit)
abbrev Mb:=List (Tg×Int)
def envS (l:Ms):List (Value×SV):=envM (fun u=>.one (.dat (cS u))) l
def envN (l:Mn):List (Value×SV):=entG tgK (fun _:Unit=>.one (.dat (cB true))) l
def envK (l:Mb):List (Value×SV):=entG tgK (fun k:Int=>.one (.dat (cI k))) l
theorem v7p {T:Ms} {s:ByteArray}:y6f (envS T) (.string s)=some ((v7b T s).map fun u=>.one (.dat (.raw (.string u)))):=xz2
theorem yps {T:Ms} {s u:ByteArray}:updM (envS T) (.string s) (.one (.dat (.raw (.string u))))=some (envS (updF T s u)):=v9l (C:=fun u:ByteArray=>.one (.dat (cS u))) (l:=T) (s:=s) (v:=u)
theorem wdd {T:Mn} {s:ByteArray}:y6f (envN T) (.agg (List.toArray [.int .i64 c,.string s]))=some ((ypi tgE T (c,s)).map fun _=>.one (.dat (.raw (.bool true)))):=yth xdx (s:=(c,s))
theorem vby {T:Mn} {s:ByteArray}:updM (envN T) (.agg (List.toArray [.int .i64 c,.string s])) (.one (.dat (.raw (.bool true))))=some (envN (updG tgE T (c,s) ())):=vwk xdx (C:=fun _:Unit=>.one (.dat (cB true))) (s:=(c,s)) (v:=())
theorem wfj {T:Mb} {s:ByteArray}:y6f (envK T) (.agg (List.toArray [.int .i64 c,.string s]))=some ((ypi tgE T (c,s)).map fun k=>.one (.dat (.raw (.int .i64 k)))):=yth xdx (s:=(c,s))
theorem xqh {T:Mb} {k:Int} {s:ByteArray}:updM (envK T) (.agg (List.toArray [.int .i64 c,.string s])) (.one (.dat (.raw (.int .i64 k))))=some (envK (updG tgE T (c,s) k)):=vwk xdx (C:=fun k:Int=>.one (.dat (cI k))) (s:=(c,s)) (v:=k)
theorem ykl {l:Ms}:rnSB r (.map (envS l))=.map (envS l):=wyn (fun _ _=>rfl) r l
theorem y6c {l:Mn}:rnSB r (.map (envN l))=.map (envN l):=vo0 (fun _ _=>rfl) r l
theorem yu3 {l:Mb}:rnSB r (.map (envK l))=.map (envK l):=vo0 (fun _ _=>rfl) r l
theorem v4t (l:Ms):ze4 (.map (envS l))=[]:=x5t (fun _=>rfl) l
theorem wfp (l:Mn):ze4 (.map (envN l))=[]:=z8x (fun _=>rfl) l
theorem zln (l:Mb):ze4 (.map (envK l))=[]:=z8x (fun _=>rfl) l
attribute [go_sem] v7p yps wdd vby wfj xqh v4t wfp zln
attribute [go_sem 20000] ykl y6c yu3
abbrev mS (l:Ms):SB:=.map (envS l)
abbrev mN (l:Mn):SB:=.map (envN l)
abbrev mK (l:Mb):SB:=.map (envK l)
theorem zlr {α β:Type} [Inhabited α] {f:β->α->β} {l:List α} {c:β} {i:Nat} (h:i<l.length):(l.take (i+1)).foldl f c=f ((l.take i).foldl f c) (l.getD i default):=by
 rw [List.take_succ_eq_append_getElem h,List.foldl_append,List.getD_eq_getElem?_getD,List.getElem?_eq_getElem h];rfl
def vp1 (s:Sht):Ms:=s.cells.foldl (fun m x=>updF m x.name x.unit) []
def wnc (s:Sht):Ms:=s.inputs.foldl (fun m x=>updF m x.name x.kind) []
def nm1 (s:Sht):Mn:=s.inputs.foldl (fun m x=>updG tgE m (0,x.name) ()) []
def nm2 (s:Sht):Mn:=s.imports.foldl (fun m x=>updG tgE m (1,x.name) ()) (nm1 s)
def nm3 (s:Sht):Mn:=s.stores.foldl (fun m x=>updG tgE (updG tgE m (2,x.name) ()) (6,x.name) ()) (nm2 s)
def ve8 (s:Sht):Mn:=s.ports.foldl (fun m x=>updG tgE m (5,x.name) ()) (nm3 s)
abbrev itB (a b c:Nat):SB:=.box [.mp a,.mp b,.mp c] (some 145)
abbrev colB (s:Sht):List SB:=[.box ((shtC s).map .dat) (some 31),itB 2 3 4,mS (vp1 s),mS (wnc s),mN (ve8 s)]
theorem wya (s:Sht) (hs:s.Sm):xbh Γ prog 77 [] [.agg ((shtC s).map .dat)] (colB s) (.agg [.mp 2,.mp 3,.mp 4]):=by
 have h1:=hs.cl;have h2:=hs.nl;have h3:=hs.il;have h4:=hs.sl;have h5:=hs.pl;refine hEh [] func77 f77.eq_1 ?_;refine wf5 [1,2,3,19,20] (fun i:Nat=>[(21,.one (.dat (cI i)))]) (fun i=>[.box ((shtC s).map .dat) (some 31),.box [.dat (.raw (.map none)),.dat (.raw (.map none)),.dat (.raw (.map none))] (some 145),mS ((s.cells.take i).foldl (fun m x=>updF m x.name x.unit) ([]:Ms)),mS [],mN [],itB 2 3 4])
  (fun i=>i<=s.cells.length) (fun i=>s.cells.length-i) 0 (Nat.zero_le _) ?_ ?_
 . refine hg ?_;exact sS
 intro i hi;refine hg ?_;refine y8g (fun hlt _=>?_) (fun hlt _=>?_)
 . have hlt':i<s.cells.length:=by omega
   have hU0:=zlr (f:=fun m x=>updF m x.name x.unit) (c:=([]:Ms)) hlt';generalize (s.cells.take i).foldl (fun m x=>updF m x.name x.unit) ([]:Ms)=d0 at *;refine hg ?_;refine ⟨i+1,by omega,by omega,?_⟩;rw [hU0];refine StH.cutN [1,2,3,19,20,21] 6 rfl ?_ ?_
   . refine hg ?_;exact trivial
   exact sS
 rw [List.take_of_length_le (show s.cells.length<=i by omega)];rw [show s.cells.foldl (fun m x=>updF m x.name x.unit) ([]:Ms)=vp1 s from rfl];refine hg ?_;refine wf5 [1,2,3,33,34] (fun i:Nat=>[(35,.one (.dat (cI i)))]) (fun i=>[.box ((shtC s).map .dat) (some 31),.box [.dat (.raw (.map none)),.dat (.raw (.map none)),.dat (.raw (.map none))] (some 145),mS (vp1 s),mS ((s.inputs.take i).foldl (fun m x=>updF m x.name x.kind) ([]:Ms)),mN ((s.inputs.take i).foldl (fun m x=>updG tgE m (0,x.name) ()) ([]:Mn)),itB 2 3 4])
  (fun i=>i<=s.inputs.length) (fun i=>s.inputs.length-i) 0 (Nat.zero_le _) ?_ ?_
 . refine hg ?_;exact sS
 intro i hi;refine hg ?_;refine y8g (fun hlt _=>?_) (fun hlt _=>?_)
 . have hlt':i<s.inputs.length:=by omega
   have hU0:=zlr (f:=fun m x=>updF m x.name x.kind) (c:=([]:Ms)) hlt';have hU1:=zlr (f:=fun m x=>updG tgE m (0,x.name) ()) (c:=([]:Mn)) hlt';generalize (s.inputs.take i).foldl (fun m x=>updF m x.name x.kind) ([]:Ms)=d0 at *;generalize (s.inputs.take i).foldl (fun m x=>updG tgE m (0,x.name) ()) ([]:Mn)=d1 at *;refine hg ?_;refine ⟨i+1,by omega,by omega,?_⟩;rw [hU0];rw [hU1];refine StH.cutN [1,2,3,33,34,35] 6 rfl ?_ ?_
   . refine hg ?_;exact trivial
   exact sS
 rw [List.take_of_length_le (show s.inputs.length<=i by omega)];rw [show s.inputs.foldl (fun m x=>updF m x.name x.kind) ([]:Ms)=wnc s from rfl];rw [show s.inputs.foldl (fun m x=>updG tgE m (0,x.name) ()) ([]:Mn)=nm1 s from rfl];refine hg ?_;refine wf5 [1,2,3,52,53] (fun i:Nat=>[(54,.one (.dat (cI i)))]) (fun i=>[.box ((shtC s).map .dat) (some 31),.box [.dat (.raw (.map none)),.dat (.raw (.map none)),.dat (.raw (.map none))] (some 145),mS (vp1 s),mS (wnc s),mN ((s.imports.take i).foldl (fun m x=>updG tgE m (1,x.name) ()) (nm1 s)),itB 2 3 4])
  (fun i=>i<=s.imports.length) (fun i=>s.imports.length-i) 0 (Nat.zero_le _) ?_ ?_
 . refine hg ?_;exact sS
 intro i hi;refine hg ?_;refine y8g (fun hlt _=>?_) (fun hlt _=>?_)
 . have hlt':i<s.imports.length:=by omega
   have hU0:=zlr (f:=fun m x=>updG tgE m (1,x.name) ()) (c:=(nm1 s)) hlt';generalize (s.imports.take i).foldl (fun m x=>updG tgE m (1,x.name) ()) (nm1 s)=d0 at *;refine hg ?_;refine ⟨i+1,by omega,by omega,?_⟩;rw [hU0];refine StH.cutN [1,2,3,52,53,54] 6 rfl ?_ ?_
   . refine hg ?_;exact trivial
   exact sS
 rw [List.take_of_length_le (show s.imports.length<=i by omega)];rw [show s.imports.foldl (fun m x=>updG tgE m (1,x.name) ()) (nm1 s)=nm2 s from rfl];refine hg ?_;refine wf5 [1,2,3,65,66] (fun i:Nat=>[(67,.one (.dat (cI i)))]) (fun i=>[.box ((shtC s).map .dat) (some 31),.box [.dat (.raw (.map none)),.dat (.raw (.map none)),.dat (.raw (.map none))] (some 145),mS (vp1 s),mS (wnc s),mN ((s.stores.take i).foldl (fun m x=>updG tgE (updG tgE m (2,x.name) ()) (6,x.name) ()) (nm2 s)),itB 2 3 4])
  (fun i=>i<=s.stores.length) (fun i=>s.stores.length-i) 0 (Nat.zero_le _) ?_ ?_
 . refine hg ?_;exact sS
 intro i hi;refine hg ?_;refine y8g (fun hlt _=>?_) (fun hlt _=>?_)
 . have hlt':i<s.stores.length:=by omega
   have hU0:=zlr (f:=fun m x=>updG tgE (updG tgE m (2,x.name) ()) (6,x.name) ()) (c:=(nm2 s)) hlt';generalize (s.stores.take i).foldl (fun m x=>updG tgE (updG tgE m (2,x.name) ()) (6,x.name) ()) (nm2 s)=d0 at *;refine hg ?_;refine hI ?_;refine ⟨i+1,by omega,by omega,?_⟩;rw [hU0];refine StH.cutN [1,2,3,65,66,67] 6 rfl ?_ ?_
   . refine hg ?_;exact trivial
   exact sS
 rw [List.take_of_length_le (show s.stores.length<=i by omega)];rw [show s.stores.foldl (fun m x=>updG tgE (updG tgE m (2,x.name) ()) (6,x.name) ()) (nm2 s)=nm3 s from rfl];refine hg ?_;refine wf5 [1,2,3,83,84] (fun i:Nat=>[(85,.one (.dat (cI i)))]) (fun i=>[.box ((shtC s).map .dat) (some 31),.box [.dat (.raw (.map none)),.dat (.raw (.map none)),.dat (.raw (.map none))] (some 145),mS (vp1 s),mS (wnc s),mN ((s.ports.take i).foldl (fun m x=>updG tgE m (5,x.name) ()) (nm3 s)),itB 2 3 4])
  (fun i=>i<=s.ports.length) (fun i=>s.ports.length-i) 0 (Nat.zero_le _) ?_ ?_
 . refine hg ?_;exact sS
 intro i hi;refine hg ?_;refine y8g (fun hlt _=>?_) (fun hlt _=>?_)
 . have hlt':i<s.ports.length:=by omega
   have hU0:=zlr (f:=fun m x=>updG tgE m (5,x.name) ()) (c:=(nm3 s)) hlt';generalize (s.ports.take i).foldl (fun m x=>updG tgE m (5,x.name) ()) (nm3 s)=d0 at *;refine hg ?_;refine ⟨i+1,by omega,by omega,?_⟩;rw [hU0];refine StH.cutN [1,2,3,83,84,85] 6 rfl ?_ ?_
   . refine hg ?_;exact trivial
   exact sS
 rw [List.take_of_length_le (show s.ports.length<=i by omega)];rw [show s.ports.foldl (fun m x=>updG tgE m (5,x.name) ()) (nm3 s)=ve8 s from rfl];refine hg ?_;refine StH.cutN [0] 5 rfl ?_ ?_
 . refine hg ?_;exact trivial
 exact sS
end Go.Hp.T
namespace Go.Hp
open Go Go.RowKit Go.Slot
variable {P:Program} {Γ:List (Nat×List Cell)}
variable {f:FuncId} {ηs:List SB} {res:SV}
theorem xbh.roN (φ:List Nat) {η:List SB} {args:List SV} (h:xbh Γ P f ηs args ηs res) (hn:φ.Nodup) (hb:(φ.all fun j=>Nat.blt j η.length)=true) (hp:φ.map (fun j=>η[j]?)=ηs.map (fun x=>some (rnSB (atR φ η.length) x))) :
 xbh Γ P f η (args.map (xbb (atR φ η.length))) η (rnSV (atR φ η.length) res):=by
 have hb':∀ j∈φ,j<η.length:=fun j hj=>by simpa using List.all_eq_true.1 hb j hj
 have hk:=wlp.of hp;have hc:=xbh.frame hn hb' hk (by rw [hk.1];exact Nat.le_refl _) h
 have hput:putR φ η ηs=η:=by
  apply List.ext_getElem?;intro i;by_cases hi2:i<η.length
  . by_cases hi:i∈φ
    . obtain ⟨k,hk2,rfl⟩:=List.getElem_of_mem hi
      have hkl:k<ηs.length:=by rw [hk.1];exact hk2
      have h1:=yay (ηs':=ηs) hn hb' (List.getElem?_eq_getElem hkl);rw [y2j (List.getElem?_eq_getElem hk2)] at h1;rw [h1];have h2:=congrArg (fun l=>l[k]?) hp;simp only [List.getElem?_map,List.getElem?_eq_getElem hk2,List.getElem?_eq_getElem hkl,Option.map_some] at h2;exact (Option.some.inj h2).symm
    . exact xzj hi2 hi
  . rw [List.getElem?_eq_none (by rw [ywq,hk.1];omega),List.getElem?_eq_none (by omega)]
 rw [hput] at hc;exact hc
theorem xbh.preN {ξ:List SB} {args:List SV} (h:xbh Γ P f ηs args ηs res) (hs:∀ r:Nat->Nat,(∀ i,i<ηs.length->r i=i)->ηs.map (rnSB r)=ηs) (ha:args.map (xbb (atR (List.range ηs.length) (ηs++ξ).length))=args) (hr:rnSV (atR (List.range ηs.length) (ηs++ξ).length) res=res):xbh Γ P f (ηs++ξ) args (ηs++ξ) res:=by
 have hc:=xbh.roN (List.range ηs.length) (η:=ηs++ξ) h List.nodup_range (List.all_eq_true.2 fun j hj=>by
  rw [List.mem_range] at hj
  simp only [List.length_append,Nat.blt_eq];omega) (by
  apply List.ext_getElem?;intro i;by_cases hi:i<ηs.length
  . have h1:=congrArg (fun l=>l[i]?) (hs _ (fun i hi=>w2m (N:=(ηs++ξ).length) hi));simp only [List.getElem?_map,List.getElem?_eq_getElem hi,Option.map_some,Option.some.injEq] at h1;simp only [List.getElem?_map,List.getElem?_range hi,List.getElem?_eq_getElem hi,Option.map_some,List.getElem?_append_left hi,h1]
  . simp [List.getElem?_eq_none (show ηs.length<=i by omega)];omega)
 rw [ha,hr] at hc;exact hc
end Go.Hp
namespace Go.Hp.T
open Go Go.RowKit Go.Slot Go.Hp Go.Slot.T
open Go.Proofs.Tryz
variable {α:Type} {l:List Stp} {i:Nat} {H:Mb}
attribute [local irreducible] hide RH
set_option maxRecDepth 10000
set_option maxHeartbeats 8000000
variable {Γ:List (Nat×List Cell)}
attribute [go_sem] kEq0
def zcx (s:ByteArray):Bool:=decide (dmO (vup s).1=Dm.zero)
theorem zwx (s:ByteArray) (hs:s.size<=1073741824):CallsD Γ prog 130 [.one (cS s)] (.one (cB (zcx s))):=by
 have h1:=w3y (Γ:=Γ) s hs;unfold zcx;generalize vup s=r at *;refine hE [] func130 f130.eq_1 ?_
 (with_reducible refine wdy h1 ?_)<;>refine hgS ?_
 all_goals refine lfE ?_;first | exact trivial | rfl
def zj4 (C:Ms) (w:ByteArray):ByteArray:=(v7b C w).getD ⟨#[]⟩
def badW (C:Ms) (w:ByteArray):Bool:=!zcx (zj4 C w)
abbrev wB (C I:Ms) (N:Mn):List SB:=[mS C,mS I,mN N,itB 0 1 2]
theorem vl5 (C I:Ms) (N:Mn) (w:ByteArray) (hC:∀ s u,v7b C s=some u->u.size<=1073741824):xbh Γ prog 129 (wB C I N) [.one (.dat (cS w)),.one (.ptr 3 0)] (wB C I N) (.one (.dat (cB (badW C w)))):=by
 unfold badW zj4
 cases hl:v7b C w with
 | none=>
  have h1:=zwx (Γ:=Γ) ⟨#[]⟩ (by decide);rw [Option.getD_none];generalize zcx ⟨#[]⟩=b at *;refine hEh [] func129 f129.eq_1 ?_;refine hg1 @hl ?_
  (with_reducible refine wdy h1 ?_)<;>refine hgS ?_
  exact StH.same svl (by simp [*])
 | some u=>
  have h1:=zwx (Γ:=Γ) u (hC w u hl);rw [Option.getD_some];generalize zcx u=b at *;refine hEh [] func129 f129.eq_1 ?_;refine hg1 @hl ?_
  (with_reducible refine wdy h1 ?_)<;>refine hgS ?_
  exact StH.same svl (by simp [*])
theorem v9m (C I:Ms) (N:Mn):∀ r:Nat->Nat,(∀ i,i<(wB C I N).length->r i=i)->(wB C I N).map (rnSB r)=wB C I N:=fun r hr=>by
 show [rnSB r (mS C),rnSB r (mS I),rnSB r (mN N),SB.box [.mp (r 0),.mp (r 1),.mp (r 2)] (some 145)]=_;rw [hr 0 (by show 0<4;decide),hr 1 (by show 1<4;decide),hr 2 (by show 2<4;decide),ykl,ykl,y6c]
theorem w1q (l:List ByteArray) (C I:Ms) (N:Mn) (hl:l.length<=1073741824) (hC:∀ s u,v7b C s=some u->u.size<=1073741824) :
 xbh Γ prog 166 (wB C I N++[.clo 129 [.one (.ptr 3 0)]]) [.one (.dat (.sl 1 (l.map fun s=>[cS s]))),.one (.fnr 4)] (wB C I N++[.clo 129 [.one (.ptr 3 0)]]) (.one (.dat (cI (idxF (badW C) l)))):=by
 refine hEh [] func166 f166.eq_1 ?_;refine wf5 [0,1,7] (fun i:Nat=>[(8,.one (.dat (cI i)))]) (fun _=>wB C I N++[.clo 129 [.one (.ptr 3 0)]]) (fun i=>i<=l.length/\∀ j,j<i->(badW C) (l.getD j default)=false) (fun i=>l.length-i) 0 ⟨Nat.zero_le _,fun j hj=>by omega⟩ ?_ ?_
 . refine hg ?_;exact sS
 intro i hi;obtain ⟨hi,hj⟩:=hi;refine hg ?_;refine y8g (fun hlt _=>?_) (fun hlt _=>?_)
 . have hlt':i<l.length:=by omega
   have hy:=z1y hlt';have hb:=vl5 (Γ:=Γ) C I N (l.getD i default) hC;refine hg ?_;refine zue (xbh.preN (ξ:=[.clo 129 [.one (.ptr 3 0)]]) hb (v9m C I N) rfl rfl) ?_;generalize hp:(badW C) (l.getD i default)=q at *;clear hb;refine hg ?_
   refine hF ?_ ?_<;>intros
   . rename_i hq;rw [(wu8 hi hj).2 hlt' (by rw [hp];exact hq)];exact sS
   . rename_i hq;exact ⟨i+1,⟨by omega,yas hj (by rw [hp];simpa using hq)⟩,by omega,sS⟩
 . rw [(wu8 hi hj).1 (by omega)];refine hg ?_;exact sS
theorem zuj (l:List ByteArray) (C I:Ms) (N:Mn) (hl:l.length<=1073741824) (hC:∀ s u,v7b C s=some u->u.size<=1073741824) :
 xbh Γ prog 128 (wB C I N++[.clo 129 [.one (.ptr 3 0)]]) [.one (.dat (.sl 1 (l.map fun s=>[cS s]))),.one (.fnr 4)] (wB C I N++[.clo 129 [.one (.ptr 3 0)]]) (.one (.dat (cB (l.any (badW C))))):=by
 have h:=w1q (Γ:=Γ) l C I N hl hC;refine hEh [] func128 f128.eq_1 ?_;refine zue h ?_;clear h;refine hg ?_;exact StH.same (by rw [<-vrj];exact .cons (.refl _) .nil) rfl
theorem v2u [Inhabited α] {p:α->Bool} {l:List α} (h:i<l.length) (hp:p (l.getD i default)=true):l.any p=true:=List.any_eq_true.2 ⟨_,z1y h,hp⟩
theorem yvt [Inhabited α] {p:α->Bool} {l:List α} (h:∀ j,j<l.length->p (l.getD j default)=false):l.any p=false:=by
 rw [List.any_eq_false];intro x hx;obtain ⟨j,hj,rfl⟩:=List.getElem_of_mem hx
 have:=h j hj
 rw [List.getD_eq_getElem?_getD,List.getElem?_eq_getElem hj] at this;simpa using this
def dupT (H:Mb):List Tg->Mn->Bool
 | [],_=>false
 | y::l,m=>bif (ypi tgE H y).isSome||(ypi tgE m y).isSome then true else dupT H l (updG tgE m y ())
def noMk (H:Mb) (s:ByteArray):Bool:=(ypi tgE H (1,s)).isNone
def noCl (C:Ms) (w:ByteArray):Bool:=(v7b C w).isNone
def z2w (C I:Ms) (N:Mn) (H:Mb) (kind:ByteArray) (x:Stp):Int:=
 bif x.inn.any (noMk H) then 4 else
 bif x.cells.any (noCl C) then 4 else
 bif !(seq x.name ⟨#[]⟩)&&(!decide (x.kind=7)&&(ypi tgE N (x.kind,x.name)).isNone) then 4 else
 bif decide (x.kind=0)&&!(seq (zj4 I x.name) kind)||x.cells.any (badW C) then 13 else
 bif dupT H (yr8 x) [] then 5 else 0
abbrev wrBs (C I:Ms) (N:Mn) (H:Mb):List SB:=[mS C,mS I,mN N,mK H]
theorem wsr (C I:Ms) (N:Mn) (η:List SB) (h0:η[0]? = some (mS C)) (h1:η[1]? = some (mS I)) (h2:η[2]? = some (mN N)) (h4:η[4]? = some (itB 0 1 2)) (h6:η[6]? = some (.clo 129 [.one (.ptr 4 0)])) :
 [0,1,2,4,6].map (fun j=>η[j]?)=(wB C I N++[SB.clo 129 [.one (.ptr 3 0)]]).map (fun x=>some (rnSB (atR [0,1,2,4,6] η.length) x)):=by
 show [η[0]?,η[1]?,η[2]?,η[4]?,η[6]?]=[some (rnSB _ (mS C)),some (rnSB _ (mS I)),some (rnSB _ (mN N)),some (rnSB _ (itB 0 1 2)),some (rnSB _ (.clo 129 [.one (.ptr 3 0)]))];rw [ykl,ykl,y6c,h0,h1,h2,h4,h6];rfl
theorem ym2 (C I:Ms) (N:Mn) (H:Mb) (kind:ByteArray) (x:Stp) (hx:x.Sm) (hC:∀ s u,v7b C s=some u->u.size<=1073741824) :
 xbh Γ prog 78 (wrBs C I N H) [.agg [.mp 0,.mp 1,.mp 2],.one (.dat (cS kind)),.one (.mp 3),.agg ((stpC x).map .dat)] (wrBs C I N H) (.one (.dat (cI (z2w C I N H kind x)))):=by
 have hil:=hx.il;have hcl:=hx.cl;have ht:=yfh (Γ:=Γ) x hx.il hx.ol;have hcon:=zuj (Γ:=Γ) x.cells C I N hcl hC
 have htl:(yr8 x).length<=4294967296:=by
  have:=hx.ol
  unfold yr8;rw [List.length_append,List.length_append,List.length_map,List.length_map]
  cases (decide (x.kind=0)||(decide (x.kind=1)||decide (x.kind=5)))
  . simp;omega
  . simp;omega
 clear hx;obtain ⟨k,inn,out,nm,cells,amt⟩:=x;dsimp only at *;refine hEh [(17,[.clo])] func78 f78.eq_1 ?_;refine wf5 [1,2,4,7,23,24] (fun i:Nat=>[(25,.one (.dat (cI i)))]) (fun _=>wrBs C I N H++[itB 0 1 2,.box ((stpC ⟨k,inn,out,nm,cells,amt⟩).map .dat) (some 70)])
  (fun i=>i<=inn.length/\∀ j,j<i->noMk H (inn.getD j default)=false) (fun i=>inn.length-i) 0 ⟨Nat.zero_le _,fun j hj=>by omega⟩ ?_ ?_
 . refine hg ?_;exact sS
 rintro i ⟨hi,hj⟩;refine hg ?_;refine y8g (fun hlt _=>?_) (fun hlt _=>?_)
 . have hlt':i<inn.length:=by omega
   cases hl:ypi tgE H (1,inn.getD i default) with
   | none=>
    have hm:noMk H (inn.getD i default)=true:=by unfold noMk;rw [hl];rfl
    have hw:z2w C I N H kind ⟨k,inn,out,nm,cells,amt⟩=4:=by unfold z2w;rw [v2u hlt' hm];rfl
    rw [hw];clear hcon ht hm hw;refine hg1 @hl ?_;exact StH.y4a rfl (by kernel_rfl) rfl
   | some q=>
    have hm:noMk H (inn.getD i default)=false:=by unfold noMk;rw [hl];rfl
    refine hg1 @hl ?_;exact ⟨i+1,⟨by omega,yas hj hm⟩,by omega,sS⟩
 have ha:inn.any (noMk H)=false:=yvt (fun j hjl=>hj j (by omega));clear hj hi hlt;refine hg ?_;refine wf5 [1,2,4,7,40,41] (fun i:Nat=>[(42,.one (.dat (cI i)))]) (fun _=>wrBs C I N H++[itB 0 1 2,.box ((stpC ⟨k,inn,out,nm,cells,amt⟩).map .dat) (some 70)])
  (fun i=>i<=cells.length/\∀ j,j<i->noCl C (cells.getD j default)=false) (fun i=>cells.length-i) 0 ⟨Nat.zero_le _,fun j hj=>by omega⟩ ?_ ?_
 . refine hg ?_;exact sS
 rintro i ⟨hi,hj⟩;refine hg ?_;refine y8g (fun hlt _=>?_) (fun hlt _=>?_)
 . have hlt':i<cells.length:=by omega
   cases hl:v7b C (cells.getD i default) with
   | none=>
    have hm:noCl C (cells.getD i default)=true:=by unfold noCl;rw [hl];rfl
    have hw:z2w C I N H kind ⟨k,inn,out,nm,cells,amt⟩=4:=by unfold z2w;rw [ha,v2u hlt' hm];rfl
    rw [hw];clear hcon ht hm hw;refine hg1 @hl ?_;exact StH.y4a rfl (by kernel_rfl) rfl
   | some q=>
    have hm:noCl C (cells.getD i default)=false:=by unfold noCl;rw [hl];rfl
    refine hg1 @hl ?_;exact ⟨i+1,⟨by omega,yas hj hm⟩,by omega,sS⟩
 have hb:cells.any (noCl C)=false:=yvt (fun j hjl=>hj j (by omega));clear hj hi hlt
 have hW:z2w C I N H kind ⟨k,inn,out,nm,cells,amt⟩=bif !(seq nm ⟨#[]⟩)&&(!decide (k=7)&&(ypi tgE N (k,nm)).isNone) then 4 else
  bif decide (k=0)&&!(seq (zj4 I nm) kind)||cells.any (badW C) then 13 else bif dupT H (yr8 ⟨k,inn,out,nm,cells,amt⟩) [] then 5 else 0:=by unfold z2w;rw [ha,hb];rfl
 rw [hW];clear hW ha hb;unfold zj4;generalize cells.any (badW C)=bw at *;by_cases hk:k=0
 . subst hk;generalize yr8 ⟨0,inn,out,nm,cells,amt⟩=T at *
   cases hN:ypi tgE N (0,nm)<;>cases hI:v7b I nm
   all_goals
    refine hg ?_
    repeat' ((refine hfk ?_ ?_<;>intros)<;>refine hgS ?_)
   all_goals try (exfalso;omega)
   all_goals try exact StH.y4a rfl (by kernel_rfl) (by first | (simp [*];done) | (simp only [zlf,vq5, *,cond_true,cond_false,Bool.and_false,Bool.false_and,Bool.and_true,Bool.true_and,Bool.or_false,Bool.false_or,Bool.or_true,Bool.true_or,Option.isNone_none,Option.isNone_some,Option.getD_none,Option.getD_some,Bool.not_true,Bool.not_false];done) | (simp only [zlf,vq5, *,cond_true,cond_false,Bool.and_false,Bool.false_and,Bool.and_true,Bool.true_and,Bool.or_false,Bool.false_or,Bool.or_true,Bool.true_or,Option.isNone_none,Option.isNone_some,Option.getD_none,Option.getD_some,Bool.not_true,Bool.not_false];rfl))
   all_goals
    refine zue (xbh.roN [0,1,2,4,6] hcon (by decide) rfl (wsr C I N _ rfl rfl rfl rfl rfl)) ?_;refine hg ?_
    repeat' ((first|refine hfk ?_ ?_<;>intros|with_reducible refine wdy ht ?_)<;>refine hgS ?_)
   all_goals try exact StH.y4a rfl (by kernel_rfl) (by first | (simp [*];done) | (simp only [zlf,vq5, *,cond_true,cond_false,Bool.and_false,Bool.false_and,Bool.and_true,Bool.true_and,Bool.or_false,Bool.false_or,Bool.or_true,Bool.true_or,Option.isNone_none,Option.isNone_some,Option.getD_none,Option.getD_some,Bool.not_true,Bool.not_false];done) | (simp only [zlf,vq5, *,cond_true,cond_false,Bool.and_false,Bool.false_and,Bool.and_true,Bool.true_and,Bool.or_false,Bool.false_or,Bool.or_true,Bool.true_or,Option.isNone_none,Option.isNone_some,Option.getD_none,Option.getD_some,Bool.not_true,Bool.not_false];rfl))
   all_goals
    refine wf5 [2,17,95,96] (fun p:Nat×Mn=>[(97,.one (.dat (cI p.1)))]) (fun p=>wrBs C I N H++[itB 0 1 2,.box ((stpC ⟨0,inn,out,nm,cells,amt⟩).map .dat) (some 70),.clo 129 [.one (.ptr 4 0)],mN p.2])
     (fun p=>p.1<=T.length/\dupT H T []=dupT H (T.drop p.1) p.2) (fun p=>T.length-p.1) (0,[]) ⟨Nat.zero_le _,rfl⟩ ?_ ?_
    . refine hg ?_;exact sS
    rintro ⟨i,m⟩ ⟨h1,h2⟩;dsimp only at h1 h2;refine hg ?_;refine y8g (fun hlt _=>?_) (fun hlt _=>?_)
    . have hlt':i<T.length:=by omega
      rw [xc3 hlt',dupT] at h2
      replace h2:dupT H T []=bif (ypi tgE H ((T.getD i default).1,(T.getD i default).2)).isSome||(ypi tgE m ((T.getD i default).1,(T.getD i default).2)).isSome then true else dupT H (T.drop (i+1)) (updG tgE m ((T.getD i default).1,(T.getD i default).2) ()):=h2
      cases hA:ypi tgE H ((T.getD i default).1,(T.getD i default).2)<;>cases hB:ypi tgE m ((T.getD i default).1,(T.getD i default).2)
      . rw [hA,hB] at h2;have h3:dupT H T []=dupT H (T.drop (i+1)) (updG tgE m ((T.getD i default).1,(T.getD i default).2) ()):=h2;clear h2;refine hg2 @hA @hB ?_;refine ⟨(i+1,updG tgE m ((T.getD i default).1,(T.getD i default).2) ()),⟨by dsimp only;omega,h3⟩,by dsimp only;omega,?_⟩;refine StH.cutN [2,17,95,96,97] 8 rfl ?_ ?_
        . refine hg ?_
          first | exact trivial | rfl
        exact sS
      all_goals
       have h3:dupT H T []=true:=by rw [h2,hA,hB];rfl
       clear h2;refine hg2 @hA @hB ?_;exact StH.y4a rfl (by kernel_rfl) (by first | (simp [*];done) | (simp only [zlf,vq5, *,cond_true,cond_false,Bool.and_false,Bool.false_and,Bool.and_true,Bool.true_and,Bool.or_false,Bool.false_or,Bool.or_true,Bool.true_or,Option.isNone_none,Option.isNone_some,Option.getD_none,Option.getD_some,Bool.not_true,Bool.not_false];done) | (simp only [zlf,vq5, *,cond_true,cond_false,Bool.and_false,Bool.false_and,Bool.and_true,Bool.true_and,Bool.or_false,Bool.false_or,Bool.or_true,Bool.true_or,Option.isNone_none,Option.isNone_some,Option.getD_none,Option.getD_some,Bool.not_true,Bool.not_false];rfl))
    . have h3:dupT H T []=false:=by rw [h2,List.drop_eq_nil_of_le (by omega)];rfl
      clear h2;refine hg ?_;exact StH.y4a rfl (by kernel_rfl) (by first | (simp [*];done) | (simp only [*,cond_false,Bool.and_true,Bool.or_false,Option.isNone_none,Bool.not_true];rfl))
 . have hk0:=decide_eq_false hk;generalize yr8 ⟨k,inn,out,nm,cells,amt⟩=T at *
   cases hN:ypi tgE N (k,nm)<;>cases hI:v7b I nm
   all_goals
    refine hg ?_
    repeat' ((refine hfk ?_ ?_<;>intros)<;>refine hgS ?_)
   all_goals try (exfalso;omega)
   all_goals try exact StH.y4a rfl (by kernel_rfl) (by first | (simp [*];done) | (simp only [zlf,vq5, *,cond_true,cond_false,Bool.and_false,Bool.false_and,Bool.and_true,Bool.true_and,Bool.or_false,Bool.false_or,Bool.or_true,Bool.true_or,Option.isNone_none,Option.isNone_some,Option.getD_none,Option.getD_some,Bool.not_true,Bool.not_false];done) | (simp only [zlf,vq5, *,cond_true,cond_false,Bool.and_false,Bool.false_and,Bool.and_true,Bool.true_and,Bool.or_false,Bool.false_or,Bool.or_true,Bool.true_or,Option.isNone_none,Option.isNone_some,Option.getD_none,Option.getD_some,Bool.not_true,Bool.not_false];rfl))
   all_goals
    refine zue (xbh.roN [0,1,2,4,6] hcon (by decide) rfl (wsr C I N _ rfl rfl rfl rfl rfl)) ?_;refine hg ?_
    repeat' ((first|refine hfk ?_ ?_<;>intros|with_reducible refine wdy ht ?_)<;>refine hgS ?_)
   all_goals try exact StH.y4a rfl (by kernel_rfl) (by first | (simp [*];done) | (simp only [zlf,vq5, *,cond_true,cond_false,Bool.and_false,Bool.false_and,Bool.and_true,Bool.true_and,Bool.or_false,Bool.false_or,Bool.or_true,Bool.true_or,Option.isNone_none,Option.isNone_some,Option.getD_none,Option.getD_some,Bool.not_true,Bool.not_false];done) | (simp only [zlf,vq5, *,cond_true,cond_false,Bool.and_false,Bool.false_and,Bool.and_true,Bool.true_and,Bool.or_false,Bool.false_or,Bool.or_true,Bool.true_or,Option.isNone_none,Option.isNone_some,Option.getD_none,Option.getD_some,Bool.not_true,Bool.not_false];rfl))
   all_goals
    refine wf5 [2,17,95,96] (fun p:Nat×Mn=>[(97,.one (.dat (cI p.1)))]) (fun p=>wrBs C I N H++[itB 0 1 2,.box ((stpC ⟨k,inn,out,nm,cells,amt⟩).map .dat) (some 70),.clo 129 [.one (.ptr 4 0)],mN p.2])
     (fun p=>p.1<=T.length/\dupT H T []=dupT H (T.drop p.1) p.2) (fun p=>T.length-p.1) (0,[]) ⟨Nat.zero_le _,rfl⟩ ?_ ?_
    . refine hg ?_;exact sS
    rintro ⟨i,m⟩ ⟨h1,h2⟩;dsimp only at h1 h2;refine hg ?_;refine y8g (fun hlt _=>?_) (fun hlt _=>?_)
    . have hlt':i<T.length:=by omega
      rw [xc3 hlt',dupT] at h2
      replace h2:dupT H T []=bif (ypi tgE H ((T.getD i default).1,(T.getD i default).2)).isSome||(ypi tgE m ((T.getD i default).1,(T.getD i default).2)).isSome then true else dupT H (T.drop (i+1)) (updG tgE m ((T.getD i default).1,(T.getD i default).2) ()):=h2
      cases hA:ypi tgE H ((T.getD i default).1,(T.getD i default).2)<;>cases hB:ypi tgE m ((T.getD i default).1,(T.getD i default).2)
      . rw [hA,hB] at h2;have h3:dupT H T []=dupT H (T.drop (i+1)) (updG tgE m ((T.getD i default).1,(T.getD i default).2) ()):=h2;clear h2;refine hg2 @hA @hB ?_;refine ⟨(i+1,updG tgE m ((T.getD i default).1,(T.getD i default).2) ()),⟨by dsimp only;omega,h3⟩,by dsimp only;omega,?_⟩;refine StH.cutN [2,17,95,96,97] 8 rfl ?_ ?_
        . refine hg ?_
          first | exact trivial | rfl
        exact sS
      all_goals
       have h3:dupT H T []=true:=by rw [h2,hA,hB];rfl
       clear h2;refine hg2 @hA @hB ?_;exact StH.y4a rfl (by kernel_rfl) (by first | (simp [*];done) | (simp only [zlf,vq5, *,cond_true,cond_false,Bool.and_false,Bool.false_and,Bool.and_true,Bool.true_and,Bool.or_false,Bool.false_or,Bool.or_true,Bool.true_or,Option.isNone_none,Option.isNone_some,Option.getD_none,Option.getD_some,Bool.not_true,Bool.not_false];done) | (simp only [zlf,vq5, *,cond_true,cond_false,Bool.and_false,Bool.false_and,Bool.and_true,Bool.true_and,Bool.or_false,Bool.false_or,Bool.or_true,Bool.true_or,Option.isNone_none,Option.isNone_some,Option.getD_none,Option.getD_some,Bool.not_true,Bool.not_false];rfl))
    . have h3:dupT H T []=false:=by rw [h2,List.drop_eq_nil_of_le (by omega)];rfl
      clear h2;refine hg ?_;exact StH.y4a rfl (by kernel_rfl) (by first | (simp [*];done) | (simp only [*,cond_false,Bool.and_true,Bool.or_false,Option.isNone_none];rfl))
def zfl (H:Mb) (c:Int) (s:ByteArray):Bool:=(ypi tgE H (2+c,s)).isNone
abbrev g1B (H:Mb):List SB:=[mK H,.box [.mp 0] (some 148)]
theorem zuk (H:Mb) (c:Int) (s:ByteArray) (hc:c=0\/c=1\/c=5):xbh Γ prog 131 (g1B H) [.one (.dat (cI c)),.one (.dat (cS s)),.one (.ptr 1 0)] (g1B H) (.one (.dat (cB (zfl H c s)))):=by
 unfold zfl
 obtain rfl | rfl | rfl:=hc
 . show xbh _ _ _ _ _ _ (.one (.dat (cB (ypi tgE H (2,s)).isNone)))
   cases hl:ypi tgE H (2,s)
   all_goals
    refine hEh [] func131 f131.eq_1 ?_;refine hg1 @hl ?_;exact sS
 . show xbh _ _ _ _ _ _ (.one (.dat (cB (ypi tgE H (3,s)).isNone)))
   cases hl:ypi tgE H (3,s)
   all_goals
    refine hEh [] func131 f131.eq_1 ?_;refine hg1 @hl ?_;exact sS
 . show xbh _ _ _ _ _ _ (.one (.dat (cB (ypi tgE H (7,s)).isNone)))
   cases hl:ypi tgE H (7,s)
   all_goals
    refine hEh [] func131 f131.eq_1 ?_;refine hg1 @hl ?_;exact sS
abbrev g2B (H:Mb) (x:Rcp):List SB:=[mK H,.box [.mp 0] (some 148),.box ((rcpC x).map .dat) (some 67),.clo 131 [.one (.ptr 1 0)],.box [.fnr 3] (some 220)]
theorem xdk (H:Mb) (x:Rcp):∀ r:Nat->Nat,(∀ i,i<(g2B H x).length->r i=i)->(g2B H x).map (rnSB r)=g2B H x:=fun r hr=>by
 show [rnSB r (mK H),SB.box [.mp (r 0)] _,_,SB.clo _ [SV.one (.ptr (r 1) 0)],SB.box [.fnr (r 3)] _]=_;rw [hr 0 (by show 0<5;decide),hr 1 (by show 1<5;decide),hr 3 (by show 3<5;decide),yu3];rfl
theorem x6e (H:Mb):∀ r:Nat->Nat,(∀ i,i<(g1B H).length->r i=i)->(g1B H).map (rnSB r)=g1B H:=fun r hr=>by
 show [rnSB r (mK H),SB.box [.mp (r 0)] _]=_;rw [hr 0 (by show 0<2;decide),yu3]
def gapI (H:Mb) (k:ByteArray) (y:Inp):Bool:=seq y.kind k&&zfl H 0 y.name
def gapM (H:Mb) (y:Imp):Bool:=zfl H 1 y.name
def gapP (H:Mb) (y:Por):Bool:=zfl H 5 y.name
theorem w1y (H:Mb) (x:Rcp) (y:Inp):xbh Γ prog 133 (g2B H x) [.agg ((inpC y).map .dat),.one (.ptr 2 0),.one (.ptr 4 0)] (g2B H x) (.one (.dat (cB (gapI H x.kind y)))):=by
 unfold gapI;have h1:=zuk (Γ:=Γ) H 0 y.name (.inl rfl);generalize zfl H 0 y.name=q at *;refine hEh [] func133 f133.eq_1 ?_
 refine hF ?_ ?_<;>intros
 . refine zue (xbh.preN h1 (x6e H) rfl rfl) ?_;refine hg ?_;exact StH.y4a rfl (by kernel_rfl) (by simp [*])
 . exact StH.y4a rfl (by kernel_rfl) (by simp [*])
theorem vf4 (H:Mb) (x:Rcp) (y:Imp):xbh Γ prog 135 (g2B H x) [.agg ((impC y).map .dat),.one (.ptr 4 0)] (g2B H x) (.one (.dat (cB (gapM H y)))):=by
 unfold gapM;have h1:=zuk (Γ:=Γ) H 1 y.name (.inr (.inl rfl));generalize zfl H 1 y.name=q at *;refine hEh [] func135 f135.eq_1 ?_;refine zue (xbh.preN h1 (x6e H) rfl rfl) ?_;refine hg ?_;exact StH.y4a rfl (by kernel_rfl) rfl
theorem yem (H:Mb) (x:Rcp) (y:Por):xbh Γ prog 137 (g2B H x) [.agg ((porC y).map .dat),.one (.ptr 4 0)] (g2B H x) (.one (.dat (cB (gapP H y)))):=by
 unfold gapP;have h1:=zuk (Γ:=Γ) H 5 y.name (.inr (.inr rfl));generalize zfl H 5 y.name=q at *;refine hEh [] func137 f137.eq_1 ?_;refine zue (xbh.preN h1 (x6e H) rfl rfl) ?_;refine hg ?_;exact StH.y4a rfl (by kernel_rfl) rfl
theorem vd2 (l:List Inp) (H:Mb) (x:Rcp) (hl:l.length<=1073741824) :
 xbh Γ prog 119 (g2B H x++[.clo 133 [.one (.ptr 2 0),.one (.ptr 4 0)]]) [.one (.dat (.sl 3 (l.map Inp.C))),.one (.fnr 5)] (g2B H x++[.clo 133 [.one (.ptr 2 0),.one (.ptr 4 0)]]) (.one (.dat (cI (idxF (gapI H x.kind) l)))):=by
 refine hEh [] func119 f119.eq_1 ?_;refine wf5 [0,1,7] (fun i:Nat=>[(8,.one (.dat (cI i)))]) (fun _=>g2B H x++[.clo 133 [.one (.ptr 2 0),.one (.ptr 4 0)]]) (fun i=>i<=l.length/\∀ j,j<i->(gapI H x.kind) (l.getD j default)=false) (fun i=>l.length-i) 0 ⟨Nat.zero_le _,fun j hj=>by omega⟩ ?_ ?_
 . refine hg ?_;exact sS
 intro i hi;obtain ⟨hi,hj⟩:=hi;refine hg ?_;refine y8g (fun hlt _=>?_) (fun hlt _=>?_)
 . have hlt':i<l.length:=by omega
   have hy:=z1y hlt';have hb:=w1y (Γ:=Γ) H x (l.getD i default);refine hg ?_;refine zue (xbh.preN (ξ:=[.clo 133 [.one (.ptr 2 0),.one (.ptr 4 0)]]) hb (xdk H x) rfl rfl) ?_;generalize hp:(gapI H x.kind) (l.getD i default)=q at *;clear hb;refine hg ?_
   refine hF ?_ ?_<;>intros
   . rename_i hq;rw [(wu8 hi hj).2 hlt' (by rw [hp];exact hq)];exact sS
   . rename_i hq;exact ⟨i+1,⟨by omega,yas hj (by rw [hp];simpa using hq)⟩,by omega,sS⟩
 . rw [(wu8 hi hj).1 (by omega)];refine hg ?_;exact sS
theorem v0m (l:List Inp) (H:Mb) (x:Rcp) (hl:l.length<=1073741824) :
 xbh Γ prog 132 (g2B H x++[.clo 133 [.one (.ptr 2 0),.one (.ptr 4 0)]]) [.one (.dat (.sl 3 (l.map Inp.C))),.one (.fnr 5)] (g2B H x++[.clo 133 [.one (.ptr 2 0),.one (.ptr 4 0)]]) (.one (.dat (cB (l.any (gapI H x.kind))))):=by
 have h:=vd2 (Γ:=Γ) l H x hl;refine hEh [] func132 f132.eq_1 ?_;refine zue h ?_;clear h;refine hg ?_;exact StH.same (by rw [<-vrj];exact .cons (.refl _) .nil) rfl
theorem zwo (H:Mb) (x:Rcp) (η:List SB) (h0:η[0]? = some (mK H)) (h1:η[3]? = some (.box [.mp 0] (some 148))) (h2:η[2]? = some (.box ((rcpC x).map .dat) (some 67))) (h3:η[4]? = some (.clo 131 [.one (.ptr 3 0)])) (h4:η[5]? = some (.box [.fnr 4] (some 220))) (h5:η[6]? = some (.clo 133 [.one (.ptr 2 0),.one (.ptr 5 0)])) :
 [0,3,2,4,5,6].map (fun j=>η[j]?)=(g2B H x++[SB.clo 133 [.one (.ptr 2 0),.one (.ptr 4 0)]]).map (fun y=>some (rnSB (atR [0,3,2,4,5,6] η.length) y)):=by
 show [η[0]?,η[3]?,η[2]?,η[4]?,η[5]?,η[6]?]=[some (rnSB _ (mK H)),_,_,_,_,_];rw [yu3,h0,h1,h2,h3,h4,h5];rfl
theorem ytg (l:List Imp) (H:Mb) (x:Rcp) (hl:l.length<=1073741824) :
 xbh Γ prog 121 (g2B H x++[.clo 135 [.one (.ptr 4 0)]]) [.one (.dat (.sl 6 (l.map Imp.C))),.one (.fnr 5)] (g2B H x++[.clo 135 [.one (.ptr 4 0)]]) (.one (.dat (cI (idxF (gapM H) l)))):=by
 refine hEh [] func121 f121.eq_1 ?_;refine wf5 [0,1,7] (fun i:Nat=>[(8,.one (.dat (cI i)))]) (fun _=>g2B H x++[.clo 135 [.one (.ptr 4 0)]]) (fun i=>i<=l.length/\∀ j,j<i->(gapM H) (l.getD j default)=false) (fun i=>l.length-i) 0 ⟨Nat.zero_le _,fun j hj=>by omega⟩ ?_ ?_
 . refine hg ?_;exact sS
 intro i hi;obtain ⟨hi,hj⟩:=hi;refine hg ?_;refine y8g (fun hlt _=>?_) (fun hlt _=>?_)
 . have hlt':i<l.length:=by omega
   have hy:=z1y hlt';have hb:=vf4 (Γ:=Γ) H x (l.getD i default);refine hg ?_;refine zue (xbh.preN (ξ:=[.clo 135 [.one (.ptr 4 0)]]) hb (xdk H x) rfl rfl) ?_;generalize hp:(gapM H) (l.getD i default)=q at *;clear hb;refine hg ?_
   refine hF ?_ ?_<;>intros
   . rename_i hq;rw [(wu8 hi hj).2 hlt' (by rw [hp];exact hq)];exact sS
   . rename_i hq;exact ⟨i+1,⟨by omega,yas hj (by rw [hp];simpa using hq)⟩,by omega,sS⟩
 . rw [(wu8 hi hj).1 (by omega)];refine hg ?_;exact sS
theorem zkm (l:List Imp) (H:Mb) (x:Rcp) (hl:l.length<=1073741824) :
 xbh Γ prog 134 (g2B H x++[.clo 135 [.one (.ptr 4 0)]]) [.one (.dat (.sl 6 (l.map Imp.C))),.one (.fnr 5)] (g2B H x++[.clo 135 [.one (.ptr 4 0)]]) (.one (.dat (cB (l.any (gapM H))))):=by
 have h:=ytg (Γ:=Γ) l H x hl;refine hEh [] func134 f134.eq_1 ?_;refine zue h ?_;clear h;refine hg ?_;exact StH.same (by rw [<-vrj];exact .cons (.refl _) .nil) rfl
theorem yu9 (H:Mb) (x:Rcp) (η:List SB) (h0:η[0]? = some (mK H)) (h1:η[3]? = some (.box [.mp 0] (some 148))) (h2:η[2]? = some (.box ((rcpC x).map .dat) (some 67))) (h3:η[4]? = some (.clo 131 [.one (.ptr 3 0)])) (h4:η[5]? = some (.box [.fnr 4] (some 220))) (h5:η[7]? = some (.clo 135 [.one (.ptr 5 0)])) :
 [0,3,2,4,5,7].map (fun j=>η[j]?)=(g2B H x++[SB.clo 135 [.one (.ptr 4 0)]]).map (fun y=>some (rnSB (atR [0,3,2,4,5,7] η.length) y)):=by
 show [η[0]?,η[3]?,η[2]?,η[4]?,η[5]?,η[7]?]=[some (rnSB _ (mK H)),_,_,_,_,_];rw [yu3,h0,h1,h2,h3,h4,h5];rfl
theorem x4g (l:List Por) (H:Mb) (x:Rcp) (hl:l.length<=1073741824) :
 xbh Γ prog 126 (g2B H x++[.clo 137 [.one (.ptr 4 0)]]) [.one (.dat (.sl 3 (l.map Por.C))),.one (.fnr 5)] (g2B H x++[.clo 137 [.one (.ptr 4 0)]]) (.one (.dat (cI (idxF (gapP H) l)))):=by
 refine hEh [] func126 f126.eq_1 ?_;refine wf5 [0,1,7] (fun i:Nat=>[(8,.one (.dat (cI i)))]) (fun _=>g2B H x++[.clo 137 [.one (.ptr 4 0)]]) (fun i=>i<=l.length/\∀ j,j<i->(gapP H) (l.getD j default)=false) (fun i=>l.length-i) 0 ⟨Nat.zero_le _,fun j hj=>by omega⟩ ?_ ?_
 . refine hg ?_;exact sS
 intro i hi;obtain ⟨hi,hj⟩:=hi;refine hg ?_;refine y8g (fun hlt _=>?_) (fun hlt _=>?_)
 . have hlt':i<l.length:=by omega
   have hy:=z1y hlt';have hb:=yem (Γ:=Γ) H x (l.getD i default);refine hg ?_;refine zue (xbh.preN (ξ:=[.clo 137 [.one (.ptr 4 0)]]) hb (xdk H x) rfl rfl) ?_;generalize hp:(gapP H) (l.getD i default)=q at *;clear hb;refine hg ?_
   refine hF ?_ ?_<;>intros
   . rename_i hq;rw [(wu8 hi hj).2 hlt' (by rw [hp];exact hq)];exact sS
   . rename_i hq;exact ⟨i+1,⟨by omega,yas hj (by rw [hp];simpa using hq)⟩,by omega,sS⟩
 . rw [(wu8 hi hj).1 (by omega)];refine hg ?_;exact sS
theorem xzf (l:List Por) (H:Mb) (x:Rcp) (hl:l.length<=1073741824) :
 xbh Γ prog 136 (g2B H x++[.clo 137 [.one (.ptr 4 0)]]) [.one (.dat (.sl 3 (l.map Por.C))),.one (.fnr 5)] (g2B H x++[.clo 137 [.one (.ptr 4 0)]]) (.one (.dat (cB (l.any (gapP H))))):=by
 have h:=x4g (Γ:=Γ) l H x hl;refine hEh [] func136 f136.eq_1 ?_;refine zue h ?_;clear h;refine hg ?_;exact StH.same (by rw [<-vrj];exact .cons (.refl _) .nil) rfl
theorem v5f (H:Mb) (x:Rcp) (η:List SB) (h0:η[0]? = some (mK H)) (h1:η[3]? = some (.box [.mp 0] (some 148))) (h2:η[2]? = some (.box ((rcpC x).map .dat) (some 67))) (h3:η[4]? = some (.clo 131 [.one (.ptr 3 0)])) (h4:η[5]? = some (.box [.fnr 4] (some 220))) (h5:η[8]? = some (.clo 137 [.one (.ptr 5 0)])) :
 [0,3,2,4,5,8].map (fun j=>η[j]?)=(g2B H x++[SB.clo 137 [.one (.ptr 4 0)]]).map (fun y=>some (rnSB (atR [0,3,2,4,5,8] η.length) y)):=by
 show [η[0]?,η[3]?,η[2]?,η[4]?,η[5]?,η[8]?]=[some (rnSB _ (mK H)),_,_,_,_,_];rw [yu3,h0,h1,h2,h3,h4,h5];rfl
def vgq (H:Mb) (p:ByteArray):Bool:=(ypi tgE H (0,p)).isNone
def xdl (H:Mb) (y:Stp):Bool:=y.out.any (vgq H)
def wsq (H:Mb) (l:List Stp):Option Nat:=(List.range l.length).find? fun i=>xdl H (l.getD i default)
def gapR (s:Sht) (x:Rcp) (H:Mb):Int×Bool:=match wsq H x.steps with
 | some i=>(i,true)
 | none=>(-1,s.inputs.any (gapI H x.kind)||s.imports.any (gapM H)||s.ports.any (gapP H))
theorem zj2 (hi:i<l.length) (hj:∀ j,j<i->xdl H (l.getD j default)=false) (h:xdl H (l.getD i default)=true):wsq H l=some i:=by
 unfold wsq;rw [List.find?_range_eq_some];exact ⟨h,by simpa using hi,fun j hji=>by rw [hj j hji];rfl⟩
theorem wqm (hj:∀ j,j<l.length->xdl H (l.getD j default)=false):wsq H l=none:=by
 unfold wsq;rw [List.find?_eq_none];intro j hj';rw [hj j (List.mem_range.1 hj')];simp
abbrev ztd (H:Mb) (s:Sht) (x:Rcp):List SB:=[mK H,.box ((shtC s).map .dat) (some 31),.box ((rcpC x).map .dat) (some 67),.box [.mp 0] (some 148)]
theorem xgu (s:Sht) (x:Rcp) (H:Mb) (h1:s.inputs.length<=1073741824) (h2:s.imports.length<=1073741824) (h3:s.ports.length<=1073741824) (h4:x.steps.length<=1073741824) (h5:∀ y∈x.steps,y.out.length<=1073741824) :
 xbh Γ prog 81 [mK H] [.agg ((shtC s).map .dat),.agg ((rcpC x).map .dat),.one (.mp 0)] [mK H] (.tup [.one (.dat (cI (gapR s x H).1)),.one (.dat (cB (gapR s x H).2))]):=by
 have c1:=v0m (Γ:=Γ) s.inputs H x h1;have c2:=zkm (Γ:=Γ) s.imports H x h2;have c3:=xzf (Γ:=Γ) s.ports H x h3;refine hEh [(12,[.clo]),(13,[.clo]),(14,[.clo]),(15,[.clo])] func81 f81.eq_1 ?_;refine wf5 [3,4,5,17,18] (fun i:Nat=>[(19,.one (.dat (cI i)))]) (fun _=>ztd H s x)
  (fun i=>i<=x.steps.length/\∀ j,j<i->xdl H (x.steps.getD j default)=false) (fun i=>x.steps.length-i) 0 ⟨Nat.zero_le _,fun j hj=>by omega⟩ ?_ ?_
 . refine hg ?_;exact sS
 rintro i ⟨hi,hj⟩;refine hg ?_;refine y8g (fun hlt _=>?_) (fun hlt _=>?_)
 . have hlt':i<x.steps.length:=by omega
   have hy:=h5 _ (z1y hlt');refine hg ?_;refine wf5 [3,4,5,8,17,18,19,25,26] (fun k:Nat=>[(27,.one (.dat (cI k)))]) (fun _=>ztd H s x++[.box ((stpC (x.steps.getD i default)).map .dat) (some 70)])
    (fun k=>k<=(x.steps.getD i default).out.length/\∀ j,j<k->vgq H ((x.steps.getD i default).out.getD j default)=false) (fun k=>(x.steps.getD i default).out.length-k) 0 ⟨Nat.zero_le _,fun j hj=>by omega⟩ ?_ ?_
   . refine hg ?_;exact sS
   rintro k ⟨hk,hkj⟩;refine hg ?_;refine y8g (fun hlt2 _=>?_) (fun hlt2 _=>?_)
   . have hlt3:k<(x.steps.getD i default).out.length:=by omega
     cases hl:ypi tgE H (0,(x.steps.getD i default).out.getD k default) with
     | none=>
      have hm:vgq H ((x.steps.getD i default).out.getD k default)=true:=by unfold vgq;rw [hl];rfl
      have hu:wsq H x.steps=some i:=zj2 hlt' hj (v2u hlt3 hm);unfold gapR;rw [hu];clear c1 c2 c3 hm hu hj hkj;refine hg1 @hl ?_;exact StH.y4a rfl (by kernel_rfl) rfl
     | some q=>
      have hm:vgq H ((x.steps.getD i default).out.getD k default)=false:=by unfold vgq;rw [hl];rfl
      refine hg1 @hl ?_;exact ⟨k+1,⟨by omega,yas hkj hm⟩,by omega,sS⟩
   . have hm:xdl H (x.steps.getD i default)=false:=yvt (fun j hjl=>hkj j (by omega));refine hg ?_;refine ⟨i+1,⟨by omega,yas hj hm⟩,by omega,?_⟩;refine StH.cutN [3,4,5,17,18,19] 4 rfl ?_ ?_
     . refine hg ?_
       first | exact trivial | rfl
     exact sS
 have hu:wsq H x.steps=none:=wqm (fun j hjl=>hj j (by omega));unfold gapR;rw [hu];clear hu hj;dsimp only;generalize s.inputs.any (gapI H x.kind)=b1 at *;generalize s.imports.any (gapM H)=b2 at *;generalize s.ports.any (gapP H)=b3 at *;refine hg ?_;refine zue (xbh.roN [0,3,2,4,5,6] c1 (by decide) rfl (zwo H x _ rfl rfl rfl rfl rfl rfl)) ?_;refine hg ?_
 refine hF ?_ ?_<;>intros
 all_goals try (refine zue (xbh.roN [0,3,2,4,5,7] c2 (by decide) rfl (yu9 H x _ rfl rfl rfl rfl rfl rfl)) ?_)
 all_goals
  refine hg ?_
  repeat' (refine hF ?_ ?_<;>intros)
 . refine zue (xbh.roN [0,3,2,4,5,8] c3 (by decide) rfl (v5f H x _ rfl rfl rfl rfl rfl rfl)) ?_;refine hg ?_;exact StH.y4a rfl (by kernel_rfl) (by simp [*])
 . exact StH.y4a rfl (by kernel_rfl) (by simp [*])
 . exact StH.y4a rfl (by kernel_rfl) (by simp [*])
end Go.Hp.T
