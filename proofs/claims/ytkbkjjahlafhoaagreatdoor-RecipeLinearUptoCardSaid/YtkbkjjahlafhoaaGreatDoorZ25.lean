/- The proof, part Z25: Pu, Pv, Pw, Iq, Pq, Px, Py, Lg. -/
import Derived.Test.YtkbkjjahlafhoaaGreatDoorZ20
import Derived.Test.YtkbkjjahlafhoaaGreatDoorZ15
import Derived.Test.YtkbkjjahlafhoaaGreatDoorZ24
import Derived.Test.YtkbkjjahlafhoaaGreatDoorZ11
import Derived.Test.YtkbkjjahlafhoaaGreatDoorZ14
import Derived.Test.YtkbkjjahlafhoaaGreatDoorZ19
import Derived.Defers
import Derived.Recover
import Derived.Tactics
import Derived.Tactics2
import Derived.Laws.Pointers
namespace Go.Hp
open Go Go.RowKit Go.Slot
variable {P:Program} {Γ:List (Nat×List Cell)}
theorem HRL.setF {η:List SB} {ρ:Nat->Value} {M:Nat->Nat->Prop} {w:World} {h h':HC} (H:∀ v,HRd η ρ M w v h->HRd η ρ M w v h'):∀{vs:List Value} {hs:List HC} (f:Nat),HRL η ρ M w vs hs->hs[f]? = some h->HRL η ρ M w vs (hs.set f h')
 | [],[],_,_,hf=>by simp at hf
 | v::vs,x::hs,0,hr,hf=>by
  simp at hf;subst hf;exact ⟨H v hr.1,hr.2⟩
 | v::vs,x::hs,f+1,hr,hf=>⟨hr.1,HRL.setF H f hr.2 (by simpa using hf)⟩
theorem StH.vog {e:List SB} {J:List SV} {η:List SB} (b f:Nat) {hs:List HC} {T':Option TypeId} {c0 c:Cell} {es:Nat} {T:Option TypeId} (hb:η[b]? = some (.box hs T')) (hf:hs[f]? = some (.dat c0)) (hz:isZc c0=true) (hu:c.uni) (hc:c.cnt=0) :
 StH Γ e J η J ((η++[SB.arr c 0 T]).set b (.box (hs.set f (.sl η.length es 0 0)) T')):=fun E ρ a w _ hR=>by
 have h1:=hR.go (Went.extend hR.inv 1)
 have hfr:(η++[SB.fresh])[η.length]? = some .fresh:=by simp
 have hw:=Went.new h1.inv (xs8 w) hfr (v:=.pointer none) (x:=.arr c 0 T) (by simp) (fun _ hr=>absurd rfl hr) (fun m=>⟨⟨hu,Nat.zero_le _⟩,.inl ⟨hc,rfl⟩⟩);have h2:=h1.go hw;rw [show (η++List.replicate 1 SB.fresh).set η.length (.arr c 0 T)=η++[.arr c 0 T] by simp] at h2;have hlt:b<η.length:=(List.getElem?_eq_some_iff.1 hb).1
 have hb2:(η++[SB.arr c 0 T])[b]? = some (.box hs T'):=by rw [List.getElem?_append_left hlt];exact hb
 have hblk:=h2.inv.blk b _ hb2;refine ⟨upd ρ η.length (.pointer none),h2.go (Went.less h2.inv hb2 (by simp) (fun _=>rfl) (fun o h=>h) (fun m=>?_))⟩;obtain ⟨bb,vs,T0,e,hh,hr,ht⟩:=hblk.mv m (fun _ _=>rfl);refine ⟨bb,vs,T0,e,hh,HRL.setF (fun v hv=>?_) f hr hf,ht⟩;obtain ⟨ad,hv'⟩:=zbr (τ:=fun _=>⟨Go.undef,0⟩) hz (RdT.of (show RdC _ w v c0 from hv));exact ⟨xer (by simp) ⟨.arr c 0 T,by simp,by simp⟩,ad,0,hv',Nat.le_refl _,fun h=>absurd rfl h⟩
end Go.Hp
namespace Go.Hp.T
open Go Go.RowKit Go.Slot Go.Hp Go.Slot.T
open Go.Proofs.Tryz
attribute [local irreducible] hide RH
set_option maxRecDepth 10000
set_option maxHeartbeats 8000000
variable {Γ:List (Nat×List Cell)}
theorem zhv {η:List SB} {b n:Nat} {c:Cell} {l:List (List Cell)} {k q:Nat} {T:Option TypeId} (hb:gB η b=.arr (.sl k l) q T) (hn:n=l.length):wrt η [.agg [.dat c,.sl b k 0 n]]=some ([.agg [c,.sl k l]],[b]):=by
 subst hn;simp [wrt,argD,ym9,yo0,hb,Cell.esz,Cell.cnt,subC]
theorem xam {L:List Tk} {i:Nat} {x:Rcp} {j:Nat} (hl:L.length<=1048576) (h:yeg L i=some (x,j)):z00 Γ prog 194 [rdS L i] [.one (.ptr 0 0)] [rdS L j] (.agg (x.C.map .dat)):=by
 unfold yeg at h;obtain ⟨⟨n,i1⟩,h1,h⟩:=Option.bind_eq_some_iff.1 h;dsimp only at h1 h;obtain ⟨i2,h2,h⟩:=Option.bind_eq_some_iff.1 h;obtain ⟨⟨ss,i3⟩,h3,h⟩:=Option.map_eq_some_iff.1 h;simp only [Prod.mk.injEq] at h;obtain ⟨rfl,rfl⟩:=h;have c1:=xq8 (Γ:=Γ) hl h1;have c2:=wlh (Γ:=Γ) hl h2;clear h1 h2;refine hEh [] func194 f194.eq_1 ?_
 repeat' first | refine hF ?_ ?_<;>intros | refine hI ?_
 refine hca [0] c1 ?_
 repeat' first | refine hF ?_ ?_<;>intros | refine hI ?_
 refine hca [0] c2 ?_
 repeat' first | refine hF ?_ ?_<;>intros | refine hI ?_
 refine vi3 [0,2,3] (fun _:List Stp×Nat×Nat=>[]) (fun x=>[rdS L x.2.1,.box [.dat (cS ⟨#[]⟩),.dat .zc] (some 67),.box [.dat (cS n),.sl 3 6 0 x.1.length] (some 67),.arr (.sl 6 (x.1.map Stp.C)) 0 (some 70)])
  (fun x=>x.1.length+x.2.2<=L.length/\vi8 L x.2.2 x.1 x.2.1=some (ss,i3)) (fun x=>x.2.2) ([],i2,L.length) ⟨by simp,h3⟩ ?_ ?_
 . refine hg ?_;refine StH.trans (StH.vog 2 1 (es:=6) (c:=.sl 6 []) (T:=some 70) rfl rfl rfl (fun r hr=>by cases hr) rfl) ?_;refine hg ?_;exact sS
 rintro ⟨l,k,f⟩ ⟨k1,hf⟩;dsimp only at k1 hf;clear h3
 cases f with
 | zero=>cases hf
 | succ f=>
  rw [vi8] at hf;have ce:=y2y (Γ:=Γ) L k ⟨#[125]⟩ hl;unfold etA at ce
  cases he:etS L k ⟨#[125]⟩ with
  | true=>
   rw [he,cond_true] at hf ce;simp only [Option.some.injEq,Prod.mk.injEq] at hf;obtain ⟨rfl,rfl⟩:=hf;clear he;refine hg ?_
   repeat' first | refine hF ?_ ?_<;>intros | refine hI ?_
   refine hca [0] ce ?_
   repeat' first | refine hF ?_ ?_<;>intros | refine hI ?_
   exact x5h (bs:=[3]) 1 (zhv rfl (by rw [List.length_map])) rfl (by kernel_rfl) rfl rfl
  | false=>
   rw [he,cond_false] at hf ce;obtain ⟨⟨s,k'⟩,hs,hf⟩:=Option.bind_eq_some_iff.1 hf;dsimp only at hf;have cs:=zeq (Γ:=Γ) hl hs;clear he hs;refine hg ?_
   repeat' first | refine hF ?_ ?_<;>intros | refine hI ?_
   refine hca [0] ce ?_
   repeat' first | refine hF ?_ ?_<;>intros | refine hI ?_
   refine yqt [0] [(0,rdS L k')] cs rfl (by decide) rfl rfl rfl rfl ?_;refine hg ?_
   repeat' first | refine hF ?_ ?_<;>intros | refine hI ?_
   refine ⟨(l++[s],k',f),⟨by simp only [List.length_append,List.length_singleton];omega,hf⟩,by dsimp only;omega,?_⟩;refine StH.back [0,2,3] 3 4 4 rfl rfl rfl rfl rfl (by kernel_rfl) ?_;simp only [List.map_append,List.map_cons,List.map_nil];refine hg2 @List.length_append.{0} @List.length_singleton.{0} ?_;exact sS
abbrev shB (nm:ByteArray) (b1 b2 b3 b4 b5 b6 b7 b8:Nat) (n1 n2 n3 n4 n5 n6 n7 n8:Nat):SB:=.box [.dat (cS nm),.sl b1 6 0 n1,.sl b2 3 0 n2,.sl b3 3 0 n3,.sl b4 7 0 n4,.sl b5 7 0 n5,.sl b6 3 0 n6,.sl b7 3 0 n7,.sl b8 2 0 n8] (some 31)
abbrev shA1 (l:List (List Cell)):SB:=.arr (.sl 6 l) 0 (some 172)
abbrev shA2 (l:List (List Cell)):SB:=.arr (.sl 3 l) 0 (some 64)
abbrev shA3 (l:List (List Cell)):SB:=.arr (.sl 3 l) 0 (some 122)
abbrev shA4 (l:List (List Cell)):SB:=.arr (.sl 7 l) 0 (some 129)
abbrev shA5 (l:List (List Cell)):SB:=.arr (.sl 7 l) 0 (some 131)
abbrev shA6 (l:List (List Cell)):SB:=.arr (.sl 3 l) 0 (some 175)
abbrev shA7 (l:List (List Cell)):SB:=.arr (.sl 3 l) 0 (some 177)
abbrev shA8 (l:List (List Cell)):SB:=.arr (.sl 2 l) 0 (some 67)
theorem wor {L:List Tk} {i:Nat} {s:Sht} {i1 j:Nat} {x:Imp} (hl:L.length<=1048576) (_ht:∀ a,(L.getD a default).t.size<=1048576) (hs:s.imports.length<=1048576) (hw:wnn L i zrk=some (0,i1)) (h:wbx L i1=some (x,j)):z00 Γ prog 163 [rdS L i,shB s.name 2 3 4 5 6 7 8 9 s.imports.length s.inputs.length s.tables.length s.funcs.length s.cells.length s.ports.length s.stores.length s.recipes.length,shA1 (s.imports.map Imp.C),shA2 (s.inputs.map Inp.C),shA3 (s.tables.map Tb.C),shA4 (s.funcs.map Fnc.C),shA5 (s.cells.map Cel.C),shA6 (s.ports.map Por.C),shA7 (s.stores.map Sto.C),shA8 (s.recipes.map Rcp.C)] [.one (.ptr 0 0),.one (.ptr 1 0)] [rdS L j,shB s.name 10 3 4 5 6 7 8 9 (s.imports++[x]).length s.inputs.length s.tables.length s.funcs.length s.cells.length s.ports.length s.stores.length s.recipes.length,.dead,shA2 (s.inputs.map Inp.C),shA3 (s.tables.map Tb.C),shA4 (s.funcs.map Fnc.C),shA5 (s.cells.map Cel.C),shA6 (s.ports.map Por.C),shA7 (s.stores.map Sto.C),shA8 (s.recipes.map Rcp.C),shA1 ((s.imports++[x]).map Imp.C)] (.tup []):=by
 have cw:z00 Γ prog 185 [rdS L i] [.one (.ptr 0 0),.one (.dat (wy9 zrk))] [rdS L i1] (.one (.dat (cI 0))):=v0g hl (by decide) hw;have c1:=v52 (Γ:=Γ) hl h;clear h;clear hw;refine hEh [] func163 f163.eq_1 ?_
 repeat' first | refine hF ?_ ?_<;>intros | refine hI ?_
 refine xdg [0] cw rfl (by decide) rfl rfl rfl ?_;clear cw;refine hg2 @decide_true @decide_false ?_
 repeat' first | refine hF ?_ ?_<;>intros | refine hI ?_
 refine yqt [0] [(0,rdS L j)] c1 rfl (by decide) rfl rfl rfl rfl ?_;refine hg ?_
 repeat' first | refine hF ?_ ?_<;>intros | refine hI ?_
 exact StH.done 11 rfl (by kernel_rfl) rfl (by simp only [List.length_append,List.length_map,List.map_append,List.map_cons,List.map_nil];rfl)
theorem v9t {L:List Tk} {i:Nat} {s:Sht} {i1 j:Nat} {x:Inp} (hl:L.length<=1048576) (_ht:∀ a,(L.getD a default).t.size<=1048576) (hs:s.inputs.length<=1048576) (hw:wnn L i zrk=some (1,i1)) (h:wxc L i1=some (x,j)):z00 Γ prog 163 [rdS L i,shB s.name 2 3 4 5 6 7 8 9 s.imports.length s.inputs.length s.tables.length s.funcs.length s.cells.length s.ports.length s.stores.length s.recipes.length,shA1 (s.imports.map Imp.C),shA2 (s.inputs.map Inp.C),shA3 (s.tables.map Tb.C),shA4 (s.funcs.map Fnc.C),shA5 (s.cells.map Cel.C),shA6 (s.ports.map Por.C),shA7 (s.stores.map Sto.C),shA8 (s.recipes.map Rcp.C)] [.one (.ptr 0 0),.one (.ptr 1 0)] [rdS L j,shB s.name 2 10 4 5 6 7 8 9 s.imports.length (s.inputs++[x]).length s.tables.length s.funcs.length s.cells.length s.ports.length s.stores.length s.recipes.length,shA1 (s.imports.map Imp.C),.dead,shA3 (s.tables.map Tb.C),shA4 (s.funcs.map Fnc.C),shA5 (s.cells.map Cel.C),shA6 (s.ports.map Por.C),shA7 (s.stores.map Sto.C),shA8 (s.recipes.map Rcp.C),shA2 ((s.inputs++[x]).map Inp.C)] (.tup []):=by
 have cw:z00 Γ prog 185 [rdS L i] [.one (.ptr 0 0),.one (.dat (wy9 zrk))] [rdS L i1] (.one (.dat (cI 1))):=v0g hl (by decide) hw;have c1:=x6i (Γ:=Γ) hl h;clear h;clear hw;refine hEh [] func163 f163.eq_1 ?_
 repeat' first | refine hF ?_ ?_<;>intros | refine hI ?_
 refine xdg [0] cw rfl (by decide) rfl rfl rfl ?_;clear cw;refine hg2 @decide_true @decide_false ?_
 repeat' first | refine hF ?_ ?_<;>intros | refine hI ?_
 refine yqt [0] [(0,rdS L j)] c1 rfl (by decide) rfl rfl rfl rfl ?_;refine hg ?_
 repeat' first | refine hF ?_ ?_<;>intros | refine hI ?_
 exact StH.done 11 rfl (by kernel_rfl) rfl (by simp only [List.length_append,List.length_map,List.map_append,List.map_cons,List.map_nil];rfl)
theorem vis {L:List Tk} {i:Nat} {s:Sht} {i1 j:Nat} {x:Rcp} (hl:L.length<=1048576) (_ht:∀ a,(L.getD a default).t.size<=1048576) (hs:s.recipes.length<=1048576) (hw:wnn L i zrk=some (7,i1)) (h:yeg L i1=some (x,j)):z00 Γ prog 163 [rdS L i,shB s.name 2 3 4 5 6 7 8 9 s.imports.length s.inputs.length s.tables.length s.funcs.length s.cells.length s.ports.length s.stores.length s.recipes.length,shA1 (s.imports.map Imp.C),shA2 (s.inputs.map Inp.C),shA3 (s.tables.map Tb.C),shA4 (s.funcs.map Fnc.C),shA5 (s.cells.map Cel.C),shA6 (s.ports.map Por.C),shA7 (s.stores.map Sto.C),shA8 (s.recipes.map Rcp.C)] [.one (.ptr 0 0),.one (.ptr 1 0)] [rdS L j,shB s.name 2 3 4 5 6 7 8 10 s.imports.length s.inputs.length s.tables.length s.funcs.length s.cells.length s.ports.length s.stores.length (s.recipes++[x]).length,shA1 (s.imports.map Imp.C),shA2 (s.inputs.map Inp.C),shA3 (s.tables.map Tb.C),shA4 (s.funcs.map Fnc.C),shA5 (s.cells.map Cel.C),shA6 (s.ports.map Por.C),shA7 (s.stores.map Sto.C),.dead,shA8 ((s.recipes++[x]).map Rcp.C)] (.tup []):=by
 have cw:z00 Γ prog 185 [rdS L i] [.one (.ptr 0 0),.one (.dat (wy9 zrk))] [rdS L i1] (.one (.dat (cI 7))):=v0g hl (by decide) hw;have c1:=xam (Γ:=Γ) hl h;clear h;clear hw;refine hEh [] func163 f163.eq_1 ?_
 repeat' first | refine hF ?_ ?_<;>intros | refine hI ?_
 refine xdg [0] cw rfl (by decide) rfl rfl rfl ?_;clear cw;refine hg2 @decide_true @decide_false ?_
 repeat' first | refine hF ?_ ?_<;>intros | refine hI ?_
 refine yqt [0] [(0,rdS L j)] c1 rfl (by decide) rfl rfl rfl rfl ?_;refine hg ?_
 repeat' first | refine hF ?_ ?_<;>intros | refine hI ?_
 exact StH.done 11 rfl (by kernel_rfl) rfl (by simp only [List.length_append,List.length_map,List.map_append,List.map_cons,List.map_nil];rfl)
theorem ymq {L:List Tk} {i:Nat} {s:Sht} {i1 j:Nat} {x:Cel} (hl:L.length<=1048576) (ht:∀ a,(L.getD a default).t.size<=1048576) (hs:s.cells.length<=1048576) (hw:wnn L i zrk=some (4,i1)) (h:((znx L i1).bind fun n=>(yq1 L n.2).bind fun u=>(xk5 L u.2).map fun y=>(⟨n.1,u.1,y.1⟩,y.2))=some (x,j)):z00 Γ prog 163 [rdS L i,shB s.name 2 3 4 5 6 7 8 9 s.imports.length s.inputs.length s.tables.length s.funcs.length s.cells.length s.ports.length s.stores.length s.recipes.length,shA1 (s.imports.map Imp.C),shA2 (s.inputs.map Inp.C),shA3 (s.tables.map Tb.C),shA4 (s.funcs.map Fnc.C),shA5 (s.cells.map Cel.C),shA6 (s.ports.map Por.C),shA7 (s.stores.map Sto.C),shA8 (s.recipes.map Rcp.C)] [.one (.ptr 0 0),.one (.ptr 1 0)] [rdS L j,shB s.name 2 3 4 5 10 7 8 9 s.imports.length s.inputs.length s.tables.length s.funcs.length (s.cells++[x]).length s.ports.length s.stores.length s.recipes.length,shA1 (s.imports.map Imp.C),shA2 (s.inputs.map Inp.C),shA3 (s.tables.map Tb.C),shA4 (s.funcs.map Fnc.C),.dead,shA6 (s.ports.map Por.C),shA7 (s.stores.map Sto.C),shA8 (s.recipes.map Rcp.C),shA5 ((s.cells++[x]).map Cel.C)] (.tup []):=by
 have cw:z00 Γ prog 185 [rdS L i] [.one (.ptr 0 0),.one (.dat (wy9 zrk))] [rdS L i1] (.one (.dat (cI 4))):=v0g hl (by decide) hw;obtain ⟨⟨n,i2⟩,h1,h⟩:=Option.bind_eq_some_iff.1 h;obtain ⟨⟨u,i3⟩,h2,h⟩:=Option.bind_eq_some_iff.1 h;obtain ⟨⟨y,i4⟩,h3,h⟩:=Option.map_eq_some_iff.1 h;simp only [Prod.mk.injEq] at h;obtain ⟨rfl,rfl⟩:=h;have c1:=xq8 (Γ:=Γ) hl h1;have c2:=zcw (Γ:=Γ) hl h2;have c3:=zx9 (Γ:=Γ) hl ht h3;clear h1 h2 h3;clear hw;refine hEh [] func163 f163.eq_1 ?_
 repeat' first | refine hF ?_ ?_<;>intros | refine hI ?_
 refine xdg [0] cw rfl (by decide) rfl rfl rfl ?_;clear cw;refine hg2 @decide_true @decide_false ?_
 repeat' first | refine hF ?_ ?_<;>intros | refine hI ?_
 refine yqt [0] [(0,rdS L i2)] c1 rfl (by decide) rfl rfl rfl rfl ?_;refine hg ?_
 repeat' first | refine hF ?_ ?_<;>intros | refine hI ?_
 refine yqt [0] [(0,rdS L i3)] c2 rfl (by decide) rfl rfl rfl rfl ?_;refine hg ?_
 repeat' first | refine hF ?_ ?_<;>intros | refine hI ?_
 refine yqt [0] [(0,rdS L i4)] c3 rfl (by decide) rfl rfl rfl rfl ?_;refine hg ?_
 repeat' first | refine hF ?_ ?_<;>intros | refine hI ?_
 exact StH.done 11 rfl (by kernel_rfl) rfl (by simp only [List.length_append,List.length_map,List.map_append,List.map_cons,List.map_nil];rfl)
theorem yf9 {L:List Tk} {i:Nat} {s:Sht} {i1 j:Nat} {x:Por} (hl:L.length<=1048576) (_ht:∀ a,(L.getD a default).t.size<=1048576) (hs:s.ports.length<=1048576) (hw:wnn L i zrk=some (5,i1)) (h:((znx L i1).bind fun n=>(yq1 L n.2).bind fun u=>(numM L u.2).bind fun a=>(xte L [⟨#[59]⟩] a.2).map fun j=>(⟨n.1,u.1,a.1⟩,j))=some (x,j)):z00 Γ prog 163 [rdS L i,shB s.name 2 3 4 5 6 7 8 9 s.imports.length s.inputs.length s.tables.length s.funcs.length s.cells.length s.ports.length s.stores.length s.recipes.length,shA1 (s.imports.map Imp.C),shA2 (s.inputs.map Inp.C),shA3 (s.tables.map Tb.C),shA4 (s.funcs.map Fnc.C),shA5 (s.cells.map Cel.C),shA6 (s.ports.map Por.C),shA7 (s.stores.map Sto.C),shA8 (s.recipes.map Rcp.C)] [.one (.ptr 0 0),.one (.ptr 1 0)] [rdS L j,shB s.name 2 3 4 5 6 10 8 9 s.imports.length s.inputs.length s.tables.length s.funcs.length s.cells.length (s.ports++[x]).length s.stores.length s.recipes.length,shA1 (s.imports.map Imp.C),shA2 (s.inputs.map Inp.C),shA3 (s.tables.map Tb.C),shA4 (s.funcs.map Fnc.C),shA5 (s.cells.map Cel.C),.dead,shA7 (s.stores.map Sto.C),shA8 (s.recipes.map Rcp.C),shA6 ((s.ports++[x]).map Por.C)] (.tup []):=by
 have cw:z00 Γ prog 185 [rdS L i] [.one (.ptr 0 0),.one (.dat (wy9 zrk))] [rdS L i1] (.one (.dat (cI 5))):=v0g hl (by decide) hw;obtain ⟨⟨n,i2⟩,h1,h⟩:=Option.bind_eq_some_iff.1 h;obtain ⟨⟨u,i3⟩,h2,h⟩:=Option.bind_eq_some_iff.1 h;obtain ⟨⟨y,i4⟩,h3,h⟩:=Option.bind_eq_some_iff.1 h;obtain ⟨i5,h4,h⟩:=Option.map_eq_some_iff.1 h;simp only [Prod.mk.injEq] at h;obtain ⟨rfl,rfl⟩:=h;have c1:=xq8 (Γ:=Γ) hl h1;have c2:=zcw (Γ:=Γ) hl h2;have c3:=vku (Γ:=Γ) hl h3;have c4:=wlh (Γ:=Γ) hl h4;clear h1 h2 h3 h4;clear hw;refine hEh [] func163 f163.eq_1 ?_
 repeat' first | refine hF ?_ ?_<;>intros | refine hI ?_
 refine xdg [0] cw rfl (by decide) rfl rfl rfl ?_;clear cw;refine hg2 @decide_true @decide_false ?_
 repeat' first | refine hF ?_ ?_<;>intros | refine hI ?_
 refine yqt [0] [(0,rdS L i2)] c1 rfl (by decide) rfl rfl rfl rfl ?_;refine hg ?_
 repeat' first | refine hF ?_ ?_<;>intros | refine hI ?_
 refine yqt [0] [(0,rdS L i3)] c2 rfl (by decide) rfl rfl rfl rfl ?_;refine hg ?_
 repeat' first | refine hF ?_ ?_<;>intros | refine hI ?_
 refine yqt [0] [(0,rdS L i4)] c3 rfl (by decide) rfl rfl rfl rfl ?_;refine hg ?_
 repeat' first | refine hF ?_ ?_<;>intros | refine hI ?_
 refine hca [0] c4 ?_
 repeat' first | refine hF ?_ ?_<;>intros | refine hI ?_
 exact StH.done 11 rfl (by kernel_rfl) rfl (by simp only [List.length_append,List.length_map,List.map_append,List.map_cons,List.map_nil];rfl)
theorem vt0 {L:List Tk} {i:Nat} {s:Sht} {i1 j:Nat} {x:Sto} (hl:L.length<=1048576) (_ht:∀ a,(L.getD a default).t.size<=1048576) (hs:s.stores.length<=1048576) (hw:wnn L i zrk=some (6,i1)) (h:((znx L i1).bind fun n=>(yq1 L n.2).bind fun u=>(wnn L u.2 x8r).bind fun r=>(xte L [⟨#[59]⟩] r.2).map fun j=>(⟨n.1,u.1,r.1⟩,j))=some (x,j)):z00 Γ prog 163 [rdS L i,shB s.name 2 3 4 5 6 7 8 9 s.imports.length s.inputs.length s.tables.length s.funcs.length s.cells.length s.ports.length s.stores.length s.recipes.length,shA1 (s.imports.map Imp.C),shA2 (s.inputs.map Inp.C),shA3 (s.tables.map Tb.C),shA4 (s.funcs.map Fnc.C),shA5 (s.cells.map Cel.C),shA6 (s.ports.map Por.C),shA7 (s.stores.map Sto.C),shA8 (s.recipes.map Rcp.C)] [.one (.ptr 0 0),.one (.ptr 1 0)] [rdS L j,shB s.name 2 3 4 5 6 7 10 9 s.imports.length s.inputs.length s.tables.length s.funcs.length s.cells.length s.ports.length (s.stores++[x]).length s.recipes.length,shA1 (s.imports.map Imp.C),shA2 (s.inputs.map Inp.C),shA3 (s.tables.map Tb.C),shA4 (s.funcs.map Fnc.C),shA5 (s.cells.map Cel.C),shA6 (s.ports.map Por.C),.dead,shA8 (s.recipes.map Rcp.C),shA7 ((s.stores++[x]).map Sto.C)] (.tup []):=by
 have cw:z00 Γ prog 185 [rdS L i] [.one (.ptr 0 0),.one (.dat (wy9 zrk))] [rdS L i1] (.one (.dat (cI 6))):=v0g hl (by decide) hw;obtain ⟨⟨n,i2⟩,h1,h⟩:=Option.bind_eq_some_iff.1 h;obtain ⟨⟨u,i3⟩,h2,h⟩:=Option.bind_eq_some_iff.1 h;obtain ⟨⟨y,i4⟩,h3,h⟩:=Option.bind_eq_some_iff.1 h;obtain ⟨i5,h4,h⟩:=Option.map_eq_some_iff.1 h;simp only [Prod.mk.injEq] at h;obtain ⟨rfl,rfl⟩:=h;have c1:=xq8 (Γ:=Γ) hl h1;have c2:=zcw (Γ:=Γ) hl h2;have c3:=v0g (Γ:=Γ) hl (by decide) h3;have c4:=wlh (Γ:=Γ) hl h4;clear h1 h2 h3 h4;clear hw;refine hEh [] func163 f163.eq_1 ?_
 repeat' first | refine hF ?_ ?_<;>intros | refine hI ?_
 refine xdg [0] cw rfl (by decide) rfl rfl rfl ?_;clear cw;refine hg2 @decide_true @decide_false ?_
 repeat' first | refine hF ?_ ?_<;>intros | refine hI ?_ | (with_reducible first | refine w5a (wng) ?_ | refine xqd (wng) ?_)<;>refine hgS ?_
 refine yqt [0] [(0,rdS L i2)] c1 rfl (by decide) rfl rfl rfl rfl ?_;refine hg ?_
 repeat' first | refine hF ?_ ?_<;>intros | refine hI ?_ | (with_reducible first | refine w5a (wng) ?_ | refine xqd (wng) ?_)<;>refine hgS ?_
 refine yqt [0] [(0,rdS L i3)] c2 rfl (by decide) rfl rfl rfl rfl ?_;refine hg ?_
 repeat' first | refine hF ?_ ?_<;>intros | refine hI ?_ | (with_reducible first | refine w5a (wng) ?_ | refine xqd (wng) ?_)<;>refine hgS ?_
 refine yqt [0] [(0,rdS L i4)] c3 rfl (by decide) rfl rfl rfl rfl ?_;refine hg ?_
 repeat' first | refine hF ?_ ?_<;>intros | refine hI ?_ | (with_reducible first | refine w5a (wng) ?_ | refine xqd (wng) ?_)<;>refine hgS ?_
 refine hca [0] c4 ?_
 repeat' first | refine hF ?_ ?_<;>intros | refine hI ?_ | (with_reducible first | refine w5a (wng) ?_ | refine xqd (wng) ?_)<;>refine hgS ?_
 exact StH.done 11 rfl (by kernel_rfl) rfl (by simp only [List.length_append,List.length_map,List.map_append,List.map_cons,List.map_nil];rfl)
end Go.Hp.T
namespace Go.Hp
open Go Go.RowKit Go.Slot
variable {P:Program} {Γ:List (Nat×List Cell)}
def yoq (P:Program) (d:Deferred):Prop:=∃ fv cap fc args v,d.target=.fn fv cap/\(∀ w,(invoke d.target d.args).run P w=.ok (.enter fc args) w)/\∀ w,Go.CallsD P fc args .returning w (fun e u w'=>e=.returned v/\u=.returning/\w'=w)
theorem yoq.leaves {d:Deferred} (h:yoq P d) {fn:Func} {tmps:Array Value} {R:Ending->World->Prop} {w:World} {v:Value} (hr:(results fn tmps).run P w=.ok v w) (hR:R (.returned v) w):Leaves P fn tmps R [d] .returning w:=by
 obtain ⟨fv,cap,fc,args,v',ht,hi,hc⟩:=h;obtain ⟨t,da⟩:=d;simp only at ht hi;subst ht;refine leaves_cons (by intro h;cases h) (hi w) ((hc w).mono ?_);rintro e u w' ⟨rfl,rfl,rfl⟩;exact ⟨v,hr,hR⟩
def PreD (Γ:List (Nat×List Cell)) (P:Program) (e:List SB) (c:Code) (J:List SV) (η:List SB) (J':List SV) (η':List SB):Prop:=
 ∀(w0:World) (Mo:Nat->Nat->Prop) (ρ0 ρ:Nat->Value) (a:Act) (w:World),HInv Γ Mo ρ0 e w0->RI Γ ⟨w0,Mo,ρ0,e,[]⟩ ρ J η a w->
  c.wp P (fun ex a' w'=>ex=.normal/\∃ d ρ',yoq P d/\RI Γ ⟨w0,Mo,ρ0,e,[d]⟩ ρ' J' η' a' w') a w
theorem RI.defer {w0:World} {Mo:Nat->Nat->Prop} {ρ0 ρ:Nat->Value} {e:List SB} {J:List SV} {η:List SB} {a:Act} {w:World} {d:Deferred} (h:RI Γ ⟨w0,Mo,ρ0,e,[]⟩ ρ J η a w):RI Γ ⟨w0,Mo,ρ0,e,[d]⟩ ρ J η { a with defers:=d::a.defers } w:=
 ⟨by show d::a.defers=[d];rw [h.hd],h.hs,h.slot,h.went⟩
theorem z00.vkh (G:List (Nat×List GhH)) {f:FuncId} {fn:Func} {c0 c1 c:Code} {η η' η0 η1:List SB} {σ0 σ1:List SV} {args:List SV} {res:SV} (hf:P.funcs[f]? = some fn) (hb:fn.body=some (c0.seq (c1.seq c))) (hname:(fn.name == "runtime.NumGoroutine")=false)
 (h0:w6b Γ P η c0 (fun ex J η'=>ex=.normal/\J=σ0/\η'=η0) (args++List.replicate (fn.ntmps-args.length) .undef) η)
 (h1:PreD Γ P η c1 σ0 η0 σ1 η1)
 (h:RH Γ P η G c true (v49 Γ P η fn.results.toList η' res) (x9c σ1) η1):z00 Γ P f η args η' res:=by
 rw [wyl] at h
 have hc:=(RH.sound c true _ _ _ h).mono (Q':=retH Γ P η fn.results.toList η' res) (by
  intro ex J η1 ⟨b,h⟩
  cases ex with
  | normal=>exact y1n h
  | ret=>exact y1n h
  | _=>exact h.elim)
 refine ⟨⟨fn,hf,hname,by rw [hb];rfl⟩,fun Mo ρ w vs hinv hsr=>?_⟩;have hlen:=hsr.length;refine calls_of_wp_defers hf hb ?_
 have hsz:vs.toArray.size=args.length:=by simp [hlen]
 rw [hsz];have hst:=RI.start hinv hsr (fn.ntmps-args.length);refine wp_seq (wp_mono (h0 _ _ _ w ⟨rfl,hinv⟩ hst) ?_);rintro e a w1 ⟨σx,ηx,ρ1,⟨rfl,hx1,hx2⟩,hR1⟩;rw [hx1,hx2] at hR1;refine wp_seq (wp_mono (h1 w Mo ρ ρ1 a w1 hinv hR1) ?_);rintro e a w2 ⟨rfl,d,ρ2,hd,hR2⟩;refine wp_mono (hc _ _ _ w2 ⟨rfl,hinv⟩ hR2) ?_;rintro e a w' ⟨J,η2,ρ2,hq,hR⟩
 have fin:(∃ x,yms P J η2 fn.results.toList=some x/\StH Γ η [x] η2 [res] η')->Leaves P fn a.tmps (wiy Γ Mo ρ η w η' res) a.defers .returning w':=by
  rintro ⟨x,h2,h3⟩;obtain ⟨v,hrun,hv⟩:=w6y (fn:=fn) hR h2
  have hI1:RI Γ ⟨w,Mo,ρ,η,[]⟩ ρ2 [x] η2 { tmps:=#[v],defers:=[] } w':=⟨rfl,rfl,fun i y hi=>by
   cases i with
   | zero=>simp at hi;subst hi;exact hv
   | succ i=>simp at hi,hR.went⟩
  obtain ⟨ρ3,hI2⟩:=h3 _ ρ2 _ w' ⟨rfl,hinv⟩ hI1;rw [hR.hd];exact hd.leaves hrun ⟨v,ρ3,rfl,hI2.went,hI2.slot 0 res rfl⟩
 cases e with
 | normal=>exact fin hq
 | ret=>exact fin hq
 | _=>exact hq.elim
end Go.Hp
namespace Go.Hp.T
open Go Go.RowKit Go.Slot Go.Hp Go.Slot.T
open Go.Proofs.Tryz (prog)
set_option maxRecDepth 10000
set_option maxHeartbeats 8000000
variable {Γ:List (Nat×List Cell)}
theorem w0r (p q:Value) (w:World):Go.CallsD prog 159 #[p,q] .returning w fun e u' w'=>e=.returned (.tuple #[])/\u'=.returning/\w'=w:=by
 refine callsD_of_wpS Go.Proofs.Tryz.func159 rfl fun c₀ cs hu=>?_
 apply wpS_seq;apply wpS_region;simp [wpOpsS,go_sem,recoverD,hu,Exit.thenS];apply wpS_seq;apply wpS_region;simp [wpOpsS,go_sem,Exit.thenS];refine wpS_cond (t:=false) (by simp [Act.eval,Array.replicate]) ?_;simp only [Bool.false_eq_true,if_false];refine wpS_of_wp (wp_skip ?_)
 cases c₀;simp_all [bodyPostS,results]
theorem v6k (p q:Value):yoq prog ⟨.fn (.func 159) #[p,q],#[]⟩:=
 ⟨_,_,159,#[p,q],.tuple #[],rfl,fun w=>by simp [go_sem],w0r p q⟩
theorem xz4 {n id:Nat} {e:List SB} {J:List SV} {η:List SB} {o1 o2:Oper} (h:4<J.length) (h1:o1.op=.makeFunc (.func n) #[] #[.tmp 2,.tmp 3]) (h1d:o1.dst=some 4) (h1g:o1.guard=none)
 (h2:o2.op=.defer { callee:=.value (.tmp 4),args:=#[],argTypes:=#[] }) (h2d:o2.dst=none) (h2g:o2.guard=none) (hi:∀ p q,yoq prog ⟨.fn (.func n) #[p,q],#[]⟩) :
 PreD Γ prog e (.region id #[o1,o2] false) J η (J.set 4 .any) η:=by
 have hmf:∀(fn:Fn) (first cap:Array Value) (w:World),(Instr.makeFunc fn first cap).run prog w=.ok (.func fn first cap) w:=fun _ _ _ _=>rfl
 intro w0 Mo ρ0 ρ a w hinv hR;apply wp_region
 have hsz:4<a.tmps.size:=by rw [hR.hs];exact h
 show wpOps _ _ _ [0,1] a w;simp [wpOps,h1g,h2g,Region.wanted,Oper.wp,Oper.upon,execOp,h1,h2,hmf,h1d,h2d,resolve,Deferred.ofValue,Act.put,Act.eval,hsz];exact .inl (.inl ⟨_,hi _ _,ρ,RI.defer (hR.put (d:=4) (x:=.any) trivial)⟩)
end Go.Hp.T
namespace Go.Hp
open Go Go.RowKit Go.Slot
variable {P:Program} {Γ:List (Nat×List Cell)}
theorem w6b.ofRH {G:List (Nat×List GhH)} {e:List SB} {c:Code} {J σ0:List SV} {η η0:List SB} (h:RH Γ P e G c true (fun ex _ J' η'=>ex=.normal/\J'=σ0/\η'=η0) (x9c J) η):w6b Γ P e c (fun ex J η'=>ex=.normal/\J=σ0/\η'=η0) J η:=by
 rw [wyl] at h;exact (RH.sound c true _ _ _ h).mono (fun ex J η1 ⟨_,h⟩=>h)
end Go.Hp
namespace Go.Hp.T
open Go Go.RowKit Go.Slot Go.Hp Go.Slot.T
open Go.Proofs.Tryz
attribute [local irreducible] hide RH
set_option maxRecDepth 10000
set_option maxHeartbeats 8000000
variable {Γ:List (Nat×List Cell)}
def Sht.C (s:Sht):List Cell:=[cS s.name,.sl 6 (s.imports.map Imp.C),.sl 3 (s.inputs.map Inp.C),.sl 3 (s.tables.map Tb.C),.sl 7 (s.funcs.map Fnc.C),.sl 7 (s.cells.map Cel.C),.sl 3 (s.ports.map Por.C),.sl 3 (s.stores.map Sto.C),.sl 2 (s.recipes.map Rcp.C)]
abbrev shtC (s:Sht):List Cell:=[cS s.name,.sl 6 (s.imports.map Imp.C),.sl 3 (s.inputs.map Inp.C),.sl 3 (s.tables.map Tb.C),.sl 7 (s.funcs.map Fnc.C),.sl 7 (s.cells.map Cel.C),.sl 3 (s.ports.map Por.C),.sl 3 (s.stores.map Sto.C),.sl 2 (s.recipes.map Rcp.C)]
theorem Sht.C_eq (s:Sht):s.C=shtC s:=rfl
attribute [go_sem] Sht.C_eq
def Sht.sz (s:Sht):Nat:=s.imports.length+s.inputs.length+s.tables.length+s.funcs.length+s.cells.length+s.ports.length+s.stores.length+s.recipes.length
theorem zf9 {e η η':List SB} {l sl:List SV} {avs:List AV} {bs:List Nat} {J':List SV} (m:Nat) (h:wrt η l=some (avs,bs)) (hs:x3n avs=some sl) (hm:Nat.ble e.length m=true) (hc:z6m m [SV.tup sl] (appL (frzE η bs) η)=true) (hσ:[SV.tup sl]=J') (hη:(appL (frzE η bs) η).take m=η') :
 StH Γ e [.tup l] η J' η':=
 StH.trans (StH.frzT h hs) (StH.done m hm hc hσ hη)
def yph (L:List Tk):Prop:=∀ i k j,wnn L i zrk=some (k,j)->k≠2/\k≠3
abbrev wr0:SB:=.box [.dat (cI 0),.dat (cI 0)] (some 195)
abbrev rdBs (L:List Tk) (s:Sht) (j:Nat):List SB:=[rdS L j,shB s.name 3 4 5 6 7 8 9 10 s.imports.length s.inputs.length s.tables.length s.funcs.length s.cells.length s.ports.length s.stores.length s.recipes.length,wr0,shA1 (s.imports.map Imp.C),shA2 (s.inputs.map Inp.C),shA3 (s.tables.map Tb.C),shA4 (s.funcs.map Fnc.C),shA5 (s.cells.map Cel.C),shA6 (s.ports.map Por.C),shA7 (s.stores.map Sto.C),shA8 (s.recipes.map Rcp.C)]
theorem zzb {L:List Tk} {s:Sht} {j:Nat}:wrt (rdBs L s j) [.agg [.dat (cS s.name),.sl 3 6 0 s.imports.length,.sl 4 3 0 s.inputs.length,.sl 5 3 0 s.tables.length,.sl 6 7 0 s.funcs.length,.sl 7 7 0 s.cells.length,.sl 8 3 0 s.ports.length,.sl 9 3 0 s.stores.length,.sl 10 2 0 s.recipes.length],.agg [.dat (cI 0),.dat (cI 0)]]=some ([.agg s.C,.agg [cI 0,cI 0]],[3,4,5,6,7,8,9,10]):=by
 simp [wrt,argD,ym9,yo0,gB,rdBs,Cell.esz,Cell.cnt,subC,Sht.C]
theorem x9y {L:List Tk} {s:Sht} (hl:L.length<=1048576) (ht:∀ a,(L.getD a default).t.size<=1048576) (hp:yph L) (h:wtv L=some s):z00 Γ prog 111 [rdS L 0] [.one (.ptr 0 0)] [rdS L L.length] (.tup [.agg (s.C.map .dat),.agg [.dat (cI 0),.dat (cI 0)]]):=by
 unfold wtv at h;obtain ⟨i1,h1,h⟩:=Option.bind_eq_some_iff.1 h;obtain ⟨⟨nm,i2⟩,h2,h⟩:=Option.bind_eq_some_iff.1 h;dsimp only at h;obtain ⟨i3,h3,h⟩:=Option.bind_eq_some_iff.1 h;obtain ⟨⟨s',i4⟩,h4,h⟩:=Option.bind_eq_some_iff.1 h;dsimp only at h
 obtain ⟨rfl,rfl⟩:L.length=i4/\s'=s:=by
  by_cases he:i4=L.length
  . rw [decide_eq_true he,cond_true] at h;exact ⟨he.symm,Option.some.inj h⟩
  . rw [decide_eq_false he] at h;cases h
 have c1:=wlh (Γ:=Γ) hl h1;have c2:=xq8 (Γ:=Γ) hl h2;have c3:=wlh (Γ:=Γ) hl h3;clear h h1 h2 h3;refine z00.vkh [] (σ0:=[.one (.ptr 0 0),.undef,.one (.ptr 1 0),.one (.ptr 2 0)]++List.replicate 29 .undef) (η0:=[rdS L 0,.box [.dat (cS ⟨#[]⟩),.dat .zc,.dat .zc,.dat .zc,.dat .zc,.dat .zc,.dat .zc,.dat .zc,.dat .zc] (some 31),wr0]) Go.Proofs.Tryz.func111 rfl rfl (w6b.ofRH (G:=[]) ?_) (xz4 (by decide) rfl rfl rfl rfl rfl rfl (fun p q=>v6k p q)) ?_
 . refine hgR ?_;exact rfl
 refine hgR ?_
 repeat' first | refine hF ?_ ?_<;>intros | refine hI ?_
 refine hca [0] c1 ?_
 repeat' first | refine hF ?_ ?_<;>intros | refine hI ?_
 refine hca [0] c2 ?_
 repeat' first | refine hF ?_ ?_<;>intros | refine hI ?_
 refine hca [0] c3 ?_
 repeat' first | refine hF ?_ ?_<;>intros | refine hI ?_
 refine vi3 [0,2,3] (fun _:Sht×Nat×Nat=>[]) (fun x=>rdBs L x.1 x.2.1)
  (fun x=>x.1.sz+x.2.2<=L.length/\y0c L x.2.2 x.1 x.2.1=some (s',L.length)) (fun x=>x.2.2) (⟨nm,[],[],[],[],[],[],[],[]⟩,i3,L.length) ⟨by simp [Sht.sz],h4⟩ ?_ ?_
 . refine hg ?_;refine StH.trans (StH.vog 1 1 (es:=6) (c:=.sl 6 []) (T:=some 172) rfl rfl rfl (fun r hr=>by cases hr) rfl) ?_;refine hg ?_;refine StH.trans (StH.vog 1 2 (es:=3) (c:=.sl 3 []) (T:=some 64) rfl rfl rfl (fun r hr=>by cases hr) rfl) ?_;refine hg ?_;refine StH.trans (StH.vog 1 3 (es:=3) (c:=.sl 3 []) (T:=some 122) rfl rfl rfl (fun r hr=>by cases hr) rfl) ?_;refine hg ?_;refine StH.trans (StH.vog 1 4 (es:=7) (c:=.sl 7 []) (T:=some 129) rfl rfl rfl (fun r hr=>by cases hr) rfl) ?_;refine hg ?_;refine StH.trans (StH.vog 1 5 (es:=7) (c:=.sl 7 []) (T:=some 131) rfl rfl rfl (fun r hr=>by cases hr) rfl) ?_;refine hg ?_;refine StH.trans (StH.vog 1 6 (es:=3) (c:=.sl 3 []) (T:=some 175) rfl rfl rfl (fun r hr=>by cases hr) rfl) ?_;refine hg ?_;refine StH.trans (StH.vog 1 7 (es:=3) (c:=.sl 3 []) (T:=some 177) rfl rfl rfl (fun r hr=>by cases hr) rfl) ?_;refine hg ?_;refine StH.trans (StH.vog 1 8 (es:=2) (c:=.sl 2 []) (T:=some 67) rfl rfl rfl (fun r hr=>by cases hr) rfl) ?_;refine hg ?_;exact sS
 rintro ⟨s,k,f⟩ ⟨k1,hf⟩;dsimp only at k1 hf;clear h4
 cases f with
 | zero=>cases hf
 | succ f=>
  rw [y0c] at hf;have ce:=y2y (Γ:=Γ) L k ⟨#[125]⟩ hl;unfold etA at ce
  cases he:etS L k ⟨#[125]⟩ with
  | true=>
   rw [he,cond_true] at hf ce;simp only [Option.some.injEq,Prod.mk.injEq] at hf;obtain ⟨rfl,hk⟩:=hf;rw [hk] at ce;clear he;refine hg ?_
   repeat' first | refine hF ?_ ?_<;>intros | refine hI ?_
   refine hca [0] ce ?_
   repeat' first | refine hF ?_ ?_<;>intros | refine hI ?_
   all_goals try (exfalso;omega)
   exact zf9 1 zzb rfl rfl (by kernel_rfl) rfl rfl
  | false=>
   rw [he,cond_false] at hf ce;obtain ⟨⟨s2,k'⟩,hs,hf⟩:=Option.bind_eq_some_iff.1 hf;dsimp only at hf;unfold w1e at hs;obtain ⟨⟨w,k2⟩,hw,hs⟩:=Option.bind_eq_some_iff.1 hs;have hw8:w<8:=wug hw;have hw23:=hp _ _ _ hw;clear he;unfold Sht.sz at k1
   obtain rfl | rfl | rfl | rfl | rfl | rfl:w=0\/w=1\/w=4\/w=5\/w=6\/w=7:=by omega
   . try dsimp only at hs
     obtain ⟨⟨x,k3⟩,hx,hs⟩:=Option.map_eq_some_iff.1 hs;simp only [Prod.mk.injEq] at hs;obtain ⟨rfl,rfl⟩:=hs;have ci:=wor (Γ:=Γ) (s:=s) hl ht (by omega) hw hx;refine hg ?_
     repeat' first | refine hF ?_ ?_<;>intros | refine hI ?_
     refine hca [0] ce ?_
     repeat' first | refine hF ?_ ?_<;>intros | refine hI ?_
     refine hca [0,1,3,4,5,6,7,8,9,10] ci ?_
     repeat' first | refine hF ?_ ?_<;>intros | refine hI ?_
     refine ⟨(_,_,f),⟨?_,hf⟩,by dsimp only;omega,?_⟩
     . unfold Sht.sz;simp only [List.length_append,List.length_singleton];omega
     refine StH.back [0,2,3] 3 11 11 rfl rfl rfl rfl rfl (by kernel_rfl) ?_;refine hg ?_;exact sS
   . try dsimp only at hs
     obtain ⟨⟨x,k3⟩,hx,hs⟩:=Option.map_eq_some_iff.1 hs;simp only [Prod.mk.injEq] at hs;obtain ⟨rfl,rfl⟩:=hs;have ci:=v9t (Γ:=Γ) (s:=s) hl ht (by omega) hw hx;refine hg ?_
     repeat' first | refine hF ?_ ?_<;>intros | refine hI ?_
     refine hca [0] ce ?_
     repeat' first | refine hF ?_ ?_<;>intros | refine hI ?_
     refine hca [0,1,3,4,5,6,7,8,9,10] ci ?_
     repeat' first | refine hF ?_ ?_<;>intros | refine hI ?_
     refine ⟨(_,_,f),⟨?_,hf⟩,by dsimp only;omega,?_⟩
     . unfold Sht.sz;simp only [List.length_append,List.length_singleton];omega
     refine StH.back [0,2,3] 4 11 11 rfl rfl rfl rfl rfl (by kernel_rfl) ?_;refine hg ?_;exact sS
   . try dsimp only at hs
     obtain ⟨⟨n,q2⟩,x1,hs⟩:=Option.bind_eq_some_iff.1 hs;obtain ⟨⟨u,q3⟩,x2,hs⟩:=Option.bind_eq_some_iff.1 hs;obtain ⟨⟨y,q4⟩,x3,hs⟩:=Option.map_eq_some_iff.1 hs;simp only [Prod.mk.injEq] at hs;obtain ⟨rfl,rfl⟩:=hs;have ci:=ymq (Γ:=Γ) (s:=s) (x:=⟨n,u,y⟩) (j:=q4) hl ht (by omega) hw (by rw [x1];dsimp only [Option.bind_some];rw [x2];dsimp only [Option.bind_some];rw [x3];rfl);refine hg ?_
     repeat' first | refine hF ?_ ?_<;>intros | refine hI ?_
     refine hca [0] ce ?_
     repeat' first | refine hF ?_ ?_<;>intros | refine hI ?_
     refine hca [0,1,3,4,5,6,7,8,9,10] ci ?_
     repeat' first | refine hF ?_ ?_<;>intros | refine hI ?_
     refine ⟨(_,_,f),⟨?_,hf⟩,by dsimp only;omega,?_⟩
     . unfold Sht.sz;simp only [List.length_append,List.length_singleton];omega
     refine StH.back [0,2,3] 7 11 11 rfl rfl rfl rfl rfl (by kernel_rfl) ?_;refine hg ?_;exact sS
   . try dsimp only at hs
     obtain ⟨⟨n,q2⟩,x1,hs⟩:=Option.bind_eq_some_iff.1 hs;obtain ⟨⟨u,q3⟩,x2,hs⟩:=Option.bind_eq_some_iff.1 hs;obtain ⟨⟨y,q4⟩,x3,hs⟩:=Option.bind_eq_some_iff.1 hs;obtain ⟨q5,x4,hs⟩:=Option.map_eq_some_iff.1 hs;simp only [Prod.mk.injEq] at hs;obtain ⟨rfl,rfl⟩:=hs;have ci:=yf9 (Γ:=Γ) (s:=s) (x:=⟨n,u,y⟩) (j:=q5) hl ht (by omega) hw (by rw [x1];dsimp only [Option.bind_some];rw [x2];dsimp only [Option.bind_some];rw [x3];dsimp only [Option.bind_some];rw [x4];rfl);refine hg ?_
     repeat' first | refine hF ?_ ?_<;>intros | refine hI ?_
     refine hca [0] ce ?_
     repeat' first | refine hF ?_ ?_<;>intros | refine hI ?_
     refine hca [0,1,3,4,5,6,7,8,9,10] ci ?_
     repeat' first | refine hF ?_ ?_<;>intros | refine hI ?_
     refine ⟨(_,_,f),⟨?_,hf⟩,by dsimp only;omega,?_⟩
     . unfold Sht.sz;simp only [List.length_append,List.length_singleton];omega
     refine StH.back [0,2,3] 8 11 11 rfl rfl rfl rfl rfl (by kernel_rfl) ?_;refine hg ?_;exact sS
   . try dsimp only at hs
     obtain ⟨⟨n,q2⟩,x1,hs⟩:=Option.bind_eq_some_iff.1 hs;obtain ⟨⟨u,q3⟩,x2,hs⟩:=Option.bind_eq_some_iff.1 hs;obtain ⟨⟨y,q4⟩,x3,hs⟩:=Option.bind_eq_some_iff.1 hs;obtain ⟨q5,x4,hs⟩:=Option.map_eq_some_iff.1 hs;simp only [Prod.mk.injEq] at hs;obtain ⟨rfl,rfl⟩:=hs;have ci:=vt0 (Γ:=Γ) (s:=s) (x:=⟨n,u,y⟩) (j:=q5) hl ht (by omega) hw (by rw [x1];dsimp only [Option.bind_some];rw [x2];dsimp only [Option.bind_some];rw [x3];dsimp only [Option.bind_some];rw [x4];rfl);refine hg ?_
     repeat' first | refine hF ?_ ?_<;>intros | refine hI ?_
     refine hca [0] ce ?_
     repeat' first | refine hF ?_ ?_<;>intros | refine hI ?_
     refine hca [0,1,3,4,5,6,7,8,9,10] ci ?_
     repeat' first | refine hF ?_ ?_<;>intros | refine hI ?_
     refine ⟨(_,_,f),⟨?_,hf⟩,by dsimp only;omega,?_⟩
     . unfold Sht.sz;simp only [List.length_append,List.length_singleton];omega
     refine StH.back [0,2,3] 9 11 11 rfl rfl rfl rfl rfl (by kernel_rfl) ?_;refine hg ?_;exact sS
   . try dsimp only at hs
     obtain ⟨⟨x,k3⟩,hx,hs⟩:=Option.map_eq_some_iff.1 hs;simp only [Prod.mk.injEq] at hs;obtain ⟨rfl,rfl⟩:=hs;have ci:=vis (Γ:=Γ) (s:=s) hl ht (by omega) hw hx;refine hg ?_
     repeat' first | refine hF ?_ ?_<;>intros | refine hI ?_
     refine hca [0] ce ?_
     repeat' first | refine hF ?_ ?_<;>intros | refine hI ?_
     refine hca [0,1,3,4,5,6,7,8,9,10] ci ?_
     repeat' first | refine hF ?_ ?_<;>intros | refine hI ?_
     refine ⟨(_,_,f),⟨?_,hf⟩,by dsimp only;omega,?_⟩
     . unfold Sht.sz;simp only [List.length_append,List.length_singleton];omega
     refine StH.back [0,2,3] 10 11 11 rfl rfl rfl rfl rfl (by kernel_rfl) ?_;refine hg ?_;exact sS
end Go.Hp.T
namespace Go.Hp.T
open Go Go.RowKit Go.Slot Go.Hp Go.Slot.T
open Go.Proofs.Tryz
attribute [local irreducible] hide RH
set_option maxRecDepth 10000
set_option maxHeartbeats 8000000
variable {Γ:List (Nat×List Cell)}
theorem wmh (s:ByteArray):match zbb s with
 | .inl ts=>ts.length<=4001/\∀ x∈ts,x.t.size<=4401
 | .inr x=>x.2≠0:=by
 unfold zbb;by_cases h4:4000<(s.size:Int)
 . rw [decide_eq_true h4];show (6:Int)≠0;decide
 . rw [decide_eq_false h4,cond_false];have h:=xet (s.size+1) (wli s) 0;rw [wl6] at h;generalize x19 (s.size+1) (wli s) 0=r at *
   cases r with
   | inr x=>exact h
   | inl ts=>exact ⟨by have:=h.1;omega,fun x hx=>by have:=h.2 x hx;omega⟩
theorem yfi (L:List Tk):CallsD Γ prog 110 [.one (.sl 4 (L.map Tk.C))] (.one (.sl 4 (L.map Tk.C))):=by
 refine ⟨⟨_,Go.Proofs.Tryz.func110,rfl,rfl⟩,fun M w vs hb _ hr=>?_⟩
 match vs,hr with
 | [v],⟨hv,_⟩=>
 have hv:RdC M w v (.sl 4 (L.map Tk.C)):=hv
 have hu:prog.underlying 191=some (.slice 200):=by kernel_rfl
 have hi:prog.info? 200=some (xpe prog 200):=by kernel_rfl
 obtain ⟨ad,n,cap,rfl,hn,hc⟩:∃(ad:Option Addr) (n cap:Nat),v=.slice ad n cap/\n<=cap/\∀ ad',(ad'=ad\/ad'=ad.map (·.add 0))->RdC M w (.slice ad' n n) (.sl 4 (L.map Tk.C)):=by
  cases hv with
  | sl b off u hl hc ha hn hm hr=>
   refine ⟨_,_,_,rfl,hc,fun ad' had=>.sl b off u hl (Nat.le_refl _) (fun h=>?_) hn hm hr⟩
   have:=ha h
   subst this
   rcases had with rfl | rfl
   . rfl
   . rfl
 refine calls_of_wp Go.Proofs.Tryz.func110 rfl ?_;apply wp_seq;apply wp_region;simp [wpOps,Region.wanted,Oper.wp,Oper.upon,execOp,Act.put,Act.eval];refine .inl ?_;apply wp_seq;apply wp_region;simp [wpOps,Region.wanted,Oper.wp,Oper.upon,execOp,Act.put,Act.eval,go_sem,hn];refine .inl (.inl (.inl (.inl (.inl (.inl (.inl ?_))))));apply wp_ret;refine ⟨rfl,.slice ad n n,by simp [results,go_sem],.slice ad n n,rfl,xs8 w,hc ad (.inl rfl),fun h=>by cases h⟩
def w3f (L:List Tk):Bool:=(List.range L.length).all fun i=>match wnn L i zrk with
 | some (k,_)=>!(k==2)&&!(k==3)
 | none=>true
theorem x73 {L:List Tk} {i:Nat} {l:List ByteArray} {r:Nat×Nat} (h:wnn L i l=some r):i<L.length:=by
 unfold wnn at h;obtain ⟨k,hf,rfl⟩:=Option.map_eq_some_iff.1 h;rw [List.find?_range_eq_some,Bool.and_eq_true] at hf;exact wks hf.1.1
theorem y5s {L:List Tk} (h:w3f L=true):yph L:=fun i k j hw=>by
 have:=List.all_eq_true.1 h i (List.mem_range.2 (x73 hw))
 rw [hw] at this;simp at this;exact this
def yui (t:ByteArray) (s:Sht):Prop:=∃ L,zbb t=.inl L/\w3f L=true/\wtv L=some s
theorem vsj {t:ByteArray} {s:Sht} (hG:w2q Γ 0=.elt sgC) (hs:t.size<=1073741824) (h:yui t s) (cr:CallsD Γ prog 22 [.agg (shtC s)] (.one (cB true))):CallsD Γ prog 58 [.one (cS t)] (.tup [.agg (shtC s),.one (cI 0),.one (cI 0)]):=by
 obtain ⟨L,h1,h2,h3⟩:=h;have c:=zyw (Γ:=Γ) t hG hs;have hk:=wmh t;rw [h1] at c hk;unfold snR at c;dsimp only at c hk
 have r:=x9y (Γ:=Γ) (s:=s) (by omega) (fun a=>by
  by_cases h:a<L.length
  . have:=hk.2 _ (vdv h);omega
  . rw [List.getD_eq_getElem?_getD,List.getElem?_eq_none (by omega)];decide) (y5s h2) h3
 have hl:=hk.1;have c2:=yfi (Γ:=Γ) L;clear h1 h2 h3 hk;refine hE [] func58 f58.eq_1 ?_
 repeat' first | refine hF ?_ ?_<;>intros | refine hI ?_ | (with_reducible first | refine w5a (c) ?_ | refine xqd (c) ?_ | refine w5a (c2) ?_ | refine xqd (c2) ?_)<;>refine hgS ?_
 refine hca [1] r ?_
 repeat' first | refine hF ?_ ?_<;>intros | refine hI ?_ | (with_reducible first | refine w5a (cr) ?_ | refine xqd (cr) ?_)<;>refine hgS ?_
 all_goals try (exfalso;omega)
 exact RLe.ofEq rfl
end Go.Hp.T
namespace Go.Slot
open Go Go.RowKit Go.Slot.T
structure Sc where
 low:Fc
 high:Fc
namespace Sc
def C (s:Sc):List Cell:=[.raw (.int .i64 s.low.s),.ints .i64 s.low.L,.raw (.int .i64 s.low.t),.ints .i64 s.low.M,.raw (.int .i64 s.high.s),.ints .i64 s.high.L,.raw (.int .i64 s.high.t),.ints .i64 s.high.M]
theorem C_eq {s:Sc}:s.C=[.raw (.int .i64 s.low.s),.ints .i64 s.low.L,.raw (.int .i64 s.low.t),.ints .i64 s.low.M,.raw (.int .i64 s.high.s),.ints .i64 s.high.L,.raw (.int .i64 s.high.t),.ints .i64 s.high.M]:=_root_.id rfl
def ok (s:Sc):Prop:=s.low.ok/\s.high.ok/\Fc.cmp s.low s.high<=0
instance (s:Sc):Decidable s.ok:=inferInstanceAs (Decidable (_/\_))
def zero:Sc:=⟨Fc.zero,Fc.zero⟩
def sz (s:Sc):Nat:=max s.low.sz s.high.sz
instance:DecidableEq Sc:=fun a b=>decidable_of_iff (a.low=b.low/\a.high=b.high) ⟨fun h=>by cases a;cases b;simp at h;simp [h],fun h=>by rw [h];exact ⟨rfl,rfl⟩⟩
theorem ymg {s:Sc} {n:Nat} (h:s.sz<=n):s.low.sz<=n/\s.high.sz<=n:=by unfold sz at h;omega
end Sc
theorem rowF {l:List Fc} {i:Nat} (h:i<l.length):(l.map Fc.C).getD i []=(l.getD i Fc.zero).C:=by
 simp [h]
theorem rowS {l:List Sc} {i:Nat} (h:i<l.length):(l.map Sc.C).getD i []=(l.getD i Sc.zero).C:=by
 simp [h]
attribute [go_sem] Sc.C_eq rowF rowS
def idxJ {α:Type} (p:α->Bool):List α->Int->Int
 | [],_=>-1
 | f::r,i=>if p f=true then i else idxJ p r (i+1)
theorem vxJ {α:Type} (p:α->Bool):∀(l:List α) (i:Int),0<=i->decide (0<=idxJ p l i)=l.any p
 | [],i,_=>by simp [idxJ]
 | f::r,i,h=>by
  unfold idxJ;by_cases hp:p f=true
  . rw [if_pos hp,List.any_cons,hp,decide_eq_true h];rfl
  . have hp':p f=false:=by simpa using hp
    rw [if_neg hp,vxJ p r (i+1) (by omega),List.any_cons,hp',Bool.false_or]
theorem drop_cons {α:Type} {l:List α} {i:Nat} (d:α) (h:i<l.length):l.drop i=l.getD i d::l.drop (i+1):=by
 rw [List.drop_eq_getElem_cons h];simp [h]
end Go.Slot
