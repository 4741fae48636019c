/- The proof, part W29: Pw, Iq, Pq, Px, Py, Ne. -/
import Derived.Test.YtbdoipfmafbhoaaGreatDoorW28
import Derived.Test.YtbdoipfmafbhoaaGreatDoorW14
import Derived.Test.YtbdoipfmafbhoaaGreatDoorW17
import Derived.Test.YtbdoipfmafbhoaaGreatDoorW27
import Derived.Test.YtbdoipfmafbhoaaGreatDoorW25
import Derived.Test.YtbdoipfmafbhoaaGreatDoorW23
import Derived.Defers
import Derived.Recover
import Derived.Tactics
import Derived.Tactics2
import Derived.Laws.Pointers
namespace Go.Hp.T
open Go Go.RowKit Go.Slot Go.Hp Go.Slot.T
open Go.Proofs.Tryz (prog)
attribute [local irreducible] hide RH
set_option maxRecDepth 10000
set_option maxHeartbeats 8000000
variable {Γ:List (Nat×List Cell)}
abbrev shB (nm:ByteArray) (b1 b2 b3 b4 b5 b6 b7 b8:Nat) (n1 n2 n3 n4 n5 n6 n7 n8:Nat):SB:=.box [.dat (cS nm),.sl b1 6 0 n1,.sl b2 3 0 n2,.sl b3 3 0 n3,.sl b4 7 0 n4,.sl b5 7 0 n5,.sl b6 3 0 n6,.sl b7 3 0 n7,.sl b8 2 0 n8] (some 31)
abbrev shA1 (l:List (List Cell)):SB:=.arr (.sl 6 l) 0 (some 92)
abbrev shA2 (l:List (List Cell)):SB:=.arr (.sl 3 l) 0 (some 58)
abbrev shA3 (l:List (List Cell)):SB:=.arr (.sl 3 l) 0 (some 65)
abbrev shA4 (l:List (List Cell)):SB:=.arr (.sl 7 l) 0 (some 71)
abbrev shA5 (l:List (List Cell)):SB:=.arr (.sl 7 l) 0 (some 76)
abbrev shA6 (l:List (List Cell)):SB:=.arr (.sl 3 l) 0 (some 94)
abbrev shA7 (l:List (List Cell)):SB:=.arr (.sl 3 l) 0 (some 100)
abbrev shA8 (l:List (List Cell)):SB:=.arr (.sl 2 l) 0 (some 43)
theorem xa5 {L:List Tk} {i:Nat} {s:Sht} {i1 j:Nat} {x:Imp} (hl:L.length<=1048576) (_ht:∀ a,(L.getD a default).t.size<=1048576) (hs:s.imports.length<=1048576) (hw:x3s L i zft=some (0,i1)) (h:xp1 L i1=some (x,j)):wod Γ prog 148 [rdS L i,shB s.name 2 3 4 5 6 7 8 9 s.imports.length s.inputs.length s.tables.length s.funcs.length s.cells.length s.ports.length s.stores.length s.recipes.length,shA1 (s.imports.map Imp.C),shA2 (s.inputs.map Inp.C),shA3 (s.tables.map Tb.C),shA4 (s.funcs.map Fnc.C),shA5 (s.cells.map Cel.C),shA6 (s.ports.map Por.C),shA7 (s.stores.map Sto.C),shA8 (s.recipes.map Rcp.C)] [.one (.ptr 0 0),.one (.ptr 1 0)] [rdS L j,shB s.name 10 3 4 5 6 7 8 9 (s.imports++[x]).length s.inputs.length s.tables.length s.funcs.length s.cells.length s.ports.length s.stores.length s.recipes.length,.dead,shA2 (s.inputs.map Inp.C),shA3 (s.tables.map Tb.C),shA4 (s.funcs.map Fnc.C),shA5 (s.cells.map Cel.C),shA6 (s.ports.map Por.C),shA7 (s.stores.map Sto.C),shA8 (s.recipes.map Rcp.C),shA1 ((s.imports++[x]).map Imp.C)] (.tup []):=by
 have cw:wod Γ prog 175 [rdS L i] [.one (.ptr 0 0),.one (.dat (xan zft))] [rdS L i1] (.one (.dat (cI 0))):=yei hl (by decide) hw;have c1:=ymi (Γ:=Γ) hl h;clear h;clear hw;refine wod.run [] Go.Proofs.Tryz.func148 rfl rfl ?_;simp only [Go.Proofs.Tryz.f148];refine hgR ?_
 repeat' ((first | refine hfk ?_ ?_<;>intros | refine hik ?_)<;>refine hgS ?_)
 refine xwj [0] cw rfl (by decide) rfl rfl rfl ?_;clear cw;refine hg2 @decide_true @decide_false ?_
 repeat' ((first | refine hfk ?_ ?_<;>intros | refine hik ?_)<;>refine hgS ?_)
 refine ykh [0] [(0,rdS L j)] c1 rfl (by decide) rfl rfl rfl rfl ?_;refine hg ?_
 repeat' ((first | refine hfk ?_ ?_<;>intros | refine hik ?_)<;>refine hgS ?_)
 exact StH.done 11 rfl (by kernel_rfl) rfl (by simp only [List.length_append,List.length_map,List.map_append,List.map_cons,List.map_nil];rfl)
theorem vmn {L:List Tk} {i:Nat} {s:Sht} {i1 j:Nat} {x:Inp} (hl:L.length<=1048576) (_ht:∀ a,(L.getD a default).t.size<=1048576) (hs:s.inputs.length<=1048576) (hw:x3s L i zft=some (1,i1)) (h:x4h L i1=some (x,j)):wod Γ prog 148 [rdS L i,shB s.name 2 3 4 5 6 7 8 9 s.imports.length s.inputs.length s.tables.length s.funcs.length s.cells.length s.ports.length s.stores.length s.recipes.length,shA1 (s.imports.map Imp.C),shA2 (s.inputs.map Inp.C),shA3 (s.tables.map Tb.C),shA4 (s.funcs.map Fnc.C),shA5 (s.cells.map Cel.C),shA6 (s.ports.map Por.C),shA7 (s.stores.map Sto.C),shA8 (s.recipes.map Rcp.C)] [.one (.ptr 0 0),.one (.ptr 1 0)] [rdS L j,shB s.name 2 10 4 5 6 7 8 9 s.imports.length (s.inputs++[x]).length s.tables.length s.funcs.length s.cells.length s.ports.length s.stores.length s.recipes.length,shA1 (s.imports.map Imp.C),.dead,shA3 (s.tables.map Tb.C),shA4 (s.funcs.map Fnc.C),shA5 (s.cells.map Cel.C),shA6 (s.ports.map Por.C),shA7 (s.stores.map Sto.C),shA8 (s.recipes.map Rcp.C),shA2 ((s.inputs++[x]).map Inp.C)] (.tup []):=by
 have cw:wod Γ prog 175 [rdS L i] [.one (.ptr 0 0),.one (.dat (xan zft))] [rdS L i1] (.one (.dat (cI 1))):=yei hl (by decide) hw;have c1:=wck (Γ:=Γ) hl h;clear h;clear hw;refine wod.run [] Go.Proofs.Tryz.func148 rfl rfl ?_;simp only [Go.Proofs.Tryz.f148];refine hgR ?_
 repeat' ((first | refine hfk ?_ ?_<;>intros | refine hik ?_)<;>refine hgS ?_)
 refine xwj [0] cw rfl (by decide) rfl rfl rfl ?_;clear cw;refine hg2 @decide_true @decide_false ?_
 repeat' ((first | refine hfk ?_ ?_<;>intros | refine hik ?_)<;>refine hgS ?_)
 refine ykh [0] [(0,rdS L j)] c1 rfl (by decide) rfl rfl rfl rfl ?_;refine hg ?_
 repeat' ((first | refine hfk ?_ ?_<;>intros | refine hik ?_)<;>refine hgS ?_)
 exact StH.done 11 rfl (by kernel_rfl) rfl (by simp only [List.length_append,List.length_map,List.map_append,List.map_cons,List.map_nil];rfl)
theorem vkg {L:List Tk} {i:Nat} {s:Sht} {i1 j:Nat} {x:Rcp} (hl:L.length<=1048576) (_ht:∀ a,(L.getD a default).t.size<=1048576) (hs:s.recipes.length<=1048576) (hw:x3s L i zft=some (7,i1)) (h:vap L i1=some (x,j)):wod Γ prog 148 [rdS L i,shB s.name 2 3 4 5 6 7 8 9 s.imports.length s.inputs.length s.tables.length s.funcs.length s.cells.length s.ports.length s.stores.length s.recipes.length,shA1 (s.imports.map Imp.C),shA2 (s.inputs.map Inp.C),shA3 (s.tables.map Tb.C),shA4 (s.funcs.map Fnc.C),shA5 (s.cells.map Cel.C),shA6 (s.ports.map Por.C),shA7 (s.stores.map Sto.C),shA8 (s.recipes.map Rcp.C)] [.one (.ptr 0 0),.one (.ptr 1 0)] [rdS L j,shB s.name 2 3 4 5 6 7 8 10 s.imports.length s.inputs.length s.tables.length s.funcs.length s.cells.length s.ports.length s.stores.length (s.recipes++[x]).length,shA1 (s.imports.map Imp.C),shA2 (s.inputs.map Inp.C),shA3 (s.tables.map Tb.C),shA4 (s.funcs.map Fnc.C),shA5 (s.cells.map Cel.C),shA6 (s.ports.map Por.C),shA7 (s.stores.map Sto.C),.dead,shA8 ((s.recipes++[x]).map Rcp.C)] (.tup []):=by
 have cw:wod Γ prog 175 [rdS L i] [.one (.ptr 0 0),.one (.dat (xan zft))] [rdS L i1] (.one (.dat (cI 7))):=yei hl (by decide) hw;have c1:=xzj (Γ:=Γ) hl h;clear h;clear hw;refine wod.run [] Go.Proofs.Tryz.func148 rfl rfl ?_;simp only [Go.Proofs.Tryz.f148];refine hgR ?_
 repeat' ((first | refine hfk ?_ ?_<;>intros | refine hik ?_)<;>refine hgS ?_)
 refine xwj [0] cw rfl (by decide) rfl rfl rfl ?_;clear cw;refine hg2 @decide_true @decide_false ?_
 repeat' ((first | refine hfk ?_ ?_<;>intros | refine hik ?_)<;>refine hgS ?_)
 refine ykh [0] [(0,rdS L j)] c1 rfl (by decide) rfl rfl rfl rfl ?_;refine hg ?_
 repeat' ((first | refine hfk ?_ ?_<;>intros | refine hik ?_)<;>refine hgS ?_)
 exact StH.done 11 rfl (by kernel_rfl) rfl (by simp only [List.length_append,List.length_map,List.map_append,List.map_cons,List.map_nil];rfl)
theorem x20 {L:List Tk} {i:Nat} {s:Sht} {i1 j:Nat} {x:Cel} (hl:L.length<=1048576) (ht:∀ a,(L.getD a default).t.size<=1048576) (hs:s.cells.length<=1048576) (hw:x3s L i zft=some (4,i1)) (h:((v2n L i1).bind fun n=>(y07 L n.2).bind fun u=>(yz3 L u.2).map fun y=>(⟨n.1,u.1,y.1⟩,y.2))=some (x,j)):wod Γ prog 148 [rdS L i,shB s.name 2 3 4 5 6 7 8 9 s.imports.length s.inputs.length s.tables.length s.funcs.length s.cells.length s.ports.length s.stores.length s.recipes.length,shA1 (s.imports.map Imp.C),shA2 (s.inputs.map Inp.C),shA3 (s.tables.map Tb.C),shA4 (s.funcs.map Fnc.C),shA5 (s.cells.map Cel.C),shA6 (s.ports.map Por.C),shA7 (s.stores.map Sto.C),shA8 (s.recipes.map Rcp.C)] [.one (.ptr 0 0),.one (.ptr 1 0)] [rdS L j,shB s.name 2 3 4 5 10 7 8 9 s.imports.length s.inputs.length s.tables.length s.funcs.length (s.cells++[x]).length s.ports.length s.stores.length s.recipes.length,shA1 (s.imports.map Imp.C),shA2 (s.inputs.map Inp.C),shA3 (s.tables.map Tb.C),shA4 (s.funcs.map Fnc.C),.dead,shA6 (s.ports.map Por.C),shA7 (s.stores.map Sto.C),shA8 (s.recipes.map Rcp.C),shA5 ((s.cells++[x]).map Cel.C)] (.tup []):=by
 have cw:wod Γ prog 175 [rdS L i] [.one (.ptr 0 0),.one (.dat (xan zft))] [rdS L i1] (.one (.dat (cI 4))):=yei hl (by decide) hw;obtain ⟨⟨n,i2⟩,h1,h⟩:=Option.bind_eq_some_iff.1 h;obtain ⟨⟨u,i3⟩,h2,h⟩:=Option.bind_eq_some_iff.1 h;obtain ⟨⟨y,i4⟩,h3,h⟩:=Option.map_eq_some_iff.1 h;simp only [Prod.mk.injEq] at h;obtain ⟨rfl,rfl⟩:=h;have c1:=zn1 (Γ:=Γ) hl h1;have c2:=w0q (Γ:=Γ) hl h2;have c3:=y5v (Γ:=Γ) hl ht h3;clear h1 h2 h3;clear hw;refine wod.run [] Go.Proofs.Tryz.func148 rfl rfl ?_;simp only [Go.Proofs.Tryz.f148];refine hgR ?_
 repeat' ((first | refine hfk ?_ ?_<;>intros | refine hik ?_)<;>refine hgS ?_)
 refine xwj [0] cw rfl (by decide) rfl rfl rfl ?_;clear cw;refine hg2 @decide_true @decide_false ?_
 repeat' ((first | refine hfk ?_ ?_<;>intros | refine hik ?_)<;>refine hgS ?_)
 refine ykh [0] [(0,rdS L i2)] c1 rfl (by decide) rfl rfl rfl rfl ?_;refine hg ?_
 repeat' ((first | refine hfk ?_ ?_<;>intros | refine hik ?_)<;>refine hgS ?_)
 refine ykh [0] [(0,rdS L i3)] c2 rfl (by decide) rfl rfl rfl rfl ?_;refine hg ?_
 repeat' ((first | refine hfk ?_ ?_<;>intros | refine hik ?_)<;>refine hgS ?_)
 refine ykh [0] [(0,rdS L i4)] c3 rfl (by decide) rfl rfl rfl rfl ?_;refine hg ?_
 repeat' ((first | refine hfk ?_ ?_<;>intros | refine hik ?_)<;>refine hgS ?_)
 exact StH.done 11 rfl (by kernel_rfl) rfl (by simp only [List.length_append,List.length_map,List.map_append,List.map_cons,List.map_nil];rfl)
theorem y99 {L:List Tk} {i:Nat} {s:Sht} {i1 j:Nat} {x:Por} (hl:L.length<=1048576) (_ht:∀ a,(L.getD a default).t.size<=1048576) (hs:s.ports.length<=1048576) (hw:x3s L i zft=some (5,i1)) (h:((v2n L i1).bind fun n=>(y07 L n.2).bind fun u=>(numM L u.2).bind fun a=>(zo1 L [⟨#[59]⟩] a.2).map fun j=>(⟨n.1,u.1,a.1⟩,j))=some (x,j)):wod Γ prog 148 [rdS L i,shB s.name 2 3 4 5 6 7 8 9 s.imports.length s.inputs.length s.tables.length s.funcs.length s.cells.length s.ports.length s.stores.length s.recipes.length,shA1 (s.imports.map Imp.C),shA2 (s.inputs.map Inp.C),shA3 (s.tables.map Tb.C),shA4 (s.funcs.map Fnc.C),shA5 (s.cells.map Cel.C),shA6 (s.ports.map Por.C),shA7 (s.stores.map Sto.C),shA8 (s.recipes.map Rcp.C)] [.one (.ptr 0 0),.one (.ptr 1 0)] [rdS L j,shB s.name 2 3 4 5 6 10 8 9 s.imports.length s.inputs.length s.tables.length s.funcs.length s.cells.length (s.ports++[x]).length s.stores.length s.recipes.length,shA1 (s.imports.map Imp.C),shA2 (s.inputs.map Inp.C),shA3 (s.tables.map Tb.C),shA4 (s.funcs.map Fnc.C),shA5 (s.cells.map Cel.C),.dead,shA7 (s.stores.map Sto.C),shA8 (s.recipes.map Rcp.C),shA6 ((s.ports++[x]).map Por.C)] (.tup []):=by
 have cw:wod Γ prog 175 [rdS L i] [.one (.ptr 0 0),.one (.dat (xan zft))] [rdS L i1] (.one (.dat (cI 5))):=yei hl (by decide) hw;obtain ⟨⟨n,i2⟩,h1,h⟩:=Option.bind_eq_some_iff.1 h;obtain ⟨⟨u,i3⟩,h2,h⟩:=Option.bind_eq_some_iff.1 h;obtain ⟨⟨y,i4⟩,h3,h⟩:=Option.bind_eq_some_iff.1 h;obtain ⟨i5,h4,h⟩:=Option.map_eq_some_iff.1 h;simp only [Prod.mk.injEq] at h;obtain ⟨rfl,rfl⟩:=h;have c1:=zn1 (Γ:=Γ) hl h1;have c2:=w0q (Γ:=Γ) hl h2;have c3:=y7j (Γ:=Γ) hl h3;have c4:=x5h (Γ:=Γ) hl h4;clear h1 h2 h3 h4;clear hw;refine wod.run [] Go.Proofs.Tryz.func148 rfl rfl ?_;simp only [Go.Proofs.Tryz.f148];refine hgR ?_
 repeat' ((first | refine hfk ?_ ?_<;>intros | refine hik ?_)<;>refine hgS ?_)
 refine xwj [0] cw rfl (by decide) rfl rfl rfl ?_;clear cw;refine hg2 @decide_true @decide_false ?_
 repeat' ((first | refine hfk ?_ ?_<;>intros | refine hik ?_)<;>refine hgS ?_)
 refine ykh [0] [(0,rdS L i2)] c1 rfl (by decide) rfl rfl rfl rfl ?_;refine hg ?_
 repeat' ((first | refine hfk ?_ ?_<;>intros | refine hik ?_)<;>refine hgS ?_)
 refine ykh [0] [(0,rdS L i3)] c2 rfl (by decide) rfl rfl rfl rfl ?_;refine hg ?_
 repeat' ((first | refine hfk ?_ ?_<;>intros | refine hik ?_)<;>refine hgS ?_)
 refine ykh [0] [(0,rdS L i4)] c3 rfl (by decide) rfl rfl rfl rfl ?_;refine hg ?_
 repeat' ((first | refine hfk ?_ ?_<;>intros | refine hik ?_)<;>refine hgS ?_)
 refine xwj [0] c4 rfl (by decide) rfl rfl rfl ?_;refine hg ?_
 repeat' ((first | refine hfk ?_ ?_<;>intros | refine hik ?_)<;>refine hgS ?_)
 exact StH.done 11 rfl (by kernel_rfl) rfl (by simp only [List.length_append,List.length_map,List.map_append,List.map_cons,List.map_nil];rfl)
theorem wtg {L:List Tk} {i:Nat} {s:Sht} {i1 j:Nat} {x:Sto} (hl:L.length<=1048576) (_ht:∀ a,(L.getD a default).t.size<=1048576) (hs:s.stores.length<=1048576) (hw:x3s L i zft=some (6,i1)) (h:((v2n L i1).bind fun n=>(y07 L n.2).bind fun u=>(x3s L u.2 xi7).bind fun r=>(zo1 L [⟨#[59]⟩] r.2).map fun j=>(⟨n.1,u.1,r.1⟩,j))=some (x,j)):wod Γ prog 148 [rdS L i,shB s.name 2 3 4 5 6 7 8 9 s.imports.length s.inputs.length s.tables.length s.funcs.length s.cells.length s.ports.length s.stores.length s.recipes.length,shA1 (s.imports.map Imp.C),shA2 (s.inputs.map Inp.C),shA3 (s.tables.map Tb.C),shA4 (s.funcs.map Fnc.C),shA5 (s.cells.map Cel.C),shA6 (s.ports.map Por.C),shA7 (s.stores.map Sto.C),shA8 (s.recipes.map Rcp.C)] [.one (.ptr 0 0),.one (.ptr 1 0)] [rdS L j,shB s.name 2 3 4 5 6 7 10 9 s.imports.length s.inputs.length s.tables.length s.funcs.length s.cells.length s.ports.length (s.stores++[x]).length s.recipes.length,shA1 (s.imports.map Imp.C),shA2 (s.inputs.map Inp.C),shA3 (s.tables.map Tb.C),shA4 (s.funcs.map Fnc.C),shA5 (s.cells.map Cel.C),shA6 (s.ports.map Por.C),.dead,shA8 (s.recipes.map Rcp.C),shA7 ((s.stores++[x]).map Sto.C)] (.tup []):=by
 have cw:wod Γ prog 175 [rdS L i] [.one (.ptr 0 0),.one (.dat (xan zft))] [rdS L i1] (.one (.dat (cI 6))):=yei hl (by decide) hw;obtain ⟨⟨n,i2⟩,h1,h⟩:=Option.bind_eq_some_iff.1 h;obtain ⟨⟨u,i3⟩,h2,h⟩:=Option.bind_eq_some_iff.1 h;obtain ⟨⟨y,i4⟩,h3,h⟩:=Option.bind_eq_some_iff.1 h;obtain ⟨i5,h4,h⟩:=Option.map_eq_some_iff.1 h;simp only [Prod.mk.injEq] at h;obtain ⟨rfl,rfl⟩:=h;have c1:=zn1 (Γ:=Γ) hl h1;have c2:=w0q (Γ:=Γ) hl h2;have c3:=yei (Γ:=Γ) hl (by decide) h3;have c4:=x5h (Γ:=Γ) hl h4;clear h1 h2 h3 h4;clear hw;refine wod.run [] Go.Proofs.Tryz.func148 rfl rfl ?_;simp only [Go.Proofs.Tryz.f148];refine hgR ?_
 repeat' ((first | refine hfk ?_ ?_<;>intros | refine hik ?_)<;>refine hgS ?_)
 refine xwj [0] cw rfl (by decide) rfl rfl rfl ?_;clear cw;refine hg2 @decide_true @decide_false ?_
 repeat' ((first | refine hfk ?_ ?_<;>intros | refine hik ?_ | with_reducible first | refine y5k (vwe) ?_ | refine x4p (vwe) ?_)<;>refine hgS ?_)
 refine ykh [0] [(0,rdS L i2)] c1 rfl (by decide) rfl rfl rfl rfl ?_;refine hg ?_
 repeat' ((first | refine hfk ?_ ?_<;>intros | refine hik ?_ | with_reducible first | refine y5k (vwe) ?_ | refine x4p (vwe) ?_)<;>refine hgS ?_)
 refine ykh [0] [(0,rdS L i3)] c2 rfl (by decide) rfl rfl rfl rfl ?_;refine hg ?_
 repeat' ((first | refine hfk ?_ ?_<;>intros | refine hik ?_ | with_reducible first | refine y5k (vwe) ?_ | refine x4p (vwe) ?_)<;>refine hgS ?_)
 refine ykh [0] [(0,rdS L i4)] c3 rfl (by decide) rfl rfl rfl rfl ?_;refine hg ?_
 repeat' ((first | refine hfk ?_ ?_<;>intros | refine hik ?_ | with_reducible first | refine y5k (vwe) ?_ | refine x4p (vwe) ?_)<;>refine hgS ?_)
 refine xwj [0] c4 rfl (by decide) rfl rfl rfl ?_;refine hg ?_
 repeat' ((first | refine hfk ?_ ?_<;>intros | refine hik ?_ | with_reducible first | refine y5k (vwe) ?_ | refine x4p (vwe) ?_)<;>refine hgS ?_)
 exact StH.done 11 rfl (by kernel_rfl) rfl (by simp only [List.length_append,List.length_map,List.map_append,List.map_cons,List.map_nil];rfl)
end Go.Hp.T
namespace Go.Hp
open Go Go.RowKit Go.Slot
variable {P:Program} {Γ:List (Nat×List Cell)}
def wxe (P:Program) (d:Deferred):Prop:=∃ fv cap fc args v,d.target=.fn fv cap/\(∀ w,(invoke d.target d.args).run P w=.ok (.enter fc args) w)/\∀ w,Go.CallsD P fc args .returning w (fun e u w'=>e=.returned v/\u=.returning/\w'=w)
theorem wxe.leaves {d:Deferred} (h:wxe P d) {fn:Func} {tmps:Array Value} {R:Ending->World->Prop} {w:World} {v:Value} (hr:(results fn tmps).run P w=.ok v w) (hR:R (.returned v) w):Leaves P fn tmps R [d] .returning w:=by
 obtain ⟨fv,cap,fc,args,v',ht,hi,hc⟩:=h;obtain ⟨t,da⟩:=d;simp only at ht hi;subst ht;refine leaves_cons (by intro h;cases h) (hi w) ((hc w).mono ?_);rintro e u w' ⟨rfl,rfl,rfl⟩;exact ⟨v,hr,hR⟩
def PreD (Γ:List (Nat×List Cell)) (P:Program) (e:List SB) (c:Code) (J:List SV) (η:List SB) (J':List SV) (η':List SB):Prop:=
 ∀(w0:World) (Mo:Nat->Nat->Prop) (ρ0 ρ:Nat->Value) (a:Act) (w:World),HInv Γ Mo ρ0 e w0->RI Γ ⟨w0,Mo,ρ0,e,[]⟩ ρ J η a w->
  c.wp P (fun ex a' w'=>ex=.normal/\∃ d ρ',wxe P d/\RI Γ ⟨w0,Mo,ρ0,e,[d]⟩ ρ' J' η' a' w') a w
theorem RI.defer {w0:World} {Mo:Nat->Nat->Prop} {ρ0 ρ:Nat->Value} {e:List SB} {J:List SV} {η:List SB} {a:Act} {w:World} {d:Deferred} (h:RI Γ ⟨w0,Mo,ρ0,e,[]⟩ ρ J η a w):RI Γ ⟨w0,Mo,ρ0,e,[d]⟩ ρ J η { a with defers:=d::a.defers } w:=
 ⟨by show d::a.defers=[d];rw [h.hd],h.hs,h.slot,h.went⟩
theorem wod.vo4 (G:List (Nat×List GhH)) {f:FuncId} {fn:Func} {c0 c1 c:Code} {η η' η0 η1:List SB} {σ0 σ1:List SV} {args:List SV} {res:SV} (hf:P.funcs[f]? = some fn) (hb:fn.body=some (c0.seq (c1.seq c))) (hname:(fn.name == "runtime.NumGoroutine")=false)
 (h0:z1o Γ P η c0 (fun ex J η'=>ex=.normal/\J=σ0/\η'=η0) (args++List.replicate (fn.ntmps-args.length) .undef) η)
 (h1:PreD Γ P η c1 σ0 η0 σ1 η1)
 (h:RH Γ P η G c true (zix Γ P η fn.results.toList η' res) (y9k σ1) η1):wod Γ P f η args η' res:=by
 rw [wf8] at h
 have hc:=(RH.sound c true _ _ _ h).mono (Q':=retH Γ P η fn.results.toList η' res) (by
  intro ex J η1 ⟨b,h⟩
  cases ex with
  | normal=>exact wtt h
  | ret=>exact wtt h
  | _=>exact h.elim)
 refine ⟨⟨fn,hf,hname,by rw [hb];rfl⟩,fun Mo ρ w vs hinv hsr=>?_⟩;have hlen:=hsr.length;refine calls_of_wp_defers hf hb ?_
 have hsz:vs.toArray.size=args.length:=by simp [hlen]
 rw [hsz];have hst:=RI.start hinv hsr (fn.ntmps-args.length);refine wp_seq (wp_mono (h0 _ _ _ w ⟨rfl,hinv⟩ hst) ?_);rintro e a w1 ⟨σx,ηx,ρ1,⟨rfl,hx1,hx2⟩,hR1⟩;rw [hx1,hx2] at hR1;refine wp_seq (wp_mono (h1 w Mo ρ ρ1 a w1 hinv hR1) ?_);rintro e a w2 ⟨rfl,d,ρ2,hd,hR2⟩;refine wp_mono (hc _ _ _ w2 ⟨rfl,hinv⟩ hR2) ?_;rintro e a w' ⟨J,η2,ρ2,hq,hR⟩
 have fin:(∃ x,xn6 P J η2 fn.results.toList=some x/\StH Γ η [x] η2 [res] η')->Leaves P fn a.tmps (wmh Γ Mo ρ η w η' res) a.defers .returning w':=by
  rintro ⟨x,h2,h3⟩;obtain ⟨v,hrun,hv⟩:=xp2 (fn:=fn) hR h2
  have hI1:RI Γ ⟨w,Mo,ρ,η,[]⟩ ρ2 [x] η2 { tmps:=#[v],defers:=[] } w':=⟨rfl,rfl,fun i y hi=>by
   cases i with
   | zero=>simp at hi;subst hi;exact hv
   | succ i=>simp at hi,hR.went⟩
  obtain ⟨ρ3,hI2⟩:=h3 _ ρ2 _ w' ⟨rfl,hinv⟩ hI1;rw [hR.hd];exact hd.leaves hrun ⟨v,ρ3,rfl,hI2.went,hI2.slot 0 res rfl⟩
 cases e with
 | normal=>exact fin hq
 | ret=>exact fin hq
 | _=>exact hq.elim
end Go.Hp
namespace Go.Hp.T
open Go Go.RowKit Go.Slot Go.Hp Go.Slot.T
open Go.Proofs.Tryz (prog)
set_option maxRecDepth 10000
set_option maxHeartbeats 8000000
variable {Γ:List (Nat×List Cell)}
theorem w4d (p q:Value) (w:World):Go.CallsD prog 144 #[p,q] .returning w fun e u' w'=>e=.returned (.tuple #[])/\u'=.returning/\w'=w:=by
 refine callsD_of_wpS Go.Proofs.Tryz.func144 rfl fun c₀ cs hu=>?_
 apply wpS_seq;apply wpS_region;simp [wpOpsS,go_sem,recoverD,hu,Exit.thenS];apply wpS_seq;apply wpS_region;simp [wpOpsS,go_sem,Exit.thenS];refine wpS_cond (t:=false) (by simp [Act.eval,Array.replicate]) ?_;simp only [Bool.false_eq_true,if_false];refine wpS_of_wp (wp_skip ?_)
 cases c₀;simp_all [bodyPostS,results]
theorem ybr (p q:Value):wxe prog ⟨.fn (.func 144) #[p,q],#[]⟩:=
 ⟨_,_,144,#[p,q],.tuple #[],rfl,fun w=>by simp [go_sem],w4d p q⟩
theorem wcl {n id:Nat} {e:List SB} {J:List SV} {η:List SB} {o1 o2:Oper} (h:4<J.length) (h1:o1.op=.makeFunc (.func n) #[] #[.tmp 2,.tmp 3]) (h1d:o1.dst=some 4) (h1g:o1.guard=none)
 (h2:o2.op=.defer { callee:=.value (.tmp 4),args:=#[],argTypes:=#[] }) (h2d:o2.dst=none) (h2g:o2.guard=none) (hi:∀ p q,wxe prog ⟨.fn (.func n) #[p,q],#[]⟩) :
 PreD Γ prog e (.region id #[o1,o2] false) J η (J.set 4 .any) η:=by
 have hmf:∀(fn:Fn) (first cap:Array Value) (w:World),(Instr.makeFunc fn first cap).run prog w=.ok (.func fn first cap) w:=fun _ _ _ _=>rfl
 intro w0 Mo ρ0 ρ a w hinv hR;apply wp_region
 have hsz:4<a.tmps.size:=by rw [hR.hs];exact h
 show wpOps _ _ _ [0,1] a w;simp [wpOps,h1g,h2g,Region.wanted,Oper.wp,Oper.upon,execOp,h1,h2,hmf,h1d,h2d,resolve,Deferred.ofValue,Act.put,Act.eval,hsz];exact .inl (.inl ⟨_,hi _ _,ρ,RI.defer (hR.put (d:=4) (x:=.any) trivial)⟩)
end Go.Hp.T
namespace Go.Hp
open Go Go.RowKit Go.Slot
variable {P:Program} {Γ:List (Nat×List Cell)}
theorem z1o.ofRH {G:List (Nat×List GhH)} {e:List SB} {c:Code} {J σ0:List SV} {η η0:List SB} (h:RH Γ P e G c true (fun ex _ J' η'=>ex=.normal/\J'=σ0/\η'=η0) (y9k J) η):z1o Γ P e c (fun ex J η'=>ex=.normal/\J=σ0/\η'=η0) J η:=by
 rw [wf8] at h;exact (RH.sound c true _ _ _ h).mono (fun ex J η1 ⟨_,h⟩=>h)
end Go.Hp
namespace Go.Hp.T
open Go Go.RowKit Go.Slot Go.Hp Go.Slot.T
open Go.Proofs.Tryz (prog)
attribute [local irreducible] hide RH
set_option maxRecDepth 10000
set_option maxHeartbeats 8000000
variable {Γ:List (Nat×List Cell)}
def Sht.C (s:Sht):List Cell:=[cS s.name,.sl 6 (s.imports.map Imp.C),.sl 3 (s.inputs.map Inp.C),.sl 3 (s.tables.map Tb.C),.sl 7 (s.funcs.map Fnc.C),.sl 7 (s.cells.map Cel.C),.sl 3 (s.ports.map Por.C),.sl 3 (s.stores.map Sto.C),.sl 2 (s.recipes.map Rcp.C)]
abbrev shtC (s:Sht):List Cell:=[cS s.name,.sl 6 (s.imports.map Imp.C),.sl 3 (s.inputs.map Inp.C),.sl 3 (s.tables.map Tb.C),.sl 7 (s.funcs.map Fnc.C),.sl 7 (s.cells.map Cel.C),.sl 3 (s.ports.map Por.C),.sl 3 (s.stores.map Sto.C),.sl 2 (s.recipes.map Rcp.C)]
theorem Sht.C_eq (s:Sht):s.C=shtC s:=rfl
attribute [go_sem] Sht.C_eq
def Sht.sz (s:Sht):Nat:=s.imports.length+s.inputs.length+s.tables.length+s.funcs.length+s.cells.length+s.ports.length+s.stores.length+s.recipes.length
theorem v2d {e η η':List SB} {l sl:List SV} {avs:List AV} {bs:List Nat} {J':List SV} (m:Nat) (h:vc1 η l=some (avs,bs)) (hs:x7f avs=some sl) (hm:Nat.ble e.length m=true) (hc:xol m [SV.tup sl] (appL (frzE η bs) η)=true) (hσ:[SV.tup sl]=J') (hη:(appL (frzE η bs) η).take m=η') :
 StH Γ e [.tup l] η J' η':=
 StH.trans (StH.frzT h hs) (StH.done m hm hc hσ hη)
def yxh (L:List Tk):Prop:=∀ i k j,x3s L i zft=some (k,j)->k≠2/\k≠3
abbrev wr0:SB:=.box [.dat (cI 0),.dat (cI 0)] (some 174)
abbrev rdBs (L:List Tk) (s:Sht) (j:Nat):List SB:=[rdS L j,shB s.name 3 4 5 6 7 8 9 10 s.imports.length s.inputs.length s.tables.length s.funcs.length s.cells.length s.ports.length s.stores.length s.recipes.length,wr0,shA1 (s.imports.map Imp.C),shA2 (s.inputs.map Inp.C),shA3 (s.tables.map Tb.C),shA4 (s.funcs.map Fnc.C),shA5 (s.cells.map Cel.C),shA6 (s.ports.map Por.C),shA7 (s.stores.map Sto.C),shA8 (s.recipes.map Rcp.C)]
theorem yt5 {L:List Tk} {s:Sht} {j:Nat}:vc1 (rdBs L s j) [.agg [.dat (cS s.name),.sl 3 6 0 s.imports.length,.sl 4 3 0 s.inputs.length,.sl 5 3 0 s.tables.length,.sl 6 7 0 s.funcs.length,.sl 7 7 0 s.cells.length,.sl 8 3 0 s.ports.length,.sl 9 3 0 s.stores.length,.sl 10 2 0 s.recipes.length],.agg [.dat (cI 0),.dat (cI 0)]]=some ([.agg s.C,.agg [cI 0,cI 0]],[3,4,5,6,7,8,9,10]):=by
 simp [vc1,argD,wa3,vdl,gB,rdBs,Cell.esz,Cell.cnt,subC,Sht.C]
theorem wjl {L:List Tk} {s:Sht} (hl:L.length<=1048576) (ht:∀ a,(L.getD a default).t.size<=1048576) (hp:yxh L) (h:vuf L=some s):wod Γ prog 114 [rdS L 0] [.one (.ptr 0 0)] [rdS L L.length] (.tup [.agg (s.C.map .dat),.agg [.dat (cI 0),.dat (cI 0)]]):=by
 unfold vuf at h;obtain ⟨i1,h1,h⟩:=Option.bind_eq_some_iff.1 h;obtain ⟨⟨nm,i2⟩,h2,h⟩:=Option.bind_eq_some_iff.1 h;dsimp only at h;obtain ⟨i3,h3,h⟩:=Option.bind_eq_some_iff.1 h;obtain ⟨⟨s',i4⟩,h4,h⟩:=Option.bind_eq_some_iff.1 h;dsimp only at h
 obtain ⟨rfl,rfl⟩:L.length=i4/\s'=s:=by
  by_cases he:i4=L.length
  . rw [decide_eq_true he,cond_true] at h;exact ⟨he.symm,Option.some.inj h⟩
  . rw [decide_eq_false he] at h;cases h
 have c1:=x5h (Γ:=Γ) hl h1;have c2:=zn1 (Γ:=Γ) hl h2;have c3:=x5h (Γ:=Γ) hl h3;clear h h1 h2 h3;refine wod.vo4 [] (σ0:=[.one (.ptr 0 0),.undef,.one (.ptr 1 0),.one (.ptr 2 0)]++List.replicate 29 .undef) (η0:=[rdS L 0,.box [.dat (cS ⟨#[]⟩),.dat .zc,.dat .zc,.dat .zc,.dat .zc,.dat .zc,.dat .zc,.dat .zc,.dat .zc] (some 31),wr0]) Go.Proofs.Tryz.func114 rfl rfl (z1o.ofRH (G:=[]) ?_) (wcl (by decide) rfl rfl rfl rfl rfl rfl (fun p q=>ybr p q)) ?_
 . refine hgR ?_;exact rfl
 refine hgR ?_
 repeat' ((first | refine hfk ?_ ?_<;>intros | refine hik ?_)<;>refine hgS ?_)
 refine xwj [0] c1 rfl (by decide) rfl rfl rfl ?_;refine hg ?_
 repeat' ((first | refine hfk ?_ ?_<;>intros | refine hik ?_)<;>refine hgS ?_)
 refine xwj [0] c2 rfl (by decide) rfl rfl rfl ?_;refine hg ?_
 repeat' ((first | refine hfk ?_ ?_<;>intros | refine hik ?_)<;>refine hgS ?_)
 refine xwj [0] c3 rfl (by decide) rfl rfl rfl ?_;refine hg ?_
 repeat' ((first | refine hfk ?_ ?_<;>intros | refine hik ?_)<;>refine hgS ?_)
 refine wwt [0,2,3] (fun _:Sht×Nat×Nat=>[]) (fun x=>rdBs L x.1 x.2.1)
  (fun x=>x.1.sz+x.2.2<=L.length/\vih L x.2.2 x.1 x.2.1=some (s',L.length)) (fun x=>x.2.2) (⟨nm,[],[],[],[],[],[],[],[]⟩,i3,L.length) ⟨by simp [Sht.sz],h4⟩ ?_ ?_
 . refine hg ?_;refine StH.trans (StH.xeu 1 1 (es:=6) (c:=.sl 6 []) (T:=some 92) rfl rfl rfl (fun r hr=>by cases hr) rfl) ?_;refine hg ?_;refine StH.trans (StH.xeu 1 2 (es:=3) (c:=.sl 3 []) (T:=some 58) rfl rfl rfl (fun r hr=>by cases hr) rfl) ?_;refine hg ?_;refine StH.trans (StH.xeu 1 3 (es:=3) (c:=.sl 3 []) (T:=some 65) rfl rfl rfl (fun r hr=>by cases hr) rfl) ?_;refine hg ?_;refine StH.trans (StH.xeu 1 4 (es:=7) (c:=.sl 7 []) (T:=some 71) rfl rfl rfl (fun r hr=>by cases hr) rfl) ?_;refine hg ?_;refine StH.trans (StH.xeu 1 5 (es:=7) (c:=.sl 7 []) (T:=some 76) rfl rfl rfl (fun r hr=>by cases hr) rfl) ?_;refine hg ?_;refine StH.trans (StH.xeu 1 6 (es:=3) (c:=.sl 3 []) (T:=some 94) rfl rfl rfl (fun r hr=>by cases hr) rfl) ?_;refine hg ?_;refine StH.trans (StH.xeu 1 7 (es:=3) (c:=.sl 3 []) (T:=some 100) rfl rfl rfl (fun r hr=>by cases hr) rfl) ?_;refine hg ?_;refine StH.trans (StH.xeu 1 8 (es:=2) (c:=.sl 2 []) (T:=some 43) rfl rfl rfl (fun r hr=>by cases hr) rfl) ?_;refine hg ?_;exact StH.same svl rfl
 rintro ⟨s,k,f⟩ ⟨k1,hf⟩;dsimp only at k1 hf;clear h4
 cases f with
 | zero=>cases hf
 | succ f=>
  rw [vih] at hf;have ce:=vyj (Γ:=Γ) L k ⟨#[125]⟩ hl;unfold etA at ce
  cases he:etS L k ⟨#[125]⟩ with
  | true=>
   rw [he,cond_true] at hf ce;simp only [Option.some.injEq,Prod.mk.injEq] at hf;obtain ⟨rfl,hk⟩:=hf;rw [hk] at ce;clear he;refine hg ?_
   repeat' ((first | refine hfk ?_ ?_<;>intros | refine hik ?_)<;>refine hgS ?_)
   refine xwj [0] ce rfl (by decide) rfl rfl rfl ?_;refine hg ?_
   repeat' ((first | refine hfk ?_ ?_<;>intros | refine hik ?_)<;>refine hgS ?_)
   all_goals try (exfalso;omega)
   exact v2d 1 yt5 rfl rfl (by kernel_rfl) rfl rfl
  | false=>
   rw [he,cond_false] at hf ce;obtain ⟨⟨s2,k'⟩,hs,hf⟩:=Option.bind_eq_some_iff.1 hf;dsimp only at hf;unfold vs4 at hs;obtain ⟨⟨w,k2⟩,hw,hs⟩:=Option.bind_eq_some_iff.1 hs;have hw8:w<8:=wr9 hw;have hw23:=hp _ _ _ hw;clear he;unfold Sht.sz at k1
   obtain rfl | rfl | rfl | rfl | rfl | rfl:w=0\/w=1\/w=4\/w=5\/w=6\/w=7:=by omega
   . try dsimp only at hs
     obtain ⟨⟨x,k3⟩,hx,hs⟩:=Option.map_eq_some_iff.1 hs;simp only [Prod.mk.injEq] at hs;obtain ⟨rfl,rfl⟩:=hs;have ci:=xa5 (Γ:=Γ) (s:=s) hl ht (by omega) hw hx;refine hg ?_
     repeat' ((first | refine hfk ?_ ?_<;>intros | refine hik ?_)<;>refine hgS ?_)
     refine xwj [0] ce rfl (by decide) rfl rfl rfl ?_;refine hg ?_
     repeat' ((first | refine hfk ?_ ?_<;>intros | refine hik ?_)<;>refine hgS ?_)
     refine xwj [0,1,3,4,5,6,7,8,9,10] ci rfl (by decide) rfl rfl rfl ?_;refine hg ?_
     repeat' ((first | refine hfk ?_ ?_<;>intros | refine hik ?_)<;>refine hgS ?_)
     refine ⟨(_,_,f),⟨?_,hf⟩,by dsimp only;omega,?_⟩
     . unfold Sht.sz;simp only [List.length_append,List.length_singleton];omega
     refine StH.back [0,2,3] 3 11 11 rfl rfl rfl rfl rfl (by kernel_rfl) ?_;refine hg ?_;exact StH.same svl rfl
   . try dsimp only at hs
     obtain ⟨⟨x,k3⟩,hx,hs⟩:=Option.map_eq_some_iff.1 hs;simp only [Prod.mk.injEq] at hs;obtain ⟨rfl,rfl⟩:=hs;have ci:=vmn (Γ:=Γ) (s:=s) hl ht (by omega) hw hx;refine hg ?_
     repeat' ((first | refine hfk ?_ ?_<;>intros | refine hik ?_)<;>refine hgS ?_)
     refine xwj [0] ce rfl (by decide) rfl rfl rfl ?_;refine hg ?_
     repeat' ((first | refine hfk ?_ ?_<;>intros | refine hik ?_)<;>refine hgS ?_)
     refine xwj [0,1,3,4,5,6,7,8,9,10] ci rfl (by decide) rfl rfl rfl ?_;refine hg ?_
     repeat' ((first | refine hfk ?_ ?_<;>intros | refine hik ?_)<;>refine hgS ?_)
     refine ⟨(_,_,f),⟨?_,hf⟩,by dsimp only;omega,?_⟩
     . unfold Sht.sz;simp only [List.length_append,List.length_singleton];omega
     refine StH.back [0,2,3] 4 11 11 rfl rfl rfl rfl rfl (by kernel_rfl) ?_;refine hg ?_;exact StH.same svl rfl
   . try dsimp only at hs
     obtain ⟨⟨n,q2⟩,x1,hs⟩:=Option.bind_eq_some_iff.1 hs;obtain ⟨⟨u,q3⟩,x2,hs⟩:=Option.bind_eq_some_iff.1 hs;obtain ⟨⟨y,q4⟩,x3,hs⟩:=Option.map_eq_some_iff.1 hs;simp only [Prod.mk.injEq] at hs;obtain ⟨rfl,rfl⟩:=hs;have ci:=x20 (Γ:=Γ) (s:=s) (x:=⟨n,u,y⟩) (j:=q4) hl ht (by omega) hw (by rw [x1];dsimp only [Option.bind_some];rw [x2];dsimp only [Option.bind_some];rw [x3];rfl);refine hg ?_
     repeat' ((first | refine hfk ?_ ?_<;>intros | refine hik ?_)<;>refine hgS ?_)
     refine xwj [0] ce rfl (by decide) rfl rfl rfl ?_;refine hg ?_
     repeat' ((first | refine hfk ?_ ?_<;>intros | refine hik ?_)<;>refine hgS ?_)
     refine xwj [0,1,3,4,5,6,7,8,9,10] ci rfl (by decide) rfl rfl rfl ?_;refine hg ?_
     repeat' ((first | refine hfk ?_ ?_<;>intros | refine hik ?_)<;>refine hgS ?_)
     refine ⟨(_,_,f),⟨?_,hf⟩,by dsimp only;omega,?_⟩
     . unfold Sht.sz;simp only [List.length_append,List.length_singleton];omega
     refine StH.back [0,2,3] 7 11 11 rfl rfl rfl rfl rfl (by kernel_rfl) ?_;refine hg ?_;exact StH.same svl rfl
   . try dsimp only at hs
     obtain ⟨⟨n,q2⟩,x1,hs⟩:=Option.bind_eq_some_iff.1 hs;obtain ⟨⟨u,q3⟩,x2,hs⟩:=Option.bind_eq_some_iff.1 hs;obtain ⟨⟨y,q4⟩,x3,hs⟩:=Option.bind_eq_some_iff.1 hs;obtain ⟨q5,x4,hs⟩:=Option.map_eq_some_iff.1 hs;simp only [Prod.mk.injEq] at hs;obtain ⟨rfl,rfl⟩:=hs;have ci:=y99 (Γ:=Γ) (s:=s) (x:=⟨n,u,y⟩) (j:=q5) hl ht (by omega) hw (by rw [x1];dsimp only [Option.bind_some];rw [x2];dsimp only [Option.bind_some];rw [x3];dsimp only [Option.bind_some];rw [x4];rfl);refine hg ?_
     repeat' ((first | refine hfk ?_ ?_<;>intros | refine hik ?_)<;>refine hgS ?_)
     refine xwj [0] ce rfl (by decide) rfl rfl rfl ?_;refine hg ?_
     repeat' ((first | refine hfk ?_ ?_<;>intros | refine hik ?_)<;>refine hgS ?_)
     refine xwj [0,1,3,4,5,6,7,8,9,10] ci rfl (by decide) rfl rfl rfl ?_;refine hg ?_
     repeat' ((first | refine hfk ?_ ?_<;>intros | refine hik ?_)<;>refine hgS ?_)
     refine ⟨(_,_,f),⟨?_,hf⟩,by dsimp only;omega,?_⟩
     . unfold Sht.sz;simp only [List.length_append,List.length_singleton];omega
     refine StH.back [0,2,3] 8 11 11 rfl rfl rfl rfl rfl (by kernel_rfl) ?_;refine hg ?_;exact StH.same svl rfl
   . try dsimp only at hs
     obtain ⟨⟨n,q2⟩,x1,hs⟩:=Option.bind_eq_some_iff.1 hs;obtain ⟨⟨u,q3⟩,x2,hs⟩:=Option.bind_eq_some_iff.1 hs;obtain ⟨⟨y,q4⟩,x3,hs⟩:=Option.bind_eq_some_iff.1 hs;obtain ⟨q5,x4,hs⟩:=Option.map_eq_some_iff.1 hs;simp only [Prod.mk.injEq] at hs;obtain ⟨rfl,rfl⟩:=hs;have ci:=wtg (Γ:=Γ) (s:=s) (x:=⟨n,u,y⟩) (j:=q5) hl ht (by omega) hw (by rw [x1];dsimp only [Option.bind_some];rw [x2];dsimp only [Option.bind_some];rw [x3];dsimp only [Option.bind_some];rw [x4];rfl);refine hg ?_
     repeat' ((first | refine hfk ?_ ?_<;>intros | refine hik ?_)<;>refine hgS ?_)
     refine xwj [0] ce rfl (by decide) rfl rfl rfl ?_;refine hg ?_
     repeat' ((first | refine hfk ?_ ?_<;>intros | refine hik ?_)<;>refine hgS ?_)
     refine xwj [0,1,3,4,5,6,7,8,9,10] ci rfl (by decide) rfl rfl rfl ?_;refine hg ?_
     repeat' ((first | refine hfk ?_ ?_<;>intros | refine hik ?_)<;>refine hgS ?_)
     refine ⟨(_,_,f),⟨?_,hf⟩,by dsimp only;omega,?_⟩
     . unfold Sht.sz;simp only [List.length_append,List.length_singleton];omega
     refine StH.back [0,2,3] 9 11 11 rfl rfl rfl rfl rfl (by kernel_rfl) ?_;refine hg ?_;exact StH.same svl rfl
   . try dsimp only at hs
     obtain ⟨⟨x,k3⟩,hx,hs⟩:=Option.map_eq_some_iff.1 hs;simp only [Prod.mk.injEq] at hs;obtain ⟨rfl,rfl⟩:=hs;have ci:=vkg (Γ:=Γ) (s:=s) hl ht (by omega) hw hx;refine hg ?_
     repeat' ((first | refine hfk ?_ ?_<;>intros | refine hik ?_)<;>refine hgS ?_)
     refine xwj [0] ce rfl (by decide) rfl rfl rfl ?_;refine hg ?_
     repeat' ((first | refine hfk ?_ ?_<;>intros | refine hik ?_)<;>refine hgS ?_)
     refine xwj [0,1,3,4,5,6,7,8,9,10] ci rfl (by decide) rfl rfl rfl ?_;refine hg ?_
     repeat' ((first | refine hfk ?_ ?_<;>intros | refine hik ?_)<;>refine hgS ?_)
     refine ⟨(_,_,f),⟨?_,hf⟩,by dsimp only;omega,?_⟩
     . unfold Sht.sz;simp only [List.length_append,List.length_singleton];omega
     refine StH.back [0,2,3] 10 11 11 rfl rfl rfl rfl rfl (by kernel_rfl) ?_;refine hg ?_;exact StH.same svl rfl
end Go.Hp.T
namespace Go.Hp.T
open Go Go.RowKit Go.Slot Go.Hp Go.Slot.T
open Go.Proofs.Tryz (prog)
attribute [local irreducible] hide RH
set_option maxRecDepth 10000
set_option maxHeartbeats 8000000
variable {Γ:List (Nat×List Cell)}
theorem z9n (s:ByteArray):match w3y s with
 | .inl ts=>ts.length<=4001/\∀ x∈ts,x.t.size<=4401
 | .inr x=>x.2≠0:=by
 unfold w3y;by_cases h4:4000<(s.size:Int)
 . rw [decide_eq_true h4];show (6:Int)≠0;decide
 . rw [decide_eq_false h4,cond_false];have h:=wtz (s.size+1) (xom s) 0;rw [xe3] at h;generalize z3k (s.size+1) (xom s) 0=r at *
   cases r with
   | inr x=>exact h
   | inl ts=>exact ⟨by have:=h.1;omega,fun x hx=>by have:=h.2 x hx;omega⟩
theorem yqo (L:List Tk):CallsD Γ prog 113 [.one (.sl 4 (L.map Tk.C))] (.one (.sl 4 (L.map Tk.C))):=by
 refine ⟨⟨_,Go.Proofs.Tryz.func113,rfl,rfl⟩,fun M w vs hb _ hr=>?_⟩
 match vs,hr with
 | [v],⟨hv,_⟩=>
 have hv:RdC M w v (.sl 4 (L.map Tk.C)):=hv
 have hu:prog.underlying 170=some (.slice 179):=by kernel_rfl
 have hi:prog.info? 179=some (v6a prog 179):=by kernel_rfl
 obtain ⟨ad,n,cap,rfl,hn,hc⟩:∃(ad:Option Addr) (n cap:Nat),v=.slice ad n cap/\n<=cap/\∀ ad',(ad'=ad\/ad'=ad.map (·.add 0))->RdC M w (.slice ad' n n) (.sl 4 (L.map Tk.C)):=by
  cases hv with
  | sl b off u hl hc ha hn hm hr=>
   refine ⟨_,_,_,rfl,hc,fun ad' had=>.sl b off u hl (Nat.le_refl _) (fun h=>?_) hn hm hr⟩
   have:=ha h
   subst this
   rcases had with rfl | rfl
   . rfl
   . rfl
 refine calls_of_wp Go.Proofs.Tryz.func113 rfl ?_;apply wp_seq;apply wp_region;simp [wpOps,Region.wanted,Oper.wp,Oper.upon,execOp,Act.put,Act.eval];refine .inl ?_;apply wp_seq;apply wp_region;simp [wpOps,Region.wanted,Oper.wp,Oper.upon,execOp,Act.put,Act.eval,go_sem,hn];refine .inl (.inl (.inl (.inl (.inl (.inl (.inl ?_))))));apply wp_ret;refine ⟨rfl,.slice ad n n,by simp [results,go_sem],.slice ad n n,rfl,wxm w,hc ad (.inl rfl),fun h=>by cases h⟩
def wln (L:List Tk):Bool:=(List.range L.length).all fun i=>match x3s L i zft with
 | some (k,_)=>!(k==2)&&!(k==3)
 | none=>true
theorem z2a {L:List Tk} {i:Nat} {l:List ByteArray} {r:Nat×Nat} (h:x3s L i l=some r):i<L.length:=by
 unfold x3s at h;obtain ⟨k,hf,rfl⟩:=Option.map_eq_some_iff.1 h;rw [List.find?_range_eq_some,Bool.and_eq_true] at hf;exact y1r hf.1.1
theorem yfb {L:List Tk} (h:wln L=true):yxh L:=fun i k j hw=>by
 have:=List.all_eq_true.1 h i (List.mem_range.2 (z2a hw))
 rw [hw] at this;simp at this;exact this
def ysf (t:ByteArray) (s:Sht):Prop:=∃ L,w3y t=.inl L/\wln L=true/\vuf L=some s
theorem yrz {t:ByteArray} {s:Sht} (hG:x7m Γ 0=.elt sgC) (hs:t.size<=1073741824) (h:ysf t s) (cr:CallsD Γ prog 15 [.agg (shtC s)] (.one (cB true))):CallsD Γ prog 79 [.one (cS t)] (.tup [.agg (shtC s),.one (cI 0),.one (cI 0)]):=by
 obtain ⟨L,h1,h2,h3⟩:=h;have c:=zz8 (Γ:=Γ) t hG hs;have hk:=z9n t;rw [h1] at c hk;unfold snR at c;dsimp only at c hk
 have r:=wjl (Γ:=Γ) (s:=s) (by omega) (fun a=>by
  by_cases h:a<L.length
  . have:=hk.2 _ (wax h);omega
  . rw [List.getD_eq_getElem?_getD,List.getElem?_eq_none (by omega)];decide) (yfb h2) h3
 have hl:=hk.1;have c2:=yqo (Γ:=Γ) L;clear h1 h2 h3 hk;refine CallsD.run [] Go.Proofs.Tryz.func79 rfl rfl rfl ?_;simp only [Go.Proofs.Tryz.f79];refine hgR ?_
 repeat' ((first | refine hfk ?_ ?_<;>intros | refine hik ?_ | with_reducible first | refine y5k (c) ?_ | refine x4p (c) ?_ | refine y5k (c2) ?_ | refine x4p (c2) ?_)<;>refine hgS ?_)
 refine xwj [1] r rfl (by decide) rfl rfl rfl ?_;refine hg ?_
 repeat' ((first | refine hfk ?_ ?_<;>intros | refine hik ?_ | with_reducible first | refine y5k (cr) ?_ | refine x4p (cr) ?_)<;>refine hgS ?_)
 all_goals try (exfalso;omega)
 exact RLe.ofEq rfl
end Go.Hp.T
namespace Go.Hp.T
open Go Go.RowKit Go.Slot Go.Hp Go.Slot.T
open Go.Proofs.Tryz (prog)
attribute [local irreducible] hide RH
set_option maxRecDepth 10000
set_option maxHeartbeats 4000000
variable {Γ:List (Nat×List Cell)}
theorem cTIn (n:Int):CallsD Γ prog 102 [.one (cI n)] (.one (cB (inT n))):=by
 refine CallsD.run [] Go.Proofs.Tryz.func102 rfl rfl rfl ?_;simp only [Go.Proofs.Tryz.f102];refine hgR ?_
 repeat' ((first | refine hfk ?_ ?_<;>intros | refine hik ?_)<;>refine hgS ?_)
 all_goals refine lf1 @inT.eq_def ?_;first | exact trivial | rfl
theorem vwf (s:ByteArray) (hs:s.size<=1073741824):CallsD Γ prog 78 [.one (cS s)] (.tup [.agg (unX (vb5 s).1),.one (cI (vb5 s).2)]):=by
 have:=z07 (Γ:=Γ) s hs
 rw [ztr] at this;exact this
theorem vh1:(y1e prog 9 131=some 6)=True:=eq_true (by kernel_rfl)
theorem zt2:aggT prog 131=true:=by kernel_rfl
theorem vga:prog.eqGuardType prog.depth 131=false:=by kernel_rfl
theorem v6g (a b c d e f:Int):fitT prog 9 131 [.int .i64 a,.int .i64 b,.int .i64 c,.int .i64 d,.int .i64 e,.int .i64 f]=true:=by kernel_rfl
attribute [go_sem] vh1 zt2 vga v6g
theorem z4h (t:Tb) (h1:t.name.size<=1073741824) (h2:t.unit.size<=1073741824) (h3:t.rows.length<=1073741824):CallsD Γ prog 71 [.agg (tbC t)] (.one (cB (zwa (fun s=>(vb5 s).2) t))):=by
 refine CallsD.run [] Go.Proofs.Tryz.func71 rfl rfl rfl ?_;simp only [Go.Proofs.Tryz.f71];refine hgR ?_
 repeat' ((first | refine hfk ?_ ?_<;>intros | refine hik ?_ | with_reducible first | refine y5k (vwf t.unit h2) ?_ | refine x4p (vwf t.unit h2) ?_ | refine y5k (zpx t.name (by omega)) ?_ | refine x4p (zpx t.name (by omega)) ?_)<;>refine hgS ?_)
 . refine lf1 @zwa.eq_def ?_;first | exact trivial | rfl
 . refine wwt [1,28,29] (fun i:Nat=>[(30,.one (.dat (cI i)))]) (fun _=>[.box ((tbC t).map .dat) (some 65),.box ((unX (vb5 t.unit).1).map .dat) (some 137)]) (fun i=>i<=t.rows.length/\∀ j,j<i->rowAt t.rows j=true) (fun i=>t.rows.length-i) 0 ⟨Nat.zero_le _,fun j hj=>by omega⟩ ?_ ?_
   . refine hg ?_;exact StH.same svl rfl
   rintro i ⟨hi,hj⟩
   have hbad:rowAt t.rows i=false->i<t.rows.length->zwa (fun s=>(vb5 s).2) t=false:=fun h h'=>by
    unfold zwa ycy;rw [w1d h' h,Bool.and_false]
   refine hg ?_
   repeat' ((first | refine hfk ?_ ?_<;>intros | refine hik ?_ | with_reducible first | refine y5k (cTIn _) ?_ | refine x4p (cTIn _) ?_)<;>refine hgS ?_)
   all_goals first
    | (rw [hbad (by (refine bs1 @rowAt.eq_def ?_;try exact trivial)) (by omega)];exact RLe.ofEq rfl)
    | (refine ⟨i+1,⟨by omega,zbh hj (by (refine bs1 @rowAt.eq_def ?_;try exact trivial))⟩,by omega,StH.back [1,28,29,30] 2 2 2 rfl rfl rfl rfl rfl (by kernel_rfl) (StH.same svl rfl)⟩)
    | (refine RLe.ofEq ?_;rw [show zwa (fun s=>(vb5 s).2) t=true from by unfold zwa ycy;rw [yai (fun j hj'=>hj j (by omega))];(refine bsE ?_;try exact trivial)])
 . refine lf1 @zwa.eq_def ?_;first | exact trivial | rfl
 . refine lf1 @zwa.eq_def ?_;first | exact trivial | rfl
theorem x32 {x:Dm}:(decide (x.a=0)&&(decide (x.b=0)&&(decide (x.c=0)&&(decide (x.d=0)&&(decide (x.e=0)&&decide (x.f=0))))))=decide (x=Dm.zero):=wqj (y:=Dm.zero)
attribute [go_sem] x32
end Go.Hp.T
