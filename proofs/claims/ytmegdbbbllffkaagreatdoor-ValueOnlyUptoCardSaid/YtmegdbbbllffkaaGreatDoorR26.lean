/- The proof, part R26: Ti, Ic, Im. -/
import Derived.Test.YtmegdbbbllffkaaGreatDoorR12
import Derived.Test.YtmegdbbbllffkaaGreatDoorR25
import Derived.Test.YtmegdbbbllffkaaGreatDoorChecked
import Derived.Laws.Strings
namespace Go.Slot.T
open Go Go.RowKit Go.Slot Go.Hp
open Go.Proofs.Tryz (prog)
variable {k:TI->OR}
theorem w1:zl2 prog 1 k=k ⟨1,8,[Cell.raw Value.nilFunc],Sh.cell⟩:=yqx (by kernel_rfl)
theorem m1:mkTI prog 1=some ⟨1,8,[Cell.raw Value.nilFunc],Sh.cell⟩:=by kernel_rfl
theorem z1:w2m prog 1=some (SV.one (HC.dat (Cell.raw Value.nilFunc))):=by kernel_rfl
theorem w2:zl2 prog 2 k=k ⟨1,8,[Cell.raw (Value.int IntKind.i64 0)],Sh.int IntKind.i64⟩:=yqx (by kernel_rfl)
theorem m2:mkTI prog 2=some ⟨1,8,[Cell.raw (Value.int IntKind.i64 0)],Sh.int IntKind.i64⟩:=by kernel_rfl
theorem u2:prog.underlying 2=some (TypeDesc.int IntKind.i64):=by kernel_rfl
theorem z2:w2m prog 2=some (SV.one (HC.dat (Cell.raw (Value.int IntKind.i64 0)))):=by kernel_rfl
theorem w3:zl2 prog 3 k=k ⟨1,8,[Cell.raw (Value.int IntKind.i64 0)],Sh.int IntKind.i64⟩:=yqx (by kernel_rfl)
theorem m3:mkTI prog 3=some ⟨1,8,[Cell.raw (Value.int IntKind.i64 0)],Sh.int IntKind.i64⟩:=by kernel_rfl
theorem u3:prog.underlying 3=some (TypeDesc.int IntKind.i64):=by kernel_rfl
theorem z3:w2m prog 3=some (SV.one (HC.dat (Cell.raw (Value.int IntKind.i64 0)))):=by kernel_rfl
theorem m4:mkTI prog 4=some ⟨1,1,[Cell.raw (Value.bool false)],Sh.bool⟩:=by kernel_rfl
theorem w5:zl2 prog 5 k=k ⟨1,1,[Cell.raw (Value.int IntKind.u8 0)],Sh.int IntKind.u8⟩:=yqx (by kernel_rfl)
theorem m5:mkTI prog 5=some ⟨1,1,[Cell.raw (Value.int IntKind.u8 0)],Sh.int IntKind.u8⟩:=by kernel_rfl
theorem u5:prog.underlying 5=some (TypeDesc.int IntKind.u8):=by kernel_rfl
theorem w9:zl2 prog 9 k=k ⟨1,16,[Cell.raw (Value.string ⟨⟨[]⟩⟩)],Sh.string⟩:=yqx (by kernel_rfl)
theorem m9:mkTI prog 9=some ⟨1,16,[Cell.raw (Value.string ⟨⟨[]⟩⟩)],Sh.string⟩:=by kernel_rfl
theorem w22:zl2 prog 22 k=k ⟨1,24,[Cell.zc],Sh.slice 24 5 72 none⟩:=yqx (by kernel_rfl)
theorem m22:mkTI prog 22=some ⟨1,24,[Cell.zc],Sh.slice 24 5 72 none⟩:=by kernel_rfl
theorem m24:mkTI prog 24=some ⟨5,72,[Cell.raw (Value.int IntKind.i64 0),Cell.raw (Value.int IntKind.i64 0),Cell.raw (Value.string ⟨⟨[]⟩⟩),Cell.raw (Value.string ⟨⟨[]⟩⟩),Cell.zc],Sh.struct [(0,1,3),(1,1,3),(2,1,9),(3,1,9),(4,1,22)]⟩:=by kernel_rfl
theorem w25:zl2 prog 25 k=k ⟨1,24,[Cell.zc],Sh.slice 55 5 80 none⟩:=yqx (by kernel_rfl)
theorem m25:mkTI prog 25=some ⟨1,24,[Cell.zc],Sh.slice 55 5 80 none⟩:=by kernel_rfl
theorem w26:zl2 prog 26 k=k ⟨1,24,[Cell.zc],Sh.slice 60 3 56 none⟩:=yqx (by kernel_rfl)
theorem m26:mkTI prog 26=some ⟨1,24,[Cell.zc],Sh.slice 60 3 56 none⟩:=by kernel_rfl
theorem w29:zl2 prog 29 k=k ⟨1,24,[Cell.zc],Sh.slice 3 1 8 (some IntKind.i64)⟩:=yqx (by kernel_rfl)
theorem m29:mkTI prog 29=some ⟨1,24,[Cell.zc],Sh.slice 3 1 8 (some IntKind.i64)⟩:=by kernel_rfl
theorem w31:zl2 prog 31 k=k ⟨2,32,[Cell.raw (Value.int IntKind.i64 0),Cell.zc],Sh.struct [(0,1,3),(1,1,29)]⟩:=yqx (by kernel_rfl)
theorem m31:mkTI prog 31=some ⟨2,32,[Cell.raw (Value.int IntKind.i64 0),Cell.zc],Sh.struct [(0,1,3),(1,1,29)]⟩:=by kernel_rfl
theorem w33:zl2 prog 33 k=k ⟨4,64,[Cell.raw (Value.int IntKind.i64 0),Cell.zc,Cell.raw (Value.int IntKind.i64 0),Cell.zc],Sh.struct [(0,2,31),(2,2,31)]⟩:=yqx (by kernel_rfl)
theorem m33:mkTI prog 33=some ⟨4,64,[Cell.raw (Value.int IntKind.i64 0),Cell.zc,Cell.raw (Value.int IntKind.i64 0),Cell.zc],Sh.struct [(0,2,31),(2,2,31)]⟩:=by kernel_rfl
theorem z33:w2m prog 33=some (SV.agg [HC.dat (Cell.raw (Value.int IntKind.i64 0)),HC.dat Cell.zc,HC.dat (Cell.raw (Value.int IntKind.i64 0)),HC.dat Cell.zc]):=by kernel_rfl
theorem m35:mkTI prog 35=some ⟨6,72,[Cell.raw (Value.bool false),Cell.raw (Value.bool false),Cell.raw (Value.int IntKind.i64 0),Cell.zc,Cell.raw (Value.int IntKind.i64 0),Cell.zc],Sh.struct [(0,1,4),(1,1,4),(2,4,33)]⟩:=by kernel_rfl
theorem m36:mkTI prog 36=some ⟨1,8,[Cell.raw (Value.int IntKind.i64 0)],Sh.int IntKind.i64⟩:=by kernel_rfl
theorem m42:mkTI prog 42=some ⟨6,48,[Cell.raw (Value.int IntKind.i64 0),Cell.raw (Value.int IntKind.i64 0),Cell.raw (Value.int IntKind.i64 0),Cell.raw (Value.int IntKind.i64 0),Cell.raw (Value.int IntKind.i64 0),Cell.raw (Value.int IntKind.i64 0)],Sh.array 6 3 1⟩:=by kernel_rfl
theorem z42:w2m prog 42=some (SV.agg [HC.dat (Cell.raw (Value.int IntKind.i64 0)),HC.dat (Cell.raw (Value.int IntKind.i64 0)),HC.dat (Cell.raw (Value.int IntKind.i64 0)),HC.dat (Cell.raw (Value.int IntKind.i64 0)),HC.dat (Cell.raw (Value.int IntKind.i64 0)),HC.dat (Cell.raw (Value.int IntKind.i64 0))]):=by kernel_rfl
theorem m44:mkTI prog 44=some ⟨10,112,[Cell.raw (Value.int IntKind.i64 0),Cell.raw (Value.int IntKind.i64 0),Cell.raw (Value.int IntKind.i64 0),Cell.raw (Value.int IntKind.i64 0),Cell.raw (Value.int IntKind.i64 0),Cell.raw (Value.int IntKind.i64 0),Cell.raw (Value.int IntKind.i64 0),Cell.zc,Cell.raw (Value.int IntKind.i64 0),Cell.zc],Sh.struct [(0,6,42),(6,4,33)]⟩:=by kernel_rfl
theorem w55:zl2 prog 55 k=k ⟨5,80,[Cell.raw (Value.string ⟨⟨[]⟩⟩),Cell.raw (Value.int IntKind.i64 0),Cell.zc,Cell.raw (Value.int IntKind.i64 0),Cell.zc],Sh.struct [(0,1,9),(1,4,33)]⟩:=yqx (by kernel_rfl)
theorem m55:mkTI prog 55=some ⟨5,80,[Cell.raw (Value.string ⟨⟨[]⟩⟩),Cell.raw (Value.int IntKind.i64 0),Cell.zc,Cell.raw (Value.int IntKind.i64 0),Cell.zc],Sh.struct [(0,1,9),(1,4,33)]⟩:=by kernel_rfl
theorem w58:zl2 prog 58 k=k ⟨1,24,[Cell.zc],Sh.slice 159 2 16 none⟩:=yqx (by kernel_rfl)
theorem m58:mkTI prog 58=some ⟨1,24,[Cell.zc],Sh.slice 159 2 16 none⟩:=by kernel_rfl
theorem w60:zl2 prog 60 k=k ⟨3,56,[Cell.raw (Value.string ⟨⟨[]⟩⟩),Cell.raw (Value.string ⟨⟨[]⟩⟩),Cell.zc],Sh.struct [(0,1,9),(1,1,9),(2,1,58)]⟩:=yqx (by kernel_rfl)
theorem m60:mkTI prog 60=some ⟨3,56,[Cell.raw (Value.string ⟨⟨[]⟩⟩),Cell.raw (Value.string ⟨⟨[]⟩⟩),Cell.zc],Sh.struct [(0,1,9),(1,1,9),(2,1,58)]⟩:=by kernel_rfl
theorem z60:w2m prog 60=some (SV.agg [HC.dat (Cell.raw (Value.string ⟨⟨[]⟩⟩)),HC.dat (Cell.raw (Value.string ⟨⟨[]⟩⟩)),HC.dat Cell.zc]):=by kernel_rfl
theorem w61:zl2 prog 61 k=k ⟨1,24,[Cell.zc],Sh.slice 66 7 64 none⟩:=yqx (by kernel_rfl)
theorem m61:mkTI prog 61=some ⟨1,24,[Cell.zc],Sh.slice 66 7 64 none⟩:=by kernel_rfl
theorem w62:zl2 prog 62 k=k ⟨1,24,[Cell.zc],Sh.slice 33 4 64 none⟩:=yqx (by kernel_rfl)
theorem m62:mkTI prog 62=some ⟨1,24,[Cell.zc],Sh.slice 33 4 64 none⟩:=by kernel_rfl
theorem m66:mkTI prog 66=some ⟨7,64,[Cell.raw (Value.string ⟨⟨[]⟩⟩),Cell.raw (Value.int IntKind.i64 0),Cell.raw (Value.int IntKind.i64 0),Cell.raw (Value.int IntKind.i64 0),Cell.raw (Value.int IntKind.i64 0),Cell.raw (Value.int IntKind.i64 0),Cell.raw (Value.int IntKind.i64 0)],Sh.struct [(0,1,9),(1,6,42)]⟩:=by kernel_rfl
theorem m68:mkTI prog 68=some ⟨7,56,[Cell.raw (Value.bool false),Cell.raw (Value.int IntKind.i64 0),Cell.raw (Value.int IntKind.i64 0),Cell.raw (Value.int IntKind.i64 0),Cell.raw (Value.int IntKind.i64 0),Cell.raw (Value.int IntKind.i64 0),Cell.raw (Value.int IntKind.i64 0)],Sh.struct [(0,1,4),(1,6,42)]⟩:=by kernel_rfl
theorem m76:mkTI prog 76=some ⟨1,8,[Cell.raw (Value.map none)],Sh.map 9 33⟩:=by kernel_rfl
theorem m77:mkTI prog 77=some ⟨1,8,[Cell.raw (Value.map none)],Sh.map 9 60⟩:=by kernel_rfl
theorem m79:mkTI prog 79=some ⟨2,16,[Cell.raw (Value.map none),Cell.raw (Value.map none)],Sh.struct [(0,1,76),(1,1,77)]⟩:=by kernel_rfl
theorem w84:zl2 prog 84 k=k ⟨1,24,[Cell.zc],Sh.slice 88 2 24 none⟩:=yqx (by kernel_rfl)
theorem m84:mkTI prog 84=some ⟨1,24,[Cell.zc],Sh.slice 88 2 24 none⟩:=by kernel_rfl
theorem m88:mkTI prog 88=some ⟨2,24,[Cell.raw (Value.string ⟨⟨[]⟩⟩),Cell.raw (Value.int IntKind.i64 0)],Sh.struct [(0,1,9),(1,1,3)]⟩:=by kernel_rfl
theorem w98:zl2 prog 98 k=k ⟨1,24,[Cell.zc],Sh.slice 9 1 16 none⟩:=yqx (by kernel_rfl)
theorem m98:mkTI prog 98=some ⟨1,24,[Cell.zc],Sh.slice 9 1 16 none⟩:=by kernel_rfl
theorem w100:zl2 prog 100 k=k ⟨1,24,[Cell.zc],Sh.slice 35 6 72 none⟩:=yqx (by kernel_rfl)
theorem m100:mkTI prog 100=some ⟨1,24,[Cell.zc],Sh.slice 35 6 72 none⟩:=by kernel_rfl
theorem m107:mkTI prog 107=some ⟨1,8,[Cell.raw (Value.map none)],Sh.map 9 42⟩:=by kernel_rfl
theorem m109:mkTI prog 109=some ⟨2,16,[Cell.raw (Value.map none),Cell.raw (Value.map none)],Sh.struct [(0,1,107),(1,1,107)]⟩:=by kernel_rfl
theorem w150:zl2 prog 150 k=k ⟨1,24,[Cell.zc],Sh.slice 68 7 56 none⟩:=yqx (by kernel_rfl)
theorem m150:mkTI prog 150=some ⟨1,24,[Cell.zc],Sh.slice 68 7 56 none⟩:=by kernel_rfl
theorem m159:mkTI prog 159=some ⟨2,16,[Cell.raw (Value.int IntKind.i64 0),Cell.raw (Value.int IntKind.i64 0)],Sh.struct [(0,1,3),(1,1,3)]⟩:=by kernel_rfl
theorem w166:zl2 prog 166 k=k ⟨1,8,[Cell.raw (Value.int IntKind.u64 0)],Sh.int IntKind.u64⟩:=yqx (by kernel_rfl)
theorem m166:mkTI prog 166=some ⟨1,8,[Cell.raw (Value.int IntKind.u64 0)],Sh.int IntKind.u64⟩:=by kernel_rfl
theorem w167:zl2 prog 167 k=k ⟨1,8,[Cell.raw (Value.int IntKind.u64 0)],Sh.int IntKind.u64⟩:=yqx (by kernel_rfl)
theorem u167:prog.underlying 167=some (TypeDesc.int IntKind.u64):=by kernel_rfl
theorem w194:zl2 prog 194 k=k ⟨1,24,[Cell.zc],Sh.slice 198 2 24 none⟩:=yqx (by kernel_rfl)
theorem m194:mkTI prog 194=some ⟨1,24,[Cell.zc],Sh.slice 198 2 24 none⟩:=by kernel_rfl
theorem m198:mkTI prog 198=some ⟨2,24,[Cell.raw (Value.string ⟨⟨[]⟩⟩),Cell.raw (Value.int IntKind.i64 0)],Sh.struct [(0,1,9),(1,1,3)]⟩:=by kernel_rfl
theorem m220:mkTI prog 220=some ⟨1,8,[Cell.raw (Value.pointer none)],Sh.cell⟩:=by kernel_rfl
theorem vwx:xe1 prog 220=some 223:=by kernel_rfl
theorem u220:prog.underlying 220=some (TypeDesc.pointer 223):=by kernel_rfl
theorem m221:mkTI prog 221=some ⟨1,24,[Cell.zc],Sh.slice 5 1 1 (some IntKind.u8)⟩:=by kernel_rfl
theorem m223:mkTI prog 223=some ⟨2,32,[Cell.raw (Value.pointer none),Cell.zc],Sh.struct [(0,1,220),(1,1,221)]⟩:=by kernel_rfl
theorem wuo:xe1 prog 235=some 5:=by kernel_rfl
theorem u237:prog.underlying 237=some TypeDesc.unsafePointer:=by kernel_rfl
theorem wdw:prog.info? 223=some (zj0 prog 223):=by kernel_rfl
theorem wui:((zj0 prog 223).size != 0)=true:=by kernel_rfl
theorem eAll0:(List.range 251).all (fun n=>n==229||!wp2 prog n)=true:=by kernel_rfl
attribute [go_sem ↓] w1 w2 w3 w5 w9 w22 w25 w26 w29 w31 w33 w55 w58 w60 w61 w62 w84 w98 w100 w150 w166 w167 w194
attribute [go_sem] m1 z1 m2 u2 z2 m3 u3 z3 m4 m5 u5 m9 m22 m24 m25 m26 m29 m31 m33 z33 m35 m36 m42 z42 m44 m55 m58 m60 z60 m61 m62 m66 m68 m76 m77 m79 m84 m88 m98 m100 m107 m109 m150 m159 m166 u167 m194 m198 m220 vwx u220 m221 m223 wuo u237 wdw wui
theorem eAll (n:Nat) (h:n<251) (h229:n≠229):wp2 prog n=false:=by
 have:=List.all_eq_true.1 eAll0 n (List.mem_range.2 h)
 simpa [h229] using this
theorem e229:wp2 prog 229=true:=by kernel_rfl
theorem mixed:prog.follows .mixedOrders=true:=by kernel_rfl
attribute [go_sem] eAll e229
theorem wvv {k:Bool->Prop}:va1 prog k=k true:=propext ⟨fun h=>h.2,fun h=>⟨mixed,h⟩⟩
theorem wx2 {k:Bool->Prop}:vk0 prog k=k true:=propext ⟨fun h=>h.2,fun h=>⟨mixed,h⟩⟩
attribute [go_sem] wvv wx2
end Go.Slot.T
namespace Go.Hp
open Go Go.RowKit Go.Slot
variable {P:Program} {Γ:List (Nat×List Cell)} {e:List SB} {G:List (Nat×List GhH)}
variable {X Y:Bool->Prop} {c:Bool} {q a b:Prop} {x y:AV} {i j:Nat} {σ σ':List SV} {η η' ηs ηs':List SB} {f:FuncId} {res:SV}
theorem vtf {p:Prop} [Decidable p] (hx:p->decide p=true->X true) (hy:¬p->decide p=false->Y true):x4q (decide p) true X Y:=⟨fun h=>hx (of_decide_eq_true h) h,fun h=>hy (of_decide_eq_false h) h⟩
theorem yjm {p:Prop} [Decidable p] (hx:¬p->decide p=false->X true) (hy:p->decide p=true->Y true):x4q (decide p) false X Y:=⟨fun h=>hx (of_decide_eq_false h) h,fun h=>hy (of_decide_eq_true h) h⟩
theorem zbb (hx:c=true->X true) (hy:c=false->Y true):x4q c true X Y:=⟨hx,hy⟩
theorem v1z (hx:c=false->X true) (hy:c=true->Y true):x4q c false X Y:=⟨hx,hy⟩
theorem vnx {p:Prop} [Decidable p] (hx:p->decide p=true->X true) (hy:¬p->decide p=false->Y true):x29 (decide p) X Y:=⟨fun h=>hx (of_decide_eq_true h) h,fun h=>hy (of_decide_eq_false h) h⟩
theorem wdg (hx:c=true->X true) (hy:c=false->Y true):x29 c X Y:=⟨hx,hy⟩
theorem vpb (hx:c=false->X true) (hy:c=true->Y true):x4q (!c) true X Y:=⟨fun h=>hx (by simpa using h),fun h=>hy (by simpa using h)⟩
theorem v1v (hx:c=true->X true) (hy:c=false->Y true):x4q (!c) false X Y:=⟨fun h=>hx (by simpa using h),fun h=>hy (by simpa using h)⟩
theorem wzf (hx:c=false->X true) (hy:c=true->Y true):x29 (!c) X Y:=⟨fun h=>hx (by simpa using h),fun h=>hy (by simpa using h)⟩
theorem hg {p:Prop} (k:q) (h:p=q:=by conv=>lhs;simp (maxSteps:=2000000) (disch:=omega) only [go_sem,Nat.reduceAdd,Nat.reduceSub,Nat.reduceMul,Int.reduceToNat,Nat.reduceEqDiff,Nat.reduceBEq,Nat.reduceBneDiff,Nat.reduceLT,Int.reduceEq,Int.reduceLT,Int.reduceLE,Int.reduceNeg,Int.reduceAdd,Int.reduceSub,Int.reduceMul]):p:=Eq.mpr h k
theorem hgS {p:Prop} (k:q) (h:p=q:=by conv=>lhs;simp (maxSteps:=2000000) (disch:=omega) only [go_sem,Nat.reduceAdd,Nat.reduceSub,Nat.reduceMul,Int.reduceToNat,Nat.reduceEqDiff,Nat.reduceBEq,Nat.reduceBneDiff,Nat.reduceLT,Int.reduceEq,Int.reduceLT,Int.reduceLE,Int.reduceNeg,Int.reduceAdd,Int.reduceSub,Int.reduceMul, *]):p:=Eq.mpr h k
theorem hgR {p:Prop} (k:q) (h:p=q:=by conv=>lhs;simp (maxSteps:=2000000) (disch:=omega) only [go_sem,Nat.reduceAdd,Nat.reduceSub,Nat.reduceMul,Int.reduceToNat,Nat.reduceEqDiff,Nat.reduceBEq,Nat.reduceBneDiff,Nat.reduceLT,Int.reduceEq,Int.reduceLT,Int.reduceLE,Int.reduceNeg,Int.reduceAdd,Int.reduceSub,Int.reduceMul,List.replicate]):p:=Eq.mpr h k
theorem hfk {p r:Prop} (k:q) (l:r) (h:q->r->p:=by with_reducible first | exact fun a b=>vtf a b | exact fun a b=>yjm a b | exact fun a b=>vpb a b | exact fun a b=>v1v a b | exact fun a b=>zbb a b | exact fun a b=>v1z a b | exact fun a b=>vnx a b | exact fun a b=>wzf a b | exact fun a b=>wdg a b):p:=h k l
theorem hik {ops:List Oper} {acc:List HR} {k:Bool->Prop} (hk:k true) (h:wfm ops acc=true:=by kernel_rfl):ybj ops acc k:=⟨h,hk⟩
theorem svl {a b:List SV} (h:vma a b:=by repeat' first | exact .nil | refine .cons (by first | exact .refl _ | exact .any _) ?_):vma a b:=h
theorem RLe.ofEq (h:x=y):RLe x y:=h▸.one (.refl _)
theorem wgp {p:Prop} [Decidable p]:(!decide p)=decide (¬p):=by by_cases h:p<;>simp [h]
theorem lfE {p:Prop} (k:p) (h:(x=y)=p:=by conv=>lhs;simp only [Bool.and_true,Bool.true_and,Bool.and_false,Bool.false_and,Bool.or_true,Bool.true_or,Bool.or_false,Bool.false_or,Bool.not_true,Bool.not_false,decide_true,decide_false,not_true_eq_false,not_false_eq_true,wgp,if_true,if_false,Bool.and_self,Bool.or_self,cond_true,cond_false,List.length_map,ne_eq,Int.reduceEq,Int.reduceLT,Int.reduceLE, *]):RLe x y:=RLe.ofEq (h.symm▸k)
theorem lf1 {p:Prop} (ra:a) (k:p) (h:a->(x=y)=p:=by intro z1;conv=>lhs;simp only [Bool.and_true,Bool.true_and,Bool.and_false,Bool.false_and,Bool.or_true,Bool.true_or,Bool.or_false,Bool.false_or,Bool.not_true,Bool.not_false,decide_true,decide_false,not_true_eq_false,not_false_eq_true,wgp,if_true,if_false,Bool.and_self,Bool.or_self,cond_true,cond_false,List.length_map,ne_eq,Int.reduceEq,Int.reduceLT,Int.reduceLE, *]):RLe x y:=RLe.ofEq ((h ra).symm▸k)
theorem lf2 {p:Prop} (ra:a) (rb:b) (k:p) (h:a->b->(x=y)=p:=by intro z1 z2;conv=>lhs;simp only [Bool.and_true,Bool.true_and,Bool.and_false,Bool.false_and,Bool.or_true,Bool.true_or,Bool.or_false,Bool.false_or,Bool.not_true,Bool.not_false,decide_true,decide_false,not_true_eq_false,not_false_eq_true,wgp,if_true,if_false,Bool.and_self,Bool.or_self,cond_true,cond_false,List.length_map,ne_eq,Int.reduceEq,Int.reduceLT,Int.reduceLE, *]):RLe x y:=RLe.ofEq ((h ra rb).symm▸k)
theorem bsE {p:Prop} (k:p) (h:q=p:=by conv=>lhs;simp only [Bool.and_true,Bool.true_and,Bool.and_false,Bool.false_and,Bool.or_true,Bool.true_or,Bool.or_false,Bool.false_or,Bool.not_true,Bool.not_false,decide_true,decide_false,not_true_eq_false,not_false_eq_true,wgp,if_true,if_false,Bool.and_self,Bool.or_self,cond_true,cond_false,List.length_map,ne_eq,Int.reduceEq,Int.reduceLT,Int.reduceLE, *]):q:=h.symm▸k
theorem bs1 {p:Prop} (ra:a) (k:p) (h:a->q=p:=by intro z1;conv=>lhs;simp only [Bool.and_true,Bool.true_and,Bool.and_false,Bool.false_and,Bool.or_true,Bool.true_or,Bool.or_false,Bool.false_or,Bool.not_true,Bool.not_false,decide_true,decide_false,not_true_eq_false,not_false_eq_true,wgp,if_true,if_false,Bool.and_self,Bool.or_self,cond_true,cond_false,List.length_map,ne_eq,Int.reduceEq,Int.reduceLT,Int.reduceLE, *]):q:=(h ra).symm▸k
theorem bs2 {p:Prop} (ra:a) (rb:b) (k:p) (h:a->b->q=p:=by intro z1 z2;conv=>lhs;simp only [Bool.and_true,Bool.true_and,Bool.and_false,Bool.false_and,Bool.or_true,Bool.true_or,Bool.or_false,Bool.false_or,Bool.not_true,Bool.not_false,decide_true,decide_false,not_true_eq_false,not_false_eq_true,wgp,if_true,if_false,Bool.and_self,Bool.or_self,cond_true,cond_false,List.length_map,ne_eq,Int.reduceEq,Int.reduceLT,Int.reduceLE, *]):q:=(h ra rb).symm▸k
theorem hg1 {p:Prop} (ra:a) (k:q) (h:a->p=q:=by intro z1;conv=>lhs;simp (maxSteps:=2000000) (disch:=omega) only [go_sem,Nat.reduceAdd,Nat.reduceSub,Nat.reduceMul,Int.reduceToNat,Nat.reduceEqDiff,Nat.reduceBEq,Nat.reduceBneDiff,Nat.reduceLT,Int.reduceEq,Int.reduceLT,Int.reduceLE,Int.reduceNeg,Int.reduceAdd,Int.reduceSub,Int.reduceMul,z1]):p:=Eq.mpr (h ra) k
theorem hg2 {p:Prop} (ra:a) (rb:b) (k:q) (h:a->b->p=q:=by intro z1 z2;conv=>lhs;simp (maxSteps:=2000000) (disch:=omega) only [go_sem,Nat.reduceAdd,Nat.reduceSub,Nat.reduceMul,Int.reduceToNat,Nat.reduceEqDiff,Nat.reduceBEq,Nat.reduceBneDiff,Nat.reduceLT,Int.reduceEq,Int.reduceLT,Int.reduceLE,Int.reduceNeg,Int.reduceAdd,Int.reduceSub,Int.reduceMul,z1,z2]):p:=Eq.mpr (h ra rb) k
def swL (i j:Nat) (η:List SB):List SB:=(List.range η.length).map fun k=>swSB i j (gB η (sw i j k))
theorem wny {k n:Nat} (hi:i<n) (hj:j<n) (hk:k<n):sw i j k<n:=by unfold sw;split<;>(try split)<;>omega
theorem StH.xn1 (hi:e.length<=i) (hj:e.length<=j) (hil:i<η.length) (hjl:j<η.length):StH Γ e σ η (σ.map (swSV i j)) (swL i j η):=by
 refine StH.swap hi hj hil hjl (fun b x hb=>.inl ?_) (by simp [swL]);have hbl:b<η.length:=(List.getElem?_eq_some_iff.1 hb).1;unfold swL;rw [List.getElem?_map,List.getElem?_range (wny hil hjl hbl)];simp only [Option.map_some,xfs];unfold gB;rw [hb];rfl
def x2g (m:Nat) (σ:List SV) (η:List SB):Bool:=(σ.all fun x=>(vp6 x).all fun b=>Nat.blt b m)&&((η.take m).all fun x=>(z0y x).all fun b=>Nat.blt b m)
theorem StH.cutB (m:Nat) (hm:e.length<=m) (h:x2g m σ η=true):StH Γ e σ η σ (η.take m):=by
 unfold x2g at h;rw [Bool.and_eq_true,List.all_eq_true,List.all_eq_true] at h;refine StH.cut hm (fun i x hx b hb=>?_) (fun i x hi hx=>.inr fun b hb=>?_)
 . have:=h.1 x (List.mem_of_getElem? hx)
   rw [List.all_eq_true] at this;simpa using this b hb
 . have:=h.2 x (List.mem_of_getElem? (by rw [List.getElem?_take_of_lt hi];exact hx))
   rw [List.all_eq_true] at this;simpa using this b hb
theorem StH.back (ks:List Nat) (i j m:Nat) (hi:Nat.ble e.length i=true) (hj:Nat.ble e.length j=true) (hm:Nat.ble e.length m=true) (hil:Nat.blt i η.length=true) (hjl:Nat.blt j η.length=true) (h:x2g m ((wue ks 0 σ).map (swSV i j)) (swL i j η)=true)
 (hk:StH Γ e ((wue ks 0 σ).map (swSV i j)) ((swL i j η).take m) σ' η'):StH Γ e σ η σ' η':=
 StH.trans (StH.only ks) (StH.trans (StH.xn1 (by simpa using hi) (by simpa using hj) (by simpa using hil) (by simpa using hjl)) (StH.trans (StH.cutB m (by simpa using hm) h) hk))
theorem StH.same (h:vma σ σ') (hη:η=η'):StH Γ e σ η σ' η':=hη▸StH.wph h
theorem StH.done (m:Nat) (hm:Nat.ble e.length m=true) (h:x2g m σ η=true) (hσ:σ=σ') (hη:η.take m=η'):StH Γ e σ η σ' η':=
 hσ▸hη▸StH.cutB m (by simpa using hm) h
theorem yp3.of {φ:List Nat} (h:φ.map (fun j=>η[j]?)=ηs.map (fun x=>some (rnSB (atR φ η.length) x))):yp3 φ η ηs:=by
 have hl:ηs.length=φ.length:=by
  have:=congrArg List.length h
  simpa using this.symm
 refine ⟨hl,fun i x hx=>?_⟩;have hi:i<ηs.length:=(List.getElem?_eq_some_iff.1 hx).1;refine ⟨φ[i]'(by omega),List.getElem?_eq_getElem _,?_⟩;have h1:=congrArg (fun l=>l[i]?) h;simp only [List.getElem?_map,hx,Option.map_some] at h1;rw [List.getElem?_eq_getElem (by omega)] at h1;simpa using h1
theorem vfe.at (φ:List Nat) {args:List SV} (h:vfe Γ P f ηs args ηs' res) (hn:φ.Nodup) (hb:(φ.all fun j=>Nat.blt j η.length)=true)
 (hp:φ.map (fun j=>η[j]?)=ηs.map (fun x=>some (rnSB (atR φ η.length) x))) (hlen:Nat.ble φ.length ηs'.length=true):vfe Γ P f η (args.map (yo9 (atR φ η.length))) (putR φ η ηs') (rnSV (atR φ η.length) res):=
 vfe.frame hn (fun j hj=>by simpa using List.all_eq_true.1 hb j hj) (yp3.of hp) (by simpa using hlen) h
theorem z4m (φ:List Nat) {args l:List SV} {K:Bool->List SB->SV->Prop} (h:vfe Γ P f ηs args ηs' res) (hl:args.map (yo9 (atR φ η.length))=l) (hn:φ.Nodup) (hb:(φ.all fun j=>Nat.blt j η.length)=true)
 (hp:φ.map (fun j=>η[j]?)=ηs.map (fun x=>some (rnSB (atR φ η.length) x))) (hlen:Nat.ble φ.length ηs'.length=true) (hk:K true (putR φ η ηs') (rnSV (atR φ η.length) res)):x0t Γ P f η l K:=
 hl▸xwg (vfe.at φ h hn hb hp hlen) hk
theorem z9f {a b:ByteArray}:seq a b=decide (a=b):=by
 unfold seq;rw [ByteArray.toList_eq,ByteArray.toList_eq];by_cases h:a=b
 . rw [h];simp
 . rw [decide_eq_false h]
   have:a.data.toList≠b.data.toList:=fun he=>h (ByteArray.ext (Array.toList_inj.1 he))
   simpa using this
theorem xo8 {s:ByteArray}:seq s ⟨#[]⟩=decide (s.size=0):=by
 rw [z9f];refine decide_eq_decide.2 ⟨fun h=>by rw [h];rfl,fun h=>ByteArray.ext (Array.eq_empty_of_size_eq_zero h)⟩
theorem w8 {n:Int} (h:0<=n/\n<=255):IntKind.u8.wrap n=n:=by rw [IntKind.wrap_u8];omega
attribute [go_sem] w8
theorem yi7 {n:Nat}:((n:Int)-1).toNat=n-1:=by omega
attribute [go_sem] yi7
theorem vn6 {t:Nat}:gt (σ.map vw) t=vw (gtS σ t):=yy2 t
attribute [go_sem] vn6 wjz valB elemAt xo8 wgp List.size_toArray List.length_map List.getD_cons_zero List.getD_cons_succ vez za8 wig eqOf litH xl4 vmp wa7 usdH usH xzq w01 ynd wli eqL putR atR rnSB rnHC yo9 rnSV List.zip_cons_cons List.zip_nil_left List.zip_nil_right List.drop_succ_cons swSV wn0 swHC swSB sw List.map_nil
end Go.Hp
namespace Go.Hp.T
open Go Go.RowKit Go.Slot Go.Hp
set_option maxRecDepth 10000
theorem toD {Γ:List (Nat×List Cell)} {P:Program} {f:FuncId} {args:List AV} {res:AV} (h:yn2 P f args res):CallsD Γ P f args res:=Hp.yn2.d h
abbrev cI (n:Int):Cell:=.raw (.int .i64 n)
abbrev c8 (n:Int):Cell:=.raw (.int .u8 n)
abbrev cS (s:ByteArray):Cell:=.raw (.string s)
abbrev cB (b:Bool):Cell:=.raw (.bool b)
abbrev fN (f:FuncId):AV:=.one (.raw (.func (.func f) #[] #[]))
def wwz (s:ByteArray):List Int:=(List.range s.size).map (x41 s)
theorem vnk (s:ByteArray):(wwz s).length=s.size:=by simp [wwz]
theorem xq9 (s:ByteArray) (i:Nat) (h:i<s.size):(wwz s)[i]? = some (x41 s i):=by simp [wwz,h]
def z1a (p:Int->Bool) (s:ByteArray):Nat:=((wwz s).takeWhile p).length
theorem w9i {α:Type} (p:α->Bool):∀(l:List α) (n:Nat),n<=l.length->(∀ j x,j<n->l[j]? = some x->p x=true)->(n=l.length\/∃ x,l[n]? = some x/\p x=false)->(l.takeWhile p).length=n
 | [],n,hn,_,_=>by simp at hn;simp [hn]
 | a::l,0,_,_,h=>by
  rcases h with h | ⟨x,hx,hp⟩
  . simp at h
  . simp at hx;subst hx;simp [List.takeWhile,hp]
 | a::l,n+1,hn,hj,h=>by
  have ha:p a=true:=hj 0 a (by omega) rfl;rw [List.takeWhile_cons_of_pos ha,List.length_cons,w9i p l n (by simpa using hn) (fun j x h1 h2=>hj (j+1) x (by omega) (by simpa using h2)) ?_]
  rcases h with h | ⟨x,hx,hp⟩
  . exact .inl (by simpa using h)
  . exact .inr ⟨x,by simpa using hx,hp⟩
theorem xwo {p:Int->Bool} {s:ByteArray} {n:Nat} (hn:n<=s.size) (hj:∀ j,j<n->p (x41 s j)=true) (h:n=s.size\/p (x41 s n)=false):z1a p s=n:=by
 refine w9i p _ n (by rw [vnk];exact hn) (fun j x h1 h2=>?_) ?_
 . rw [xq9 s j (by omega)] at h2;cases h2;exact hj j h1
 . by_cases e:n=s.size
   . exact .inl (by rw [vnk];exact e)
   . rcases h with h | h
     . exact absurd h e
     . exact .inr ⟨_,xq9 s n (by omega),h⟩
theorem wtz (p:Int->Bool) (s:ByteArray):z1a p s<=s.size:=by
 have:=(List.takeWhile_sublist p (l:=wwz s)).length_le
 rw [vnk] at this;exact this
def yio (c:Int):Bool:=(decide (97<=c)&&decide (c<=122))||(decide (65<=c)&&decide (c<=90))
def isDigit (c:Int):Bool:=decide (48<=c)&&decide (c<=57)
def ycl (c:Int):Bool:=yio c||isDigit c||decide (c=95)
def ztv (c:Int):Bool:=decide (32<=c)&&decide (c<=126)
def isName (s:ByteArray):Bool:=decide (¬s.size=0)&&yio (x41 s 0)&&decide ((s.size:Int)<=20)&&decide ((z1a ycl s:Int)=s.size)
def wku (s:ByteArray):Bool:=!(decide (400<(s.size:Int))||decide (¬(z1a ztv s:Int)=s.size))
def escB (c:Int):List Int:=bif decide (c=34)||decide (c=92) then [92,c] else [c]
def escA (s:ByteArray) (i:Nat):List Int:=34::((wwz s).take i).flatMap escB
def escS (s:ByteArray):ByteArray:=strOfNums (escA s s.size++[34])
theorem xm4 {s:ByteArray} {i:Nat} (h:i<s.size):escA s (i+1)=escA s i++escB (x41 s i):=by
 unfold escA
 have:(wwz s).take (i+1)=(wwz s).take i++[x41 s i]:=by
  rw [List.take_add_one,xq9 s i h];rfl
 rw [this];simp
theorem wpk (s:ByteArray) (i:Nat):yua (x41 s i)=true:=by
 unfold yua x41
 have:=((s.data[i]?).getD 0).toNat_lt
 simp;omega
theorem v73 {c:Int} (h:yua c=true):(escB c).all yua=true:=by
 unfold escB
 have h':0<=c/\c<256:=by simpa [yua] using h
 cases decide (c=34)||decide (c=92)<;>simp [yua,h']
theorem xmf (s:ByteArray) (i:Nat):(escA s i).all yua=true:=by
 have hb:∀ c∈wwz s,yua c=true:=fun c hc=>by
  simp only [wwz,List.mem_map] at hc;obtain ⟨j,_,rfl⟩:=hc;exact wpk s j
 unfold escA;rw [List.all_cons,Bool.and_eq_true];refine ⟨rfl,?_⟩;rw [List.all_flatMap,List.all_eq_true]
 exact fun c hc=>v73 (hb c (List.mem_of_mem_take hc))
theorem x13 (c:Int):(escB c).length<=2:=by unfold escB;cases decide (c=34)||decide (c=92)<;>simp
theorem xne:∀ l:List Int,(l.flatMap escB).length<=2*l.length
 | []=>by simp
 | c::l=>by
  have:=xne l
  have:=x13 c
  simp only [List.flatMap_cons,List.length_append,List.length_cons];omega
theorem yil (s:ByteArray) (i:Nat):1<=(escA s i).length/\(escA s i).length<=1+2*s.size:=by
 unfold escA
 have:=xne ((wwz s).take i)
 have h2:((wwz s).take i).length<=s.size:=by rw [List.length_take,vnk];omega
 simp only [List.length_cons];omega
end Go.Hp.T
