/- The proof, part W27: Pp, Po, Pr, Ps, Ij. -/
import Derived.Test.YtbdoipfmafbhoaaGreatDoorW26
import Derived.Test.YtbdoipfmafbhoaaGreatDoorW18
namespace Go.Hp.T
open Go Go.RowKit Go.Slot Go.Hp Go.Slot.T
set_option maxRecDepth 10000
structure Imp where
 name:ByteArray
 unit:ByteArray
 amount:Int
 house:Int
 port:ByteArray
 version:Int
structure Inp where
 name:ByteArray
 unit:ByteArray
 kind:ByteArray
structure Prm where
 name:ByteArray
 unit:ByteArray
structure Fnc where
 name:ByteArray
 params:List Prm
 body:Ex
structure Cel where
 name:ByteArray
 unit:ByteArray
 x:Ex
structure Por where
 name:ByteArray
 unit:ByteArray
 amount:Int
structure Sto where
 name:ByteArray
 unit:ByteArray
 rule:Int
structure Stp where
 kind:Int
 inn:List ByteArray
 out:List ByteArray
 name:ByteArray
 cells:List ByteArray
 amount:Int
structure Rcp where
 kind:ByteArray
 steps:List Stp
structure Sht where
 name:ByteArray
 imports:List Imp
 inputs:List Inp
 tables:List Tb
 funcs:List Fnc
 cells:List Cel
 ports:List Por
 stores:List Sto
 recipes:List Rcp
abbrev xan (l:List ByteArray):Cell:=.sl 1 (l.map fun s=>[cS s])
def Imp.C (x:Imp):List Cell:=[cS x.name,cS x.unit,cI x.amount,cI x.house,cS x.port,cI x.version]
abbrev impC (x:Imp):List Cell:=[cS x.name,cS x.unit,cI x.amount,cI x.house,cS x.port,cI x.version]
theorem Imp.C_eq (x:Imp):x.C=impC x:=rfl
def Inp.C (x:Inp):List Cell:=[cS x.name,cS x.unit,cS x.kind]
abbrev inpC (x:Inp):List Cell:=[cS x.name,cS x.unit,cS x.kind]
theorem Inp.C_eq (x:Inp):x.C=inpC x:=rfl
def Prm.C (x:Prm):List Cell:=[cS x.name,cS x.unit]
abbrev prmC (x:Prm):List Cell:=[cS x.name,cS x.unit]
theorem Prm.C_eq (x:Prm):x.C=prmC x:=rfl
def Por.C (x:Por):List Cell:=[cS x.name,cS x.unit,cI x.amount]
abbrev porC (x:Por):List Cell:=[cS x.name,cS x.unit,cI x.amount]
theorem Por.C_eq (x:Por):x.C=porC x:=rfl
def Sto.C (x:Sto):List Cell:=[cS x.name,cS x.unit,cI x.rule]
abbrev stoC (x:Sto):List Cell:=[cS x.name,cS x.unit,cI x.rule]
theorem Sto.C_eq (x:Sto):x.C=stoC x:=rfl
def Stp.C (x:Stp):List Cell:=[cI x.kind,xan x.inn,xan x.out,cS x.name,xan x.cells,cI x.amount]
abbrev stpC (x:Stp):List Cell:=[cI x.kind,xan x.inn,xan x.out,cS x.name,xan x.cells,cI x.amount]
theorem Stp.C_eq (x:Stp):x.C=stpC x:=rfl
def Rcp.C (x:Rcp):List Cell:=[cS x.kind,.sl 6 (x.steps.map Stp.C)]
abbrev rcpC (x:Rcp):List Cell:=[cS x.kind,.sl 6 (x.steps.map Stp.C)]
theorem Rcp.C_eq (x:Rcp):x.C=rcpC x:=rfl
def Fnc.C (x:Fnc):List Cell:=[cS x.name,.sl 2 (x.params.map Prm.C),cI x.body.op,cI x.body.n,cS x.body.unit,cS x.body.name,.sl 5 (x.body.args.map Ex.cells)]
abbrev fncC (x:Fnc):List Cell:=[cS x.name,.sl 2 (x.params.map Prm.C),cI x.body.op,cI x.body.n,cS x.body.unit,cS x.body.name,.sl 5 (x.body.args.map Ex.cells)]
theorem Fnc.C_eq (x:Fnc):x.C=fncC x:=rfl
def Cel.C (x:Cel):List Cell:=[cS x.name,cS x.unit,cI x.x.op,cI x.x.n,cS x.x.unit,cS x.x.name,.sl 5 (x.x.args.map Ex.cells)]
abbrev celC (x:Cel):List Cell:=[cS x.name,cS x.unit,cI x.x.op,cI x.x.n,cS x.x.unit,cS x.x.name,.sl 5 (x.x.args.map Ex.cells)]
theorem Cel.C_eq (x:Cel):x.C=celC x:=rfl
attribute [go_sem] Imp.C_eq Inp.C_eq Prm.C_eq Por.C_eq Sto.C_eq Stp.C_eq Rcp.C_eq Fnc.C_eq Cel.C_eq
instance:Inhabited Imp:=⟨⟨⟨#[]⟩,⟨#[]⟩,0,0,⟨#[]⟩,0⟩⟩
instance:Inhabited Inp:=⟨⟨⟨#[]⟩,⟨#[]⟩,⟨#[]⟩⟩⟩
instance:Inhabited Prm:=⟨⟨⟨#[]⟩,⟨#[]⟩⟩⟩
instance:Inhabited Fnc:=⟨⟨⟨#[]⟩,[],default⟩⟩
instance:Inhabited Cel:=⟨⟨⟨#[]⟩,⟨#[]⟩,default⟩⟩
instance:Inhabited Por:=⟨⟨⟨#[]⟩,⟨#[]⟩,0⟩⟩
instance:Inhabited Sto:=⟨⟨⟨#[]⟩,⟨#[]⟩,0⟩⟩
instance:Inhabited Stp:=⟨⟨0,[],[],⟨#[]⟩,[],0⟩⟩
instance:Inhabited Rcp:=⟨⟨⟨#[]⟩,[]⟩⟩
def nxS (L:List Tk) (i:Nat) (k:Int):Bool:=decide ((i:Int)<L.length)&&decide ((L.getD i default).k=k)
def etS (L:List Tk) (i:Nat) (t:ByteArray):Bool:=decide ((i:Int)<L.length)&&(seq (L.getD i default).t t&&(decide ((L.getD i default).k=0)||decide ((L.getD i default).k=3)))
def etA (L:List Tk) (i:Nat) (t:ByteArray):Nat:=bif etS L i t then i+1 else i
theorem y1r {L:List Tk} {i:Nat} {k:Int} (h:nxS L i k=true):i<L.length:=by
 unfold nxS at h;simp only [Bool.and_eq_true,decide_eq_true_eq] at h;omega
theorem xme {L:List Tk} {i:Nat} {t:ByteArray} (h:etS L i t=true):i<L.length:=by
 unfold etS at h;simp only [Bool.and_eq_true,decide_eq_true_eq] at h;omega
def zo1 (L:List Tk):List ByteArray->Nat->Option Nat
 | [],i=>some i
 | t::l,i=>bif etS L i t then zo1 L l (i+1) else none
def v2n (L:List Tk) (i:Nat):Option (ByteArray×Nat):=bif nxS L i 0&&!isWord (L.getD i default).t then some ((L.getD i default).t,i+1) else none
def y07 (L:List Tk) (i:Nat):Option (ByteArray×Nat):=bif nxS L i 2 then some ((L.getD i default).t,i+1) else none
def numM (L:List Tk) (i:Nat):Option (Int×Nat):=bif nxS L i 1 then some ((L.getD i default).n,i+1) else none
def vm5 (L:List Tk) (i:Nat):Option (Int×Nat):=bif etS L i ⟨#[45]⟩ then (numM L (i+1)).map fun p=>(-p.1,p.2) else numM L i
def x3s (L:List Tk) (i:Nat) (l:List ByteArray):Option (Nat×Nat):=((List.range l.length).find? fun k=>nxS L i 0&&etS L i (l.getD k ⟨#[]⟩)).map fun k=>(k,i+1)
def yz3 (L:List Tk) (i:Nat):Option (Ex×Nat):=(zo1 L [⟨#[61]⟩] i).bind fun j=>bif decide ((yx6 L j).2.2=0) then (zo1 L [⟨#[59]⟩] (yx6 L j).2.1).map fun k=>((yx6 L j).1,k) else none
def wh8 (L:List Tk) (pairs:Bool):Nat->List ByteArray->List ByteArray->Nat->Option ((List ByteArray×List ByteArray)×Nat)
 | 0,_,_,_=>none
 | f+1,l,c,i=>(v2n L i).bind fun p=>(bif pairs then (zo1 L [⟨#[58]⟩] p.2).bind fun j=>(v2n L j).map fun q=>(c++[q.1],q.2) else some (c,p.2)).bind fun q=>
  bif etS L q.2 tCm then wh8 L pairs f (l++[p.1]) q.1 (q.2+1) else some ((l++[p.1],q.1),q.2)
def wsc:ByteArray:=⟨#[109,101,116,101,114]⟩
def z2f:ByteArray:=⟨#[116,97,107,101]⟩
def yk5:ByteArray:=⟨#[100,114,97,119]⟩
def znk:ByteArray:=⟨#[115,112,108,105,116]⟩
def xej:ByteArray:=⟨#[106,111,105,110]⟩
def x1t:ByteArray:=⟨#[103,105,118,101]⟩
def wPut:ByteArray:=⟨#[112,117,116]⟩
def xkr:ByteArray:=⟨#[108,111,115,101]⟩
def v1z:ByteArray:=⟨#[114,101,115,116]⟩
def w7z:ByteArray:=⟨#[105,110,116,111]⟩
def wTo:ByteArray:=⟨#[116,111]⟩
def wAs:ByteArray:=⟨#[97,115]⟩
def y9m:List ByteArray:=[wsc,z2f,yk5,znk,xej,x1t,wPut,xkr,v1z]
def z3a (L:List Tk) (i:Nat):Option (Stp×Nat):=(x3s L i y9m).bind fun w=>match w.1 with
 | 0 | 1 | 2=>(v2n L w.2).bind fun o=>(zo1 L [⟨#[61]⟩] o.2).bind fun j=>(v2n L j).bind fun n=>(bif decide (w.1=2) then numM L n.2 else some (0,n.2)).bind fun a=>(zo1 L [⟨#[59]⟩] a.2).map fun k=>(⟨w.1,[],[o.1],n.1,[],a.1⟩,k)
 | 3=>(v2n L w.2).bind fun n=>(zo1 L [w7z] n.2).bind fun j=>(wh8 L true L.length [] [] j).bind fun l=>(zo1 L [⟨#[59]⟩] l.2).map fun k=>(⟨3,[n.1],l.1.1,⟨#[]⟩,l.1.2,0⟩,k)
 | 4=>(wh8 L false L.length [] [] w.2).bind fun l=>(zo1 L [w7z] l.2).bind fun j=>(v2n L j).bind fun o=>(zo1 L [⟨#[59]⟩] o.2).map fun k=>(⟨4,l.1.1,[o.1],⟨#[]⟩,[],0⟩,k)
 | 8=>(v2n L w.2).bind fun n=>(zo1 L [⟨#[59]⟩] n.2).map fun k=>(⟨8,[n.1],[],⟨#[]⟩,[],0⟩,k)
 | m=>(v2n L w.2).bind fun n=>(zo1 L [bif decide (m=7) then wAs else wTo] n.2).bind fun j=>(v2n L j).bind fun o=>(bif decide (m=6) then numM L o.2 else some (0,o.2)).bind fun a=>(zo1 L [⟨#[59]⟩] a.2).map fun k=>(⟨m,[n.1],[],o.1,[],a.1⟩,k)
def vjs (L:List Tk):Nat->List Stp->Nat->Option (List Stp×Nat)
 | 0,_,_=>none
 | f+1,l,i=>bif etS L i ⟨#[125]⟩ then some (l,i+1) else (z3a L i).bind fun s=>vjs L f (l++[s.1]) s.2
def vap (L:List Tk) (i:Nat):Option (Rcp×Nat):=(v2n L i).bind fun n=>(zo1 L [⟨#[123]⟩] n.2).bind fun j=>(vjs L L.length [] j).map fun s=>(⟨n.1,s.1⟩,s.2)
def xp1 (L:List Tk) (i:Nat):Option (Imp×Nat):=(v2n L i).bind fun n=>(y07 L n.2).bind fun u=>(numM L u.2).bind fun a=>(zo1 L [⟨#[61]⟩] a.2).bind fun j=>(numM L j).bind fun h=>(zo1 L [⟨#[58]⟩] h.2).bind fun j=>(v2n L j).bind fun p=>(zo1 L [⟨#[58]⟩] p.2).bind fun j=>(numM L j).bind fun v=>(zo1 L [⟨#[59]⟩] v.2).map fun k=>(⟨n.1,u.1,a.1,h.1,p.1,v.1⟩,k)
def x4h (L:List Tk) (i:Nat):Option (Inp×Nat):=(v2n L i).bind fun n=>(y07 L n.2).bind fun u=>(bif nxS L u.2 0 then v2n L u.2 else some (⟨#[]⟩,u.2)).bind fun k=>(zo1 L [⟨#[59]⟩] k.2).map fun j=>(⟨n.1,u.1,k.1⟩,j)
def y6z (L:List Tk):Nat->List Prm->Nat->Option (List Prm×Nat)
 | 0,_,_=>none
 | f+1,l,i=>(v2n L i).bind fun n=>(y07 L n.2).bind fun u=>bif etS L u.2 tCm then y6z L f (l++[⟨n.1,u.1⟩]) (u.2+1) else some (l++[⟨n.1,u.1⟩],u.2)
def zml (L:List Tk) (i:Nat):Option (Fnc×Nat):=(v2n L i).bind fun n=>(zo1 L [tLp] n.2).bind fun j=>(y6z L L.length [] j).bind fun p=>(zo1 L [tRp] p.2).bind fun j=>(yz3 L j).map fun x=>(⟨n.1,p.1,x.1⟩,x.2)
def y74 (L:List Tk):Nat->List Rw->Nat->Option (List Rw×Nat)
 | 0,_,_=>none
 | f+1,l,i=>bif etS L i ⟨#[125]⟩ then some (l,i+1) else (vm5 L i).bind fun k=>(zo1 L [⟨#[58]⟩] k.2).bind fun j=>(vm5 L j).bind fun v=>(zo1 L [⟨#[59]⟩] v.2).bind fun j=>y74 L f (l++[⟨k.1,v.1⟩]) j
def wxq (L:List Tk) (i:Nat):Option (Tb×Nat):=(v2n L i).bind fun n=>(y07 L n.2).bind fun u=>(zo1 L [⟨#[123]⟩] u.2).bind fun j=>(y74 L L.length [] j).map fun r=>(⟨n.1,u.1,r.1⟩,r.2)
def zft:List ByteArray:=[⟨#[105,109,112,111,114,116]⟩,⟨#[105,110,112,117,116]⟩,⟨#[116,97,98,108,101]⟩,⟨#[102,117,110,99]⟩,⟨#[99,101,108,108]⟩,⟨#[112,111,114,116]⟩,⟨#[115,116,111,114,101]⟩,⟨#[114,101,99,105,112,101]⟩]
def xi7:List ByteArray:=[⟨#[102,105,114,115,116]⟩,⟨#[108,97,115,116]⟩,⟨#[109,101,97,110]⟩]
def vs4 (L:List Tk) (s:Sht) (i:Nat):Option (Sht×Nat):=(x3s L i zft).bind fun w=>match w.1 with
 | 0=>(xp1 L w.2).map fun x=>({ s with imports:=s.imports++[x.1] },x.2)
 | 1=>(x4h L w.2).map fun x=>({ s with inputs:=s.inputs++[x.1] },x.2)
 | 2=>(wxq L w.2).map fun x=>({ s with tables:=s.tables++[x.1] },x.2)
 | 3=>(zml L w.2).map fun x=>({ s with funcs:=s.funcs++[x.1] },x.2)
 | 4=>(v2n L w.2).bind fun n=>(y07 L n.2).bind fun u=>(yz3 L u.2).map fun x=>({ s with cells:=s.cells++[⟨n.1,u.1,x.1⟩] },x.2)
 | 5=>(v2n L w.2).bind fun n=>(y07 L n.2).bind fun u=>(numM L u.2).bind fun a=>(zo1 L [⟨#[59]⟩] a.2).map fun j=>({ s with ports:=s.ports++[⟨n.1,u.1,a.1⟩] },j)
 | 6=>(v2n L w.2).bind fun n=>(y07 L n.2).bind fun u=>(x3s L u.2 xi7).bind fun r=>(zo1 L [⟨#[59]⟩] r.2).map fun j=>({ s with stores:=s.stores++[⟨n.1,u.1,r.1⟩] },j)
 | _=>(vap L w.2).map fun x=>({ s with recipes:=s.recipes++[x.1] },x.2)
def vih (L:List Tk):Nat->Sht->Nat->Option (Sht×Nat)
 | 0,_,_=>none
 | f+1,s,i=>bif etS L i ⟨#[125]⟩ then some (s,i+1) else (vs4 L s i).bind fun r=>vih L f r.1 r.2
def vuf (L:List Tk):Option Sht:=(zo1 L [⟨#[115,104,101,101,116]⟩] 0).bind fun j=>(v2n L j).bind fun n=>(zo1 L [⟨#[123]⟩] n.2).bind fun j=>(vih L L.length ⟨n.1,[],[],[],[],[],[],[],[]⟩ j).bind fun r=>bif decide (r.2=L.length) then some r.1 else none
end Go.Hp.T
namespace Go.Hp.T
open Go Go.RowKit Go.Slot Go.Hp Go.Slot.T
open Go.Proofs.Tryz (prog)
attribute [local irreducible] hide RH
set_option maxRecDepth 10000
set_option maxHeartbeats 8000000
variable {Γ:List (Nat×List Cell)}
abbrev rdS (L:List Tk) (i:Nat):SB:=.box [.dat (.sl 4 (L.map Tk.C)),.dat (cI i)] (some 181)
theorem zcs (L:List Tk) (i:Nat) (k:Int):wod Γ prog 173 [rdS L i] [.one (.ptr 0 0),.one (.dat (cI k))] [rdS L i] (.one (.dat (cB (nxS L i k)))):=by
 refine wod.run [] Go.Proofs.Tryz.func173 rfl rfl ?_;simp only [Go.Proofs.Tryz.f173];refine hgR ?_
 repeat' ((first | refine hfk ?_ ?_<;>intros | refine hik ?_)<;>refine hgS ?_)
 all_goals exact StH.ylx rfl (by kernel_rfl) (by ((refine bs1 @nxS.eq_def ?_;try exact trivial))<;>first | rfl | trivial)
theorem vg8 (L:List Tk) (i:Nat) (k:Int) (hl:L.length<=1048576) (h:nxS L i k=true):wod Γ prog 174 [rdS L i] [.one (.ptr 0 0),.one (.dat (cI k))] [rdS L (i+1)] (.agg ((tkC (L.getD i default)).map .dat)):=by
 have c:=zcs (Γ:=Γ) L i k;have hlt:=y1r h;rw [h] at c;clear h;refine wod.run [] Go.Proofs.Tryz.func174 rfl rfl ?_;simp only [Go.Proofs.Tryz.f174];refine hgR ?_
 repeat' ((first | refine hfk ?_ ?_<;>intros | refine hik ?_)<;>refine hgS ?_)
 refine xwj [0] c rfl (by decide) rfl rfl rfl ?_;refine hg ?_
 repeat' ((first | refine hfk ?_ ?_<;>intros | refine hik ?_)<;>refine hgS ?_)
 rw [show ((i:Int)+1-1).toNat=i by omega];exact StH.done 1 rfl (by kernel_rfl) rfl rfl
theorem vyj (L:List Tk) (i:Nat) (t:ByteArray) (hl:L.length<=1048576):wod Γ prog 147 [rdS L i] [.one (.ptr 0 0),.one (.dat (cS t))] [rdS L (etA L i t)] (.one (.dat (cB (etS L i t)))):=by
 have fin:∀ b,etS L i t=b->StH Γ [rdS L i] [SV.one (.dat (cB b))] [rdS L (bif b then i+1 else i)] [SV.one (.dat (cB (etS L i t)))] [rdS L (etA L i t)]:=fun b h=>by
  unfold etA;rw [h];exact StH.done 1 rfl (by kernel_rfl) rfl rfl
 refine wod.run [] Go.Proofs.Tryz.func147 rfl rfl ?_;simp only [Go.Proofs.Tryz.f147];refine hgR ?_
 repeat' ((first | refine hfk ?_ ?_<;>intros | refine hik ?_)<;>refine hgS ?_)
 all_goals first
  | exact fin true (by unfold etS;simp [*,-List.getD_eq_getElem?_getD])
  | exact fin false (by unfold etS;simp [*,-List.getD_eq_getElem?_getD])
theorem pc1:((1:Nat):Int)=1:=rfl
theorem vkl (L:List Tk) (i:Nat) (t:ByteArray) (hl:L.length<=1048576) (h:etS L i t=true):wod Γ prog 145 [rdS L i] [.one (.ptr 0 0),.one (.dat (.sl 1 [[cS t]]))] [rdS L (i+1)] (.tup []):=by
 have c:=vyj (Γ:=Γ) L i t hl;unfold etA at c;rw [h,cond_true] at c;refine wod.run [] Go.Proofs.Tryz.func145 rfl rfl ?_;simp only [Go.Proofs.Tryz.f145];refine hgR ?_;refine hg3 @pc1 @decide_true @decide_false ?_
 repeat' ((first | refine hfk ?_ ?_<;>intros | refine hik ?_ | with_reducible refine zl7 ?_ | with_reducible refine zp2 ?_)<;>refine hgS ?_)
 refine hg3 @pc1 @decide_true @decide_false ?_
 repeat' ((first | refine hfk ?_ ?_<;>intros | refine hik ?_ | with_reducible refine zl7 ?_ | with_reducible refine zp2 ?_)<;>refine hgS ?_)
 refine xbg c ?_;refine hg3 @pc1 @decide_true @decide_false ?_
 repeat' ((first | refine hfk ?_ ?_<;>intros | refine hik ?_ | with_reducible refine zl7 ?_ | with_reducible refine zp2 ?_)<;>refine hgS ?_)
 exact StH.same svl rfl
theorem zn1 {L:List Tk} {i:Nat} {s:ByteArray} {j:Nat} (hl:L.length<=1048576) (h:v2n L i=some (s,j)):wod Γ prog 146 [rdS L i] [.one (.ptr 0 0)] [rdS L j] (.one (.dat (cS s))):=by
 unfold v2n at h
 cases hn:nxS L i 0 with
 | false=>rw [hn] at h;cases h
 | true=>
  cases hw:isWord (L.getD i default).t with
  | true=>rw [hn,hw] at h;cases h
  | false=>
   rw [hn,hw] at h;simp only [Bool.not_false,Bool.and_true,cond_true,Option.some.injEq,Prod.mk.injEq] at h;obtain ⟨rfl,rfl⟩:=h;have c:=zcs (Γ:=Γ) L i 0;have tk:=vg8 (Γ:=Γ) L i 0 hl hn;have w:=wzc (Γ:=Γ) (L.getD i default).t;have hlt:=y1r hn;rw [hn] at c;rw [hw] at w;clear hn hw;refine wod.run [] Go.Proofs.Tryz.func146 rfl rfl ?_;simp only [Go.Proofs.Tryz.f146];refine hgR ?_
   repeat' ((first | refine hfk ?_ ?_<;>intros | refine hik ?_)<;>refine hgS ?_)
   first | refine xbg c ?_ | refine wt7 1 (fun ξ=>wod.pre (ξ:=ξ) c (fun r=>rfl) rfl rfl) rfl rfl ?_
   refine hg ?_
   repeat' ((first | refine hfk ?_ ?_<;>intros | refine hik ?_ | with_reducible first | refine y5k (w) ?_ | refine x4p (w) ?_)<;>refine hgS ?_)
   refine xbg tk ?_;refine hg ?_;exact StH.same svl rfl
theorem w0q {L:List Tk} {i:Nat} {s:ByteArray} {j:Nat} (hl:L.length<=1048576) (h:y07 L i=some (s,j)):wod Γ prog 180 [rdS L i] [.one (.ptr 0 0)] [rdS L j] (.one (.dat (cS s))):=by
 unfold y07 at h
 cases hn:nxS L i 2 with
 | false=>rw [hn] at h;cases h
 | true=>
  rw [hn] at h;simp only [cond_true,Option.some.injEq,Prod.mk.injEq] at h;obtain ⟨rfl,rfl⟩:=h;have tk:=vg8 (Γ:=Γ) L i 2 hl hn;clear hn;refine wod.run [] Go.Proofs.Tryz.func180 rfl rfl ?_;simp only [Go.Proofs.Tryz.f180];refine hgR ?_
  repeat' ((first | refine hfk ?_ ?_<;>intros | refine hik ?_)<;>refine hgS ?_)
  refine xbg tk ?_;refine hg ?_;exact StH.same svl rfl
theorem y7j {L:List Tk} {i:Nat} {n:Int} {j:Nat} (hl:L.length<=1048576) (h:numM L i=some (n,j)):wod Γ prog 182 [rdS L i] [.one (.ptr 0 0)] [rdS L j] (.one (.dat (cI n))):=by
 unfold numM at h
 cases hn:nxS L i 1 with
 | false=>rw [hn] at h;cases h
 | true=>
  rw [hn] at h;simp only [cond_true,Option.some.injEq,Prod.mk.injEq] at h;obtain ⟨rfl,rfl⟩:=h;have tk:=vg8 (Γ:=Γ) L i 1 hl hn;clear hn;refine wod.run [] Go.Proofs.Tryz.func182 rfl rfl ?_;simp only [Go.Proofs.Tryz.f182];refine hgR ?_
  repeat' ((first | refine hfk ?_ ?_<;>intros | refine hik ?_)<;>refine hgS ?_)
  refine xbg tk ?_;refine hg ?_;exact StH.same svl rfl
theorem yei {L:List Tk} {i:Nat} {l:List ByteArray} {k j:Nat} (hl:L.length<=1048576) (hw:l.length<=1048576) (h:x3s L i l=some (k,j)):wod Γ prog 175 [rdS L i] [.one (.ptr 0 0),.one (.dat (xan l))] [rdS L j] (.one (.dat (cI k))):=by
 unfold x3s at h;obtain ⟨k',hf,he⟩:=Option.map_eq_some_iff.1 h;simp only [Prod.mk.injEq] at he;obtain ⟨rfl,rfl⟩:=he;rw [List.find?_range_eq_some] at hf;obtain ⟨hp,hk,hno⟩:=hf;rw [List.mem_range] at hk;rw [Bool.and_eq_true] at hp;obtain ⟨hn,he⟩:=hp;have c:=zcs (Γ:=Γ) L i 0
 have e:=fun t=>vyj (Γ:=Γ) L i t hl
 have hno:∀ m,m<k'->etS L i (l.getD m ⟨#[]⟩)=false:=fun m hm=>by
  have:=hno m hm
  rw [hn,Bool.true_and,Bool.not_eq_true'] at this;exact this
 rw [hn] at c;clear hn h;refine wod.run [] Go.Proofs.Tryz.func175 rfl rfl ?_;simp only [Go.Proofs.Tryz.f175];refine hgR ?_
 repeat' ((first | refine hfk ?_ ?_<;>intros | refine hik ?_)<;>refine hgS ?_)
 refine wwt [0,1,7,8] (fun i:Nat=>[(9,.one (.dat (cI i)))]) (fun _=>[rdS L i]) (fun n=>n<=k') (fun n=>k'-n) 0 (Nat.zero_le _) ?_ ?_
 . refine hg ?_;exact StH.same svl rfl
 intro n hnk;have en:=e (l.getD n ⟨#[]⟩);clear e;unfold etA at en
 rcases Nat.lt_or_eq_of_le hnk with hlt | rfl
 . have hf:=hno n hlt;rw [hf,cond_false] at en;clear hno he;refine hg ?_
   repeat' ((first | refine hfk ?_ ?_<;>intros | refine hik ?_)<;>refine hgS ?_)
   all_goals try (exfalso;omega)
   refine xwj [0] c rfl (by decide) rfl rfl rfl ?_;refine hg ?_
   repeat' ((first | refine hfk ?_ ?_<;>intros | refine hik ?_)<;>refine hgS ?_)
   refine xwj [0] en rfl (by decide) rfl rfl rfl ?_;refine hg ?_
   repeat' ((first | refine hfk ?_ ?_<;>intros | refine hik ?_)<;>refine hgS ?_)
   exact ⟨n+1,hlt,by omega,StH.same svl rfl⟩
 . rw [he,cond_true] at en;clear hno he;refine hg ?_
   repeat' ((first | refine hfk ?_ ?_<;>intros | refine hik ?_)<;>refine hgS ?_)
   all_goals try (exfalso;omega)
   refine xwj [0] c rfl (by decide) rfl rfl rfl ?_;refine hg ?_
   repeat' ((first | refine hfk ?_ ?_<;>intros | refine hik ?_)<;>refine hgS ?_)
   refine xwj [0] en rfl (by decide) rfl rfl rfl ?_;refine hg ?_
   repeat' ((first | refine hfk ?_ ?_<;>intros | refine hik ?_)<;>refine hgS ?_)
   exact StH.same svl rfl
theorem wj8 {L:List Tk} {t:ByteArray} {i j:Nat} (h:zo1 L [t] i=some j):etS L i t=true/\j=i+1:=by
 unfold zo1 at h
 cases he:etS L i t with
 | true=>rw [he,cond_true] at h;unfold zo1 at h;exact ⟨rfl,(Option.some.inj h).symm⟩
 | false=>rw [he] at h;cases h
theorem x5h {L:List Tk} {i j:Nat} {t:ByteArray} (hl:L.length<=1048576) (h:zo1 L [t] i=some j):wod Γ prog 145 [rdS L i] [.one (.ptr 0 0),.one (.dat (.sl 1 [[cS t]]))] [rdS L j] (.tup []):=by
 obtain ⟨h1,rfl⟩:=wj8 h;exact vkl L i t hl h1
theorem y5v {L:List Tk} {i:Nat} {x:Ex} {j:Nat} (hl:L.length<=1048576) (ht:∀ a,(L.getD a default).t.size<=1048576) (h:yz3 L i=some (x,j)):wod Γ prog 181 [rdS L i] [.one (.ptr 0 0)] [rdS L j] (.agg ((exC x).map .dat)):=by
 unfold yz3 at h;obtain ⟨j1,h1,h⟩:=Option.bind_eq_some_iff.1 h;obtain ⟨h2,rfl⟩:=wj8 h1;have c1:=x5h (Γ:=Γ) hl h1;have cr:=yef (Γ:=Γ) L (i+1) hl ht (xme h2);generalize yx6 L (i+1)=r at *;obtain ⟨y,k,e⟩:=r;dsimp only at h cr;by_cases he:e=0
 . subst he;rw [decide_eq_true rfl,cond_true] at h;obtain ⟨j2,h3,h4⟩:=Option.map_eq_some_iff.1 h;simp only [Prod.mk.injEq] at h4;obtain ⟨rfl,rfl⟩:=h4;have c2:=x5h (Γ:=Γ) hl h3;clear h h1 h2 h3;refine wod.run [] Go.Proofs.Tryz.func181 rfl rfl ?_;simp only [Go.Proofs.Tryz.f181];refine hgR ?_
   repeat' ((first | refine hfk ?_ ?_<;>intros | refine hik ?_)<;>refine hgS ?_)
   refine xwj [0] c1 rfl (by decide) rfl rfl rfl ?_;refine hg ?_
   repeat' ((first | refine hfk ?_ ?_<;>intros | refine hik ?_ | with_reducible first | refine y5k (cr) ?_ | refine x4p (cr) ?_)<;>refine hgS ?_)
   refine xwj [0] c2 rfl (by decide) rfl rfl rfl ?_;refine hg ?_
   repeat' ((first | refine hfk ?_ ?_<;>intros | refine hik ?_)<;>refine hgS ?_)
   first | exact StH.done 1 rfl (by kernel_rfl) rfl rfl | exact StH.same svl rfl
 . rw [decide_eq_false he] at h;cases h
theorem wck {L:List Tk} {i:Nat} {x:Inp} {j:Nat} (hl:L.length<=1048576) (h:x4h L i=some (x,j)):wod Γ prog 177 [rdS L i] [.one (.ptr 0 0)] [rdS L j] (.agg (x.C.map .dat)):=by
 unfold x4h at h;obtain ⟨⟨n,i1⟩,h1,h⟩:=Option.bind_eq_some_iff.1 h;obtain ⟨⟨u,i2⟩,h2,h⟩:=Option.bind_eq_some_iff.1 h;dsimp only at h2 h;obtain ⟨⟨k,i3⟩,h3,h⟩:=Option.bind_eq_some_iff.1 h;dsimp only at h3 h;obtain ⟨i4,h4,h⟩:=Option.map_eq_some_iff.1 h;simp only [Prod.mk.injEq] at h;obtain ⟨rfl,rfl⟩:=h;have c1:=zn1 (Γ:=Γ) hl h1;have c2:=w0q (Γ:=Γ) hl h2;have c0:=zcs (Γ:=Γ) L i2 0;have c4:=x5h (Γ:=Γ) hl h4
 cases hn:nxS L i2 0 with
 | true=>
  rw [hn,cond_true] at h3;rw [hn] at c0;have c3:=zn1 (Γ:=Γ) hl h3;clear h1 h2 h3 h4 hn;refine wod.run [] Go.Proofs.Tryz.func177 rfl rfl ?_;simp only [Go.Proofs.Tryz.f177];refine hgR ?_
  repeat' ((first | refine hfk ?_ ?_<;>intros | refine hik ?_)<;>refine hgS ?_)
  refine xwj [0] c1 rfl (by decide) rfl rfl rfl ?_;refine hg ?_
  repeat' ((first | refine hfk ?_ ?_<;>intros | refine hik ?_)<;>refine hgS ?_)
  refine xwj [0] c2 rfl (by decide) rfl rfl rfl ?_;refine hg ?_
  repeat' ((first | refine hfk ?_ ?_<;>intros | refine hik ?_)<;>refine hgS ?_)
  refine xwj [0] c0 rfl (by decide) rfl rfl rfl ?_;refine hg ?_
  repeat' ((first | refine hfk ?_ ?_<;>intros | refine hik ?_)<;>refine hgS ?_)
  refine xwj [0] c3 rfl (by decide) rfl rfl rfl ?_;refine hg ?_
  repeat' ((first | refine hfk ?_ ?_<;>intros | refine hik ?_)<;>refine hgS ?_)
  refine xwj [0] c4 rfl (by decide) rfl rfl rfl ?_;refine hg ?_
  repeat' ((first | refine hfk ?_ ?_<;>intros | refine hik ?_)<;>refine hgS ?_)
  exact StH.done 1 rfl (by kernel_rfl) rfl rfl
 | false=>
  rw [hn,cond_false] at h3;simp only [Option.some.injEq,Prod.mk.injEq] at h3;obtain ⟨rfl,rfl⟩:=h3;rw [hn] at c0;clear h1 h2 h4 hn;refine wod.run [] Go.Proofs.Tryz.func177 rfl rfl ?_;simp only [Go.Proofs.Tryz.f177];refine hgR ?_
  repeat' ((first | refine hfk ?_ ?_<;>intros | refine hik ?_)<;>refine hgS ?_)
  refine xwj [0] c1 rfl (by decide) rfl rfl rfl ?_;refine hg ?_
  repeat' ((first | refine hfk ?_ ?_<;>intros | refine hik ?_)<;>refine hgS ?_)
  refine xwj [0] c2 rfl (by decide) rfl rfl rfl ?_;refine hg ?_
  repeat' ((first | refine hfk ?_ ?_<;>intros | refine hik ?_)<;>refine hgS ?_)
  refine xwj [0] c0 rfl (by decide) rfl rfl rfl ?_;refine hg ?_
  repeat' ((first | refine hfk ?_ ?_<;>intros | refine hik ?_)<;>refine hgS ?_)
  refine xwj [0] c4 rfl (by decide) rfl rfl rfl ?_;refine hg ?_
  repeat' ((first | refine hfk ?_ ?_<;>intros | refine hik ?_)<;>refine hgS ?_)
  exact StH.done 1 rfl (by kernel_rfl) rfl rfl
theorem ymi {L:List Tk} {i:Nat} {x:Imp} {j:Nat} (hl:L.length<=1048576) (h:xp1 L i=some (x,j)):wod Γ prog 176 [rdS L i] [.one (.ptr 0 0)] [rdS L j] (.agg (x.C.map .dat)):=by
 unfold xp1 at h;obtain ⟨⟨n,i1⟩,h1,h⟩:=Option.bind_eq_some_iff.1 h;obtain ⟨⟨u,i2⟩,h2,h⟩:=Option.bind_eq_some_iff.1 h;obtain ⟨⟨a,i3⟩,h3,h⟩:=Option.bind_eq_some_iff.1 h;obtain ⟨i4,h4,h⟩:=Option.bind_eq_some_iff.1 h;obtain ⟨⟨hh,i5⟩,h5,h⟩:=Option.bind_eq_some_iff.1 h;obtain ⟨i6,h6,h⟩:=Option.bind_eq_some_iff.1 h;obtain ⟨⟨p,i7⟩,h7,h⟩:=Option.bind_eq_some_iff.1 h;obtain ⟨i8,h8,h⟩:=Option.bind_eq_some_iff.1 h;obtain ⟨⟨v,i9⟩,h9,h⟩:=Option.bind_eq_some_iff.1 h;obtain ⟨i10,h10,h⟩:=Option.map_eq_some_iff.1 h;simp only [Prod.mk.injEq] at h;obtain ⟨rfl,rfl⟩:=h;have c1:=zn1 (Γ:=Γ) hl h1;have c2:=w0q (Γ:=Γ) hl h2;have c3:=y7j (Γ:=Γ) hl h3;have c4:=x5h (Γ:=Γ) hl h4;have c5:=y7j (Γ:=Γ) hl h5;have c6:=x5h (Γ:=Γ) hl h6;have c7:=zn1 (Γ:=Γ) hl h7;have c8:=x5h (Γ:=Γ) hl h8;have c9:=y7j (Γ:=Γ) hl h9;have c10:=x5h (Γ:=Γ) hl h10;clear h1 h2 h3 h4 h5 h6 h7 h8 h9 h10;refine wod.run [] Go.Proofs.Tryz.func176 rfl rfl ?_;simp only [Go.Proofs.Tryz.f176];refine hgR ?_
 repeat' ((first | refine hfk ?_ ?_<;>intros | refine hik ?_)<;>refine hgS ?_)
 refine xwj [0] c1 rfl (by decide) rfl rfl rfl ?_;refine hg ?_
 repeat' ((first | refine hfk ?_ ?_<;>intros | refine hik ?_)<;>refine hgS ?_)
 refine xwj [0] c2 rfl (by decide) rfl rfl rfl ?_;refine hg ?_
 repeat' ((first | refine hfk ?_ ?_<;>intros | refine hik ?_)<;>refine hgS ?_)
 refine xwj [0] c3 rfl (by decide) rfl rfl rfl ?_;refine hg ?_
 repeat' ((first | refine hfk ?_ ?_<;>intros | refine hik ?_)<;>refine hgS ?_)
 refine xwj [0] c4 rfl (by decide) rfl rfl rfl ?_;refine hg ?_
 repeat' ((first | refine hfk ?_ ?_<;>intros | refine hik ?_)<;>refine hgS ?_)
 refine xwj [0] c5 rfl (by decide) rfl rfl rfl ?_;refine hg ?_
 repeat' ((first | refine hfk ?_ ?_<;>intros | refine hik ?_)<;>refine hgS ?_)
 refine xwj [0] c6 rfl (by decide) rfl rfl rfl ?_;refine hg ?_
 repeat' ((first | refine hfk ?_ ?_<;>intros | refine hik ?_)<;>refine hgS ?_)
 refine xwj [0] c7 rfl (by decide) rfl rfl rfl ?_;refine hg ?_
 repeat' ((first | refine hfk ?_ ?_<;>intros | refine hik ?_)<;>refine hgS ?_)
 refine xwj [0] c8 rfl (by decide) rfl rfl rfl ?_;refine hg ?_
 repeat' ((first | refine hfk ?_ ?_<;>intros | refine hik ?_)<;>refine hgS ?_)
 refine xwj [0] c9 rfl (by decide) rfl rfl rfl ?_;refine hg ?_
 repeat' ((first | refine hfk ?_ ?_<;>intros | refine hik ?_)<;>refine hgS ?_)
 refine xwj [0] c10 rfl (by decide) rfl rfl rfl ?_;refine hg ?_
 repeat' ((first | refine hfk ?_ ?_<;>intros | refine hik ?_)<;>refine hgS ?_)
 exact StH.done 1 rfl (by kernel_rfl) rfl rfl
theorem zg3 {e η η':List SB} {l:List SV} {cs:List Cell} {bs:List Nat} {J':List SV} (m:Nat) (h:vc1 η l=some (cs.map .one,bs)) (hs:x7f (cs.map AV.one)=some (cs.map fun c=>SV.one (.dat c))) (hm:Nat.ble e.length m=true) (hc:xol m [SV.tup (cs.map fun c=>SV.one (.dat c))] (appL (frzE η bs) η)=true) (hσ:[SV.tup (cs.map fun c=>SV.one (.dat c))]=J') (hη:(appL (frzE η bs) η).take m=η') :
 StH Γ e [.tup l] η J' η':=
 StH.trans (StH.frzT h hs) (StH.done m hm hc hσ hη)
theorem ymp {η:List SB} {b b' n n':Nat} {l l':List (List Cell)} {q q':Nat} {T T':Option TypeId} (hb:gB η b=.arr (.sl 1 l) q T) (hb':gB η b'=.arr (.sl 1 l') q' T') (hn:n=l.length) (hn':n'=l'.length):vc1 η [.one (.sl b 1 0 n),.one (.sl b' 1 0 n')]=some ([.one (.sl 1 l),.one (.sl 1 l')],[b,b']):=by
 subst hn hn';simp [vc1,argD,vdl,hb,hb',Cell.esz,Cell.cnt,subC]
theorem vks {L:List Tk} {i:Nat} {p:ByteArray×Nat} (h:v2n L i=some p):i<L.length/\p.2=i+1:=by
 unfold v2n at h
 cases hn:nxS L i 0 with
 | false=>rw [hn] at h;cases h
 | true=>
  refine ⟨y1r hn,?_⟩
  cases hw:isWord (L.getD i default).t with
  | true=>rw [hn,hw] at h;cases h
  | false=>
   rw [hn,hw] at h;simp only [Bool.not_false,Bool.and_true,cond_true,Option.some.injEq] at h;rw [<-h]
theorem w1w {L:List Tk} {i:Nat} {r:(List ByteArray×List ByteArray)×Nat} (hl:L.length<=1048576) (h:wh8 L false L.length [] [] i=some r):wod Γ prog 231 [rdS L i] [.one (.ptr 0 0),.one (.dat (cB false))] [rdS L r.2] (.tup [.one (.dat (xan r.1.1)),.one (.dat (xan r.1.2))]):=by
 refine wod.run [] Go.Proofs.Tryz.func231 rfl rfl ?_;simp only [Go.Proofs.Tryz.f231];refine hgR ?_
 repeat' ((first | refine hfk ?_ ?_<;>intros | refine hik ?_)<;>refine hgS ?_)
 refine wwt [0,1] (fun x:List ByteArray×Nat=>[(4,.one (.sl 1 1 0 x.1.length)),(5,.one (.sl 2 1 0 0))]) (fun x=>[rdS L x.2,.arr (xan x.1) 0 (some 9),.arr (.sl 1 []) 0 (some 9)])
  (fun x=>x.1.length<=x.2/\i<=x.2/\∃ f,wh8 L false f x.1 [] x.2=some r) (fun x=>L.length-x.2) ([],i) ⟨Nat.zero_le _,Nat.le_refl _,_,h⟩ ?_ ?_
 . refine hg ?_;refine StH.trans (StH.empty (d:=4) (es:=1) (c:=.sl 1 []) (T:=some 9) rfl rfl (fun r hr=>by cases hr) rfl) ?_;refine hg ?_;refine StH.trans (StH.empty (d:=5) (es:=1) (c:=.sl 1 []) (T:=some 9) rfl rfl (fun r hr=>by cases hr) rfl) ?_;refine hg ?_;exact StH.same svl rfl
 rintro ⟨l,k⟩ ⟨k1,k2,f,hf⟩;dsimp only at k1 k2 hf;clear h
 cases f with
 | zero=>cases hf
 | succ f=>
  rw [wh8] at hf;obtain ⟨⟨s,k'⟩,h1,hf⟩:=Option.bind_eq_some_iff.1 hf;obtain ⟨hlt,e1⟩:=vks h1;dsimp only at e1;subst e1;dsimp only at hf;rw [cond_false,Option.bind_some] at hf;dsimp only at hf;have c1:=zn1 (Γ:=Γ) hl h1;have c2:=vyj (Γ:=Γ) L (k+1) tCm hl;unfold etA at c2;clear h1
  cases he:etS L (k+1) tCm with
  | true=>
   rw [he,cond_true] at hf c2;have hlt2:=xme he;clear he;refine hg ?_
   repeat' ((first | refine hfk ?_ ?_<;>intros | refine hik ?_)<;>refine hgS ?_)
   refine xwj [0] c1 rfl (by decide) rfl rfl rfl ?_;refine hg ?_
   repeat' ((first | refine hfk ?_ ?_<;>intros | refine hik ?_)<;>refine hgS ?_)
   refine xwj [0] c2 rfl (by decide) rfl rfl rfl ?_;refine hg ?_
   repeat' ((first | refine hfk ?_ ?_<;>intros | refine hik ?_)<;>refine hgS ?_)
   refine ⟨(l++[s],k+1+1),⟨by simp only [List.length_append,List.length_singleton];omega,by dsimp only;omega,f,hf⟩,by dsimp only;omega,?_⟩;refine StH.back [0,1,4,5] 1 3 3 rfl rfl rfl rfl rfl (by kernel_rfl) ?_;simp only
   conv=>simp (maxSteps:=2000000) (disch:=omega) only [go_sem,Nat.reduceAdd,Nat.reduceSub,Nat.reduceMul,Int.reduceToNat,Nat.reduceEqDiff,Nat.reduceBEq,Nat.reduceBneDiff,Nat.reduceLT,Int.reduceEq,Int.reduceLT,Int.reduceLE,Int.reduceNeg,Int.reduceAdd,Int.reduceSub,Int.reduceMul,List.length_append,List.length_singleton]
   exact StH.same svl (by simp only [xan,List.map_append,List.map_cons,List.map_nil];rfl)
  | false=>
   rw [he,cond_false] at hf c2;simp only [Option.some.injEq] at hf;subst hf;clear he;refine hg ?_
   repeat' ((first | refine hfk ?_ ?_<;>intros | refine hik ?_)<;>refine hgS ?_)
   refine xwj [0] c1 rfl (by decide) rfl rfl rfl ?_;refine hg ?_
   repeat' ((first | refine hfk ?_ ?_<;>intros | refine hik ?_)<;>refine hgS ?_)
   refine xwj [0] c2 rfl (by decide) rfl rfl rfl ?_;refine hg ?_
   repeat' ((first | refine hfk ?_ ?_<;>intros | refine hik ?_)<;>refine hgS ?_)
   exact zg3 (cs:=[.sl 1 (l.map (fun s=>[cS s])++[[cS s]]),.sl 1 []]) (bs:=[3,2]) 1 (ymp rfl rfl rfl rfl) rfl rfl (by kernel_rfl) (by simp only [xan,List.map_append,List.map_cons,List.map_nil]) rfl
theorem xaj {L:List Tk} {i:Nat} {r:(List ByteArray×List ByteArray)×Nat} (hl:L.length<=1048576) (h:wh8 L true L.length [] [] i=some r):wod Γ prog 231 [rdS L i] [.one (.ptr 0 0),.one (.dat (cB true))] [rdS L r.2] (.tup [.one (.dat (xan r.1.1)),.one (.dat (xan r.1.2))]):=by
 refine wod.run [] Go.Proofs.Tryz.func231 rfl rfl ?_;simp only [Go.Proofs.Tryz.f231];refine hgR ?_
 repeat' ((first | refine hfk ?_ ?_<;>intros | refine hik ?_)<;>refine hgS ?_)
 refine wwt [0,1] (fun x:(List ByteArray×List ByteArray)×Nat=>[(4,.one (.sl 1 1 0 x.1.1.length)),(5,.one (.sl 2 1 0 x.1.2.length))]) (fun x=>[rdS L x.2,.arr (xan x.1.1) 0 (some 9),.arr (xan x.1.2) 0 (some 9)])
  (fun x=>x.1.1.length<=x.2/\x.1.2.length<=x.2/\i<=x.2/\∃ f,wh8 L true f x.1.1 x.1.2 x.2=some r) (fun x=>L.length-x.2) (([],[]),i) ⟨Nat.zero_le _,Nat.zero_le _,Nat.le_refl _,_,h⟩ ?_ ?_
 . refine hg ?_;refine StH.trans (StH.empty (d:=4) (es:=1) (c:=.sl 1 []) (T:=some 9) rfl rfl (fun r hr=>by cases hr) rfl) ?_;refine hg ?_;refine StH.trans (StH.empty (d:=5) (es:=1) (c:=.sl 1 []) (T:=some 9) rfl rfl (fun r hr=>by cases hr) rfl) ?_;refine hg ?_;exact StH.same svl rfl
 rintro ⟨⟨l,c⟩,k⟩ ⟨k1,k3,k2,f,hf⟩;dsimp only at k1 k2 k3 hf;clear h
 cases f with
 | zero=>cases hf
 | succ f=>
  rw [wh8] at hf;obtain ⟨⟨s,k'⟩,h1,hf⟩:=Option.bind_eq_some_iff.1 hf;obtain ⟨hlt,e1⟩:=vks h1;dsimp only at e1;subst e1;dsimp only at hf;rw [cond_true] at hf;obtain ⟨⟨c',k''⟩,h2,hf⟩:=Option.bind_eq_some_iff.1 hf;obtain ⟨j1,h3,h2⟩:=Option.bind_eq_some_iff.1 h2;obtain ⟨h4,rfl⟩:=wj8 h3;obtain ⟨⟨w,j2⟩,h5,h6⟩:=Option.map_eq_some_iff.1 h2;obtain ⟨hlt2,e2⟩:=vks h5;dsimp only at e2;subst e2;simp only [Prod.mk.injEq] at h6;obtain ⟨rfl,rfl⟩:=h6;dsimp only at hf;have c1:=zn1 (Γ:=Γ) hl h1;have c3:=x5h (Γ:=Γ) hl h3;have c4:=zn1 (Γ:=Γ) hl h5;have c2:=vyj (Γ:=Γ) L (k+1+1+1) tCm hl;unfold etA at c2;clear h1 h2 h3 h4 h5
  cases he:etS L (k+1+1+1) tCm with
  | true=>
   rw [he,cond_true] at hf c2;have hlt3:=xme he;clear he;refine hg ?_
   repeat' ((first | refine hfk ?_ ?_<;>intros | refine hik ?_)<;>refine hgS ?_)
   refine xwj [0] c1 rfl (by decide) rfl rfl rfl ?_;refine hg ?_
   repeat' ((first | refine hfk ?_ ?_<;>intros | refine hik ?_)<;>refine hgS ?_)
   refine xwj [0] c3 rfl (by decide) rfl rfl rfl ?_;refine hg ?_
   repeat' ((first | refine hfk ?_ ?_<;>intros | refine hik ?_)<;>refine hgS ?_)
   refine xwj [0] c4 rfl (by decide) rfl rfl rfl ?_;refine hg ?_
   repeat' ((first | refine hfk ?_ ?_<;>intros | refine hik ?_)<;>refine hgS ?_)
   refine xwj [0] c2 rfl (by decide) rfl rfl rfl ?_;refine hg ?_
   repeat' ((first | refine hfk ?_ ?_<;>intros | refine hik ?_)<;>refine hgS ?_)
   refine ⟨((l++[s],c++[w]),k+1+1+1+1),⟨by simp only [List.length_append,List.length_singleton];omega,by simp only [List.length_append,List.length_singleton];omega,by dsimp only;omega,f,hf⟩,by dsimp only;omega,?_⟩;refine StH.back [0,1,4,5] 1 3 5 rfl rfl rfl rfl rfl (by kernel_rfl) ?_
   conv=>simp (maxSteps:=2000000) (disch:=omega) only [go_sem,Nat.reduceAdd,Nat.reduceSub,Nat.reduceMul,Int.reduceToNat,Nat.reduceEqDiff,Nat.reduceBEq,Nat.reduceBneDiff,Nat.reduceLT,Int.reduceEq,Int.reduceLT,Int.reduceLE,Int.reduceNeg,Int.reduceAdd,Int.reduceSub,Int.reduceMul,List.length_append,List.length_singleton]
   refine StH.back [0,1,4,5] 2 4 3 rfl rfl rfl rfl rfl (by kernel_rfl) ?_
   conv=>simp (maxSteps:=2000000) (disch:=omega) only [go_sem,Nat.reduceAdd,Nat.reduceSub,Nat.reduceMul,Int.reduceToNat,Nat.reduceEqDiff,Nat.reduceBEq,Nat.reduceBneDiff,Nat.reduceLT,Int.reduceEq,Int.reduceLT,Int.reduceLE,Int.reduceNeg,Int.reduceAdd,Int.reduceSub,Int.reduceMul,List.length_append,List.length_singleton]
   exact StH.same svl (by simp only [xan,List.map_append,List.map_cons,List.map_nil];rfl)
  | false=>
   rw [he,cond_false] at hf c2;simp only [Option.some.injEq] at hf;subst hf;clear he;refine hg ?_
   repeat' ((first | refine hfk ?_ ?_<;>intros | refine hik ?_)<;>refine hgS ?_)
   refine xwj [0] c1 rfl (by decide) rfl rfl rfl ?_;refine hg ?_
   repeat' ((first | refine hfk ?_ ?_<;>intros | refine hik ?_)<;>refine hgS ?_)
   refine xwj [0] c3 rfl (by decide) rfl rfl rfl ?_;refine hg ?_
   repeat' ((first | refine hfk ?_ ?_<;>intros | refine hik ?_)<;>refine hgS ?_)
   refine xwj [0] c4 rfl (by decide) rfl rfl rfl ?_;refine hg ?_
   repeat' ((first | refine hfk ?_ ?_<;>intros | refine hik ?_)<;>refine hgS ?_)
   refine xwj [0] c2 rfl (by decide) rfl rfl rfl ?_;refine hg ?_
   repeat' ((first | refine hfk ?_ ?_<;>intros | refine hik ?_)<;>refine hgS ?_)
   exact zg3 (cs:=[.sl 1 (l.map (fun s=>[cS s])++[[cS s]]),.sl 1 (c.map (fun s=>[cS s])++[[cS w]])]) (bs:=[3,4]) 1 (ymp rfl rfl rfl rfl) rfl rfl (by kernel_rfl) (by simp only [xan,List.map_append,List.map_cons,List.map_nil]) rfl
end Go.Hp.T
namespace Go.Hp.T
open Go Go.RowKit Go.Slot Go.Hp Go.Slot.T
set_option maxRecDepth 10000
def vxw (place:Nat->Option (Nat×Nat)) (cs:List HC) (ps:List (Nat×SV)):Option (List HC):=v7m place cs ps
def wru (place:Nat->Option (Nat×Nat)) (cs:List HC) (r:List (Nat×SV)) (a:Option (Nat×Nat)) (b:Option (List HC)):Option (List HC):=match a,b with
 | some (off,size),some us=>if us.length=size/\off+size<=cs.length then v7m place (cs.take off++us++cs.drop (off+size)) r else none
 | _,_=>none
def zgg (place:Nat->Option (Nat×Nat)) (cs:List HC) (r:List (Nat×SV)) (b:Bool):Option (List HC):=bif b then v7m place cs r else none
theorem xx3 {place:Nat->Option (Nat×Nat)} {cs:List HC} {ps:List (Nat×SV)}:v7m place cs ps=vxw place cs ps:=rfl
theorem vvt {place:Nat->Option (Nat×Nat)} {cs:List HC}:vxw place cs []=some cs:=rfl
theorem zw6 {place:Nat->Option (Nat×Nat)} {cs:List HC} {i:Nat} {x:SV} {r:List (Nat×SV)}:vxw place cs ((i,x)::r)=wru place cs r (place i) (wvr x):=by
 unfold vxw;rw [v7m];rfl
theorem y2a {a b:Nat}:Nat.beq a b=decide (a=b):=by rw [Bool.eq_iff_iff,decide_eq_true_iff,Nat.beq_eq]
theorem yfa {a b:Nat}:Nat.ble a b=decide (a<=b):=by rw [Bool.eq_iff_iff,decide_eq_true_iff,Nat.ble_eq]
theorem xby {a b:Nat} (h:a<=b):Nat.ble a b=true:=Nat.ble_eq_true_of_le h
theorem xia {place:Nat->Option (Nat×Nat)} {cs us:List HC} {off size:Nat} {r:List (Nat×SV)}:wru place cs r (some (off,size)) (some us)=zgg place (cs.take off++(us++cs.drop (off+size))) r (Nat.beq us.length size&&Nat.ble (off+size) cs.length):=by
 rw [<-List.append_assoc];show (if us.length=size/\off+size<=cs.length then v7m place (cs.take off++us++cs.drop (off+size)) r else none)=_;rw [y2a,yfa];by_cases h1:us.length=size
 . by_cases h2:off+size<=cs.length
   . rw [if_pos ⟨h1,h2⟩,decide_eq_true h1,decide_eq_true h2];rfl
   . rw [if_neg (fun h=>h2 h.2),decide_eq_false h2,Bool.and_false];rfl
 . rw [if_neg (fun h=>h1 h.1),decide_eq_false h1];rfl
theorem xml {place:Nat->Option (Nat×Nat)} {cs:List HC} {r:List (Nat×SV)}:zgg place cs r true=vxw place cs r:=rfl
attribute [go_sem ↓ 30000] xx3
attribute [go_sem] vvt zw6 xia xml y2a xby
end Go.Hp.T
