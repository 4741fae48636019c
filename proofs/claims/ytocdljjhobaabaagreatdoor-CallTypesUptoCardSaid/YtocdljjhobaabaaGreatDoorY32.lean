/- The proof, part Y32: Pn, 1z, 2a, 2b, Ja, Jb, Jd. -/
import Derived.Test.YtocdljjhobaabaaGreatDoorY31
import Derived.Test.YtocdljjhobaabaaGreatDoorY30
import Derived.Test.YtocdljjhobaabaaGreatDoorY7
import Derived.WalkKit
import Derived.ProofKit
import Derived.OpenShut
import Derived.JoinedCond
import Derived.ChangeBook
import Derived.ChangeStays
namespace Go.Hp.T
open Go Go.RowKit Go.Slot Go.Hp Go.Slot.T
open Go.Proofs.Tryz (prog)
attribute [local irreducible] hide RH
set_option maxRecDepth 10000
set_option maxHeartbeats 8000000
variable {Γ:List (Nat×List Cell)}
theorem strOfNums_size (l:List Int):(strOfNums l).size=l.length:=by
 show ((l.map fun n=>UInt8.ofNat n.toNat).toArray).size=_;simp
theorem wb6 (l:List Int):(w4x l).1.t.size<=l.length+401:=by
 have e0:(default:Tk).t.size=0:=rfl;unfold w4x
 cases zlq (l.headD 0) with
 | true=>
  rw [cond_true]
  have:=v8m waz l
  cases decide (((l.takeWhile waz).length:Int)<=20) with
  | true=>rw [cond_true];show (strOfNums _).size<=_;rw [strOfNums_size];omega
  | false=>rw [cond_false];show (default:Tk).t.size<=_;omega
 | false=>
  rw [cond_false]
  cases isDigit (l.headD 0) with
  | true=>
   rw [cond_true]
   have:=v8m isDigit l
   cases numO (l.takeWhile isDigit) with
   | true=>rw [cond_true];show (strOfNums _).size<=_;rw [strOfNums_size];omega
   | false=>rw [cond_false];show (default:Tk).t.size<=_;omega
  | false=>
   rw [cond_false]
   cases decide (l.headD 0=34) with
   | true=>
    rw [cond_true]
    cases quoL l.tail with
    | none=>show (default:Tk).t.size<=_;omega
    | some r=>
     obtain ⟨v,n⟩:=r;dsimp only;by_cases h:400<(v.length:Int)
     . rw [decide_eq_true h];show (default:Tk).t.size<=_;omega
     . rw [decide_eq_false h,cond_false];show (strOfNums _).size<=_;rw [strOfNums_size];omega
   | false=>
    rw [cond_false]
    cases yjn (l.headD 0) with
    | true=>rw [cond_true];show (strOfNums _).size<=_;rw [strOfNums_size,List.length_take];omega
    | false=>rw [cond_false];show (default:Tk).t.size<=_;omega
theorem xme:∀(f:Nat) (l:List Int) (a:Nat),(match wgu f l a with
 | .inl ts=>ts.length<=f/\∀ x∈ts,x.t.size<=l.length+401
 | .inr x=>x.2≠0)
 | 0,l,a=>⟨Nat.le_refl _,fun x h=>by cases h⟩
 | f+1,l,a=>by
  rw [wgu];dsimp only;generalize gapL (l.length+1) l=g
  cases (l.drop g).isEmpty with
  | true=>exact ⟨Nat.zero_le _,fun x h=>by cases h⟩
  | false=>
   rw [cond_false];have h1:=wb6 (l.drop g);generalize w4x (l.drop g)=r at *;obtain ⟨t,n,e⟩:=r;dsimp only at h1 ⊢;rw [List.length_drop] at h1;by_cases he:e=0
   . have h2:=xme f (l.drop (g+n)) (a+g+n);rw [decide_eq_false (fun h=>h he),cond_false];generalize wgu f (l.drop (g+n)) (a+g+n)=s at *
     cases s with
     | inr x=>exact h2
     | inl ts=>
      dsimp only at h2 ⊢;refine ⟨by rw [List.length_cons];omega,fun x hx=>?_⟩
      rcases List.mem_cons.1 hx with rfl | hx
      . show t.t.size<=_;omega
      . have:=h2.2 x hx
        rw [List.length_drop] at this;omega
   . rw [decide_eq_true he,cond_true];exact he
def vs7 (s:ByteArray):Ex×Int×Int:=match zna s with
 | .inr (p,e)=>(zE,p,e)
 | .inl ts=>
  bif decide ((y88 ts 0).2.2=0)&&decide (((y88 ts 0).2.1:Int)=ts.length) then ((y88 ts 0).1,0,0) else
  bif decide (((y88 ts 0).2.1:Int)<ts.length) then (zE,(ts.getD (y88 ts 0).2.1 default).p,bif decide ((y88 ts 0).2.2=0) then 12 else (y88 ts 0).2.2) else (zE,s.size,bif decide ((y88 ts 0).2.2=0) then 12 else (y88 ts 0).2.2)
theorem ytk (s:ByteArray) (hG:ws6 Γ 0=.elt sgC) (hs:s.size<=1073741824):CallsD Γ prog 38 [.one (cS s)] (.tup [.agg (exC (vs7 s).1),.one (cI (vs7 s).2.1),.one (cI (vs7 s).2.2)]):=by
 have c:=vz1 s hG hs
 have hk:match zna s with
  | .inl ts=>ts.length<=4001/\∀ x∈ts,x.t.size<=4401
  | .inr x=>x.2≠0:=by
  unfold zna;by_cases h4:4000<(s.size:Int)
  . rw [decide_eq_true h4];show (6:Int)≠0;decide
  . rw [decide_eq_false h4,cond_false];have h:=xme (s.size+1) (z1x s) 0;rw [v54] at h;generalize wgu (s.size+1) (z1x s) 0=r at *
    cases r with
    | inr x=>exact h
    | inl ts=>exact ⟨by have:=h.1;omega,fun x hx=>by have:=h.2 x hx;omega⟩
 unfold vs7;generalize zna s=r at *
 cases r with
 | inr x=>
  obtain ⟨p,e⟩:=x;dsimp only at hk ⊢;unfold snR at c;refine CallsD.run [] Go.Proofs.Tryz.func38 rfl rfl rfl ?_;simp only [Go.Proofs.Tryz.f38];refine hgR ?_
  repeat' ((first | refine hfk ?_ ?_<;>intros | refine hik ?_ | with_reducible first | refine v47 (c) ?_ | refine vrf (c) ?_)<;>refine hgS ?_)
  all_goals try (exfalso;simp_all;done)
  all_goals exact xr0 _ _
 | inl ts=>
  dsimp only at hk ⊢
  have r:=wnx (Γ:=Γ) ts 0 (by omega) (fun a=>by
   by_cases h:a<ts.length
   . have:=hk.2 _ (xdq h);omega
   . rw [List.getD_eq_getElem?_getD,List.getElem?_eq_none (by omega)];decide) (Nat.zero_le _)
  unfold snR at c;have hl:=hk.1;clear hk;generalize y88 ts 0=q at *;obtain ⟨x,i,e⟩:=q;dsimp only at r ⊢;by_cases h1:e=0
  . subst h1;rw [decide_eq_true rfl,Bool.true_and,cond_true];by_cases h2:(i:Int)=ts.length
    . have d2:=decide_eq_true h2;rw [d2,cond_true];clear h2;refine CallsD.run [] Go.Proofs.Tryz.func38 rfl rfl rfl ?_;simp only [Go.Proofs.Tryz.f38];refine hgR ?_
      repeat' ((first | refine hfk ?_ ?_<;>intros | refine hik ?_ | with_reducible first | refine v47 (c) ?_ | refine vrf (c) ?_ | refine v47 (r) ?_ | refine vrf (r) ?_)<;>refine hgS ?_)
      exact RLe.ofEq rfl
    . have d2:=decide_eq_false h2;rw [d2,cond_false];clear h2;by_cases h3:(i:Int)<ts.length
      . have d3:=decide_eq_true h3;rw [d3,cond_true];refine CallsD.run [] Go.Proofs.Tryz.func38 rfl rfl rfl ?_;simp only [Go.Proofs.Tryz.f38];refine hgR ?_
        repeat' ((first | refine hfk ?_ ?_<;>intros | refine hik ?_ | with_reducible first | refine v47 (c) ?_ | refine vrf (c) ?_ | refine v47 (r) ?_ | refine vrf (r) ?_)<;>refine hgS ?_)
        all_goals try (exfalso;omega)
        exact xr0 _ _
      . have d3:=decide_eq_false h3;rw [d3,cond_false];refine CallsD.run [] Go.Proofs.Tryz.func38 rfl rfl rfl ?_;simp only [Go.Proofs.Tryz.f38];refine hgR ?_
        repeat' ((first | refine hfk ?_ ?_<;>intros | refine hik ?_ | with_reducible first | refine v47 (c) ?_ | refine vrf (c) ?_ | refine v47 (r) ?_ | refine vrf (r) ?_)<;>refine hgS ?_)
        all_goals try (exfalso;omega)
        exact xr0 _ _
  . have d1:=decide_eq_false h1;rw [d1,Bool.false_and,cond_false,cond_false];clear h1;by_cases h3:(i:Int)<ts.length
    . have d3:=decide_eq_true h3;rw [d3,cond_true];refine CallsD.run [] Go.Proofs.Tryz.func38 rfl rfl rfl ?_;simp only [Go.Proofs.Tryz.f38];refine hgR ?_
      repeat' ((first | refine hfk ?_ ?_<;>intros | refine hik ?_ | with_reducible first | refine v47 (c) ?_ | refine vrf (c) ?_ | refine v47 (r) ?_ | refine vrf (r) ?_)<;>refine hgS ?_)
      all_goals try (exfalso;omega)
      exact xr0 _ _
    . have d3:=decide_eq_false h3;rw [d3,cond_false];refine CallsD.run [] Go.Proofs.Tryz.func38 rfl rfl rfl ?_;simp only [Go.Proofs.Tryz.f38];refine hgR ?_
      repeat' ((first | refine hfk ?_ ?_<;>intros | refine hik ?_ | with_reducible first | refine v47 (c) ?_ | refine vrf (c) ?_ | refine v47 (r) ?_ | refine vrf (r) ?_)<;>refine hgS ?_)
      all_goals try (exfalso;omega)
      exact xr0 _ _
end Go.Hp.T
namespace Go.Hp.T
open Go Go.RowKit Go.Slot Go.Hp Go.Slot.T
open Go.Proofs.Tryz (prog)
set_option maxRecDepth 10000
set_option maxHeartbeats 8000000
variable {Γ:List (Nat×List Cell)}
def xof:ByteArray:=⟨#[100,111,117,98,108,101,40,97,41,32,43,32,100,111,117,98,108,101,40,98,41]⟩
def x4l:Ex:=.mk 6 0 ⟨#[]⟩ ⟨#[]⟩ [.mk 3 0 ⟨#[]⟩ ⟨#[100,111,117,98,108,101]⟩ [.mk 1 0 ⟨#[]⟩ ⟨#[97]⟩ []],.mk 3 0 ⟨#[]⟩ ⟨#[100,111,117,98,108,101]⟩ [.mk 1 0 ⟨#[]⟩ ⟨#[98]⟩ []]]
theorem xgn:vs7 xof=(x4l,0,0):=by kernel_rfl
def xxi:ByteArray:=⟨#[97,32,42,32,50]⟩
def x45:Ex:=.mk 8 0 ⟨#[]⟩ ⟨#[]⟩ [.mk 1 0 ⟨#[]⟩ ⟨#[97]⟩ [],.mk 0 2 ⟨#[]⟩ ⟨#[]⟩ []]
theorem xcg:vs7 xxi=(x45,0,0):=by kernel_rfl
def vhz:ByteArray:=⟨#[98,111,116,104,40,97,44,32,97,41]⟩
def z6w:Ex:=.mk 3 0 ⟨#[]⟩ ⟨#[98,111,116,104]⟩ [.mk 1 0 ⟨#[]⟩ ⟨#[97]⟩ [],.mk 1 0 ⟨#[]⟩ ⟨#[97]⟩ []]
theorem wwf:vs7 vhz=(z6w,0,0):=by kernel_rfl
def w4o:ByteArray:=⟨#[98,111,116,104,40,120,44,32,51,32,34,107,103,34,41]⟩
def zyx:Ex:=.mk 3 0 ⟨#[]⟩ ⟨#[98,111,116,104]⟩ [.mk 1 0 ⟨#[]⟩ ⟨#[120]⟩ [],.mk 0 3 ⟨#[107,103]⟩ ⟨#[]⟩ []]
theorem xg1:vs7 w4o=(zyx,0,0):=by kernel_rfl
def zw2:ByteArray:=⟨#[100,111,117,98,108,101,40,100,111,117,98,108,101,40,120,41,41]⟩
def xrh:Ex:=.mk 3 0 ⟨#[]⟩ ⟨#[100,111,117,98,108,101]⟩ [.mk 3 0 ⟨#[]⟩ ⟨#[100,111,117,98,108,101]⟩ [.mk 1 0 ⟨#[]⟩ ⟨#[120]⟩ []]]
theorem xze:vs7 zw2=(xrh,0,0):=by kernel_rfl
def za8:ByteArray:=⟨#[100,111,117,98,108,101,40,120,44,32,121,41]⟩
def vk1:Ex:=.mk 3 0 ⟨#[]⟩ ⟨#[100,111,117,98,108,101]⟩ [.mk 1 0 ⟨#[]⟩ ⟨#[120]⟩ [],.mk 1 0 ⟨#[]⟩ ⟨#[121]⟩ []]
theorem yr0:vs7 za8=(vk1,0,0):=by kernel_rfl
def vgg:ByteArray:=⟨#[116,114,105,112,108,101,40,120,41]⟩
def vts:Ex:=.mk 3 0 ⟨#[]⟩ ⟨#[116,114,105,112,108,101]⟩ [.mk 1 0 ⟨#[]⟩ ⟨#[120]⟩ []]
theorem viq:vs7 vgg=(vts,0,0):=by kernel_rfl
def wny:Fnc:=⟨⟨#[98,111,116,104]⟩,[⟨⟨#[97]⟩,⟨#[103]⟩⟩,⟨⟨#[98]⟩,⟨#[103]⟩⟩],x4l⟩
def ve6:Fnc:=⟨⟨#[100,111,117,98,108,101]⟩,[⟨⟨#[97]⟩,⟨#[103]⟩⟩],x45⟩
def wth:Fnc:=⟨⟨#[100,111,117,98,108,101]⟩,[⟨⟨#[97]⟩,⟨#[103]⟩⟩],z6w⟩
theorem xur:wa2 [ve6,wny]=0:=by kernel_rfl
theorem yod:wa2 [wth,wny]=23:=by kernel_rfl
def x68:Ex:=.mk 6 0 ⟨#[]⟩ ⟨#[]⟩ [.mk 8 0 ⟨#[]⟩ ⟨#[]⟩ [.mk 1 0 ⟨#[]⟩ ⟨#[120]⟩ [],.mk 0 2 ⟨#[]⟩ ⟨#[]⟩ []],.mk 8 0 ⟨#[]⟩ ⟨#[]⟩ [.mk 0 3 ⟨#[107,103]⟩ ⟨#[]⟩ [],.mk 0 2 ⟨#[]⟩ ⟨#[]⟩ []]]
def vl1:ByteArray:=⟨#[40,32,120,32,42,32,50,32,41,32,43,32,40,32,51,32,34,107,103,34,32,42,32,50,32,41]⟩
theorem ztr:yc3 [ve6,wny] zyx=(x68,0):=by kernel_rfl
theorem vpv:z7n x68=true:=by kernel_rfl
def xyr:Ex:=.mk 8 0 ⟨#[]⟩ ⟨#[]⟩ [.mk 8 0 ⟨#[]⟩ ⟨#[]⟩ [.mk 1 0 ⟨#[]⟩ ⟨#[120]⟩ [],.mk 0 2 ⟨#[]⟩ ⟨#[]⟩ []],.mk 0 2 ⟨#[]⟩ ⟨#[]⟩ []]
def x8d:ByteArray:=⟨#[40,32,120,32,42,32,50,32,41,32,42,32,50]⟩
theorem xjx:yc3 [ve6,wny] xrh=(xyr,0):=by kernel_rfl
theorem x42:z7n xyr=true:=by kernel_rfl
theorem z9s:(yc3 [ve6,wny] vk1).2=1:=by kernel_rfl
theorem y5y:(yc3 [ve6,wny] vts).2=11:=by kernel_rfl
theorem n2 (N:Nat) (hN:N<=100000):WrE Γ N (.mk 0 2 ⟨#[]⟩ ⟨#[]⟩ []) [⟨1,⟨#[50]⟩,2,0⟩]:=wce N hN 2 _ vdp
theorem wnz:WrE Γ 0 x68 ([⟨3,⟨#[40]⟩,0,0⟩,⟨0,⟨#[120]⟩,0,0⟩,⟨3,⟨#[42]⟩,0,0⟩,⟨1,⟨#[50]⟩,2,0⟩,⟨3,⟨#[41]⟩,0,0⟩,⟨3,⟨#[43]⟩,0,0⟩,⟨3,⟨#[40]⟩,0,0⟩,⟨1,⟨#[51]⟩,3,0⟩,⟨2,⟨#[107,103]⟩,0,0⟩,⟨3,⟨#[42]⟩,0,0⟩,⟨1,⟨#[50]⟩,2,0⟩,⟨3,⟨#[41]⟩,0,0⟩]):=cWOp 0 (by decide) 6 (.inl rfl) _ _ _ _ (by decide) (by decide) (by decide) (by decide) (by decide) (by decide)
 (cWOp 3000 (by decide) 8 (.inr rfl) _ _ _ _ (by decide) (by decide) (by decide) (by decide) (by decide) (by decide) (vfd 6000 (by decide) _) (n2 6000 (by decide)))
 (cWOp 3000 (by decide) 8 (.inr rfl) _ _ _ _ (by decide) (by decide) (by decide) (by decide) (by decide) (by decide) (wf7 6000 (by decide) 3 _ _ (by kernel_rfl) w8a) (n2 6000 (by decide)))
theorem zl6:WrE Γ 0 xyr ([⟨3,⟨#[40]⟩,0,0⟩,⟨0,⟨#[120]⟩,0,0⟩,⟨3,⟨#[42]⟩,0,0⟩,⟨1,⟨#[50]⟩,2,0⟩,⟨3,⟨#[41]⟩,0,0⟩,⟨3,⟨#[42]⟩,0,0⟩,⟨1,⟨#[50]⟩,2,0⟩]):=cWOp 0 (by decide) 8 (.inr rfl) _ _ _ _ (by decide) (by decide) (by decide) (by decide) (by decide) (by decide)
 (cWOp 3000 (by decide) 8 (.inr rfl) _ _ _ _ (by decide) (by decide) (by decide) (by decide) (by decide) (by decide) (vfd 6000 (by decide) _) (n2 6000 (by decide)))
 (n2 3000 (by decide))
end Go.Hp.T
namespace Go.Hp.T
open Go Go.RowKit Go.Slot Go.Hp Go.Slot.T
open Go.Proofs.Tryz (prog)
attribute [local irreducible] hide RH
set_option maxRecDepth 10000
set_option maxHeartbeats 8000000
variable {Γ:List (Nat×List Cell)}
def gP (s:ByteArray):Prm:=⟨s,⟨#[103]⟩⟩
theorem zll (nm:ByteArray) (ps:List ByteArray) (t:ByteArray) (x:Ex) (hG:ws6 Γ 0=.elt sgC) (ht:t.size<=1073741824) (hps:ps.length<=1000) (hp:vs7 t=(x,0,0)) :
 CallsD Γ prog 20 [.one (cS nm),.one (.sl 1 (ps.map fun s=>[cS s])),.one (cS t)] (.agg (fncC ⟨nm,ps.map gP,x⟩)):=by
 have a1:=ytk (Γ:=Γ) t hG ht;rw [hp] at a1;clear hp hG;refine CallsD.run [] Go.Proofs.Tryz.func20 rfl rfl rfl ?_;simp only [Go.Proofs.Tryz.f20];refine hgR ?_
 repeat' ((first | refine hfk ?_ ?_<;>intros | refine hik ?_ | with_reducible first | refine v47 (a1) ?_ | refine vrf (a1) ?_)<;>refine hgS ?_)
 refine yxw [0,1,6,10] (fun p:Nat×List ByteArray=>[(11,.one (.dat (cI p.1)))])
  (fun p=>[.box [.dat (cS ⟨#[]⟩),.dat .zc,.dat (cI 0),.dat (cI 0),.dat (cS ⟨#[]⟩),.dat (cS ⟨#[]⟩),.dat .zc] (some 38),.box ((exC x).map .dat) (some 25),.box [.dat (cS nm),.sl 3 2 0 p.2.length,.dat (cI x.op),.dat (cI x.n),.dat (cS x.unit),.dat (cS x.name),.dat (.sl 5 (x.args.map Ex.cells))] (some 38),.arr (.sl 2 ((p.2.map gP).map Prm.C)) 0 (some 93)])
  (fun p=>p.1<=ps.length/\p.2=ps.take p.1) (fun p=>ps.length-p.1) (0,[]) ⟨Nat.zero_le _,by simp⟩ ?_ ?_
 . refine hg ?_;refine StH.trans (StH.zoa 2 1 (es:=2) (c:=.sl 2 []) (T:=some 93) rfl rfl rfl (fun r hr=>by cases hr) rfl) ?_;refine hg ?_;exact StH.same svl rfl
 rintro ⟨i,l⟩ ⟨hi,hls⟩;dsimp only at hi hls
 have hll:l.length=i:=by rw [hls];simp;omega
 refine hg ?_;refine xw4 (fun hlt _=>?_) (fun hlt _=>?_)
 . have hlt':i<ps.length:=by omega
   have hnx:True->l++[ps.getD i default]=ps.take (i+1):=fun _=>by rw [hls,zea hlt']
   clear hls;refine hg ?_
   repeat' ((first | refine hfk ?_ ?_<;>intros | refine hik ?_)<;>refine hgS ?_)
   refine ⟨(i+1,l++[ps.getD i default]),⟨by dsimp only;omega,hnx trivial⟩,by dsimp only;omega,?_⟩;refine StH.back [0,1,6,10,11] 3 4 4 rfl rfl rfl rfl rfl (by kernel_rfl) ?_;simp only [List.map_append,List.map_cons,List.map_nil]
   conv=>simp (maxSteps:=2000000) (disch:=omega) only [go_sem,Nat.reduceAdd,Nat.reduceSub,Nat.reduceMul,Int.reduceToNat,Nat.reduceEqDiff,Nat.reduceBEq,Nat.reduceBneDiff,Nat.reduceLT,Int.reduceEq,Int.reduceLT,Int.reduceLE,Int.reduceNeg,Int.reduceAdd,Int.reduceSub,Int.reduceMul,List.length_append,List.length_singleton]
   exact StH.same svl rfl
 . have ei:i=ps.length:=by omega
   subst ei;rw [List.take_length] at hls;subst hls;refine hg ?_
   repeat' ((first | refine hfk ?_ ?_<;>intros | refine hik ?_)<;>refine hgS ?_)
   exact RLe.ofEq rfl
theorem yzm (s want:ByteArray) (F:List Fnc) (x y:Ex) (hG:ws6 Γ 0=.elt sgC) (hs:s.size<=1073741824) (hF:F.length<=1073741824) (hS:∀ f∈F,f.Sm) (hx:x.Sm) (hp:vs7 s=(x,0,0)) (he:yc3 F x=(y,0))
 (hpr:CallsD Γ prog 39 [.agg (exC y)] (.tup [.one (cS want),.one (cB true)])):CallsD Γ prog 21 [.one (cS s),.one (.sl 7 (F.map Fnc.C)),.one (cS want)] (.one (cB true)):=by
 have a1:=ytk (Γ:=Γ) s hG hs;rw [hp] at a1;have a2:=z09 (Γ:=Γ) x F hx hF hS;rw [he] at a2
 have hw:seq want want=true:=by rw [veo];exact decide_eq_true rfl
 clear hp he hG hS;refine CallsD.run [] Go.Proofs.Tryz.func21 rfl rfl rfl ?_;simp only [Go.Proofs.Tryz.f21];refine hgR ?_
 repeat' ((first | refine hfk ?_ ?_<;>intros | refine hik ?_ | with_reducible first | refine v47 (a1) ?_ | refine vrf (a1) ?_ | refine v47 (a2) ?_ | refine vrf (a2) ?_ | refine v47 (hpr) ?_ | refine vrf (hpr) ?_)<;>refine hgS ?_)
 all_goals
  refine hg1 @hw ?_;exact RLe.ofEq rfl
theorem y5r (s:ByteArray) (want:Int) (F:List Fnc) (x:Ex) (hG:ws6 Γ 0=.elt sgC) (hs:s.size<=1073741824) (hF:F.length<=1073741824) (hS:∀ f∈F,f.Sm) (hx:x.Sm) (hp:vs7 s=(x,0,0)) (he:(yc3 F x).2=want):CallsD Γ prog 22 [.one (cS s),.one (.sl 7 (F.map Fnc.C)),.one (cI want)] (.one (cB true)):=by
 have a1:=ytk (Γ:=Γ) s hG hs;rw [hp] at a1;have a2:=z09 (Γ:=Γ) x F hx hF hS;rw [he] at a2;generalize (yc3 F x).1=y at *;clear hp he hG hS;refine CallsD.run [] Go.Proofs.Tryz.func22 rfl rfl rfl ?_;simp only [Go.Proofs.Tryz.f22];refine hgR ?_
 repeat' ((first | refine hfk ?_ ?_<;>intros | refine hik ?_ | with_reducible first | refine v47 (a1) ?_ | refine vrf (a1) ?_ | refine v47 (a2) ?_ | refine vrf (a2) ?_)<;>refine hgS ?_)
 all_goals exact RLe.ofEq (by simp)
mutual
def Ex.smB:Ex->Bool
 | .mk _ _ u s l=>decide (l.length<=1073741824)&&decide (u.size<=1073741824)&&decide (s.size<=1073741824)&&Ex.smBL l
def Ex.smBL:List Ex->Bool
 | []=>true
 | y::l=>Ex.smB y&&Ex.smBL l
end
theorem Ex.v2v:∀ l:List Ex,Ex.smBL l=l.all Ex.smB
 | []=>by rw [Ex.smBL];rfl
 | y::l=>by rw [Ex.smBL,Ex.v2v l];rfl
theorem x8l:∀ x:Ex,x.smB=true->x.Sm:=by
 refine Ex.ind (fun x ih h=>?_)
 cases x with
 | mk o n u s l=>
  rw [Ex.smB,Ex.v2v] at h;simp only [Bool.and_eq_true,decide_eq_true_eq,List.all_eq_true] at h;exact .mk _ h.1.1.1 h.1.1.2 h.1.2 (fun y hy=>ih y hy (h.2 y hy))
theorem smF {s:ByteArray} {l:List ByteArray} {x:Ex} (hs:s.size<=1073741824) (hl:l.length<=1073741824) (hp:∀ p∈l,p.size<=1073741824) (hx:x.smB=true):(⟨s,l.map gP,x⟩:Fnc).Sm:=⟨hs,by simpa using hl,fun p h=>by
 obtain ⟨t,ht,rfl⟩:=List.mem_map.1 h
 exact ⟨hp t ht,show (⟨#[103]⟩:ByteArray).size<=1073741824 by decide⟩,x8l _ hx⟩
theorem xz2:wny.Sm:=smF (l:=[⟨#[97]⟩,⟨#[98]⟩]) (by decide) (by decide) (by decide) (by kernel_rfl)
theorem wk3:ve6.Sm:=smF (l:=[⟨#[97]⟩]) (by decide) (by decide) (by decide) (by kernel_rfl)
theorem zae:wth.Sm:=smF (l:=[⟨#[97]⟩]) (by decide) (by decide) (by decide) (by kernel_rfl)
theorem vz4 {f g:Fnc} (hf:f.Sm) (hg1:g.Sm):∀ h∈[f,g],h.Sm:=fun h hm=>by
 rcases List.mem_cons.1 hm with e | hm
 . rw [e];exact hf
 . rcases List.mem_cons.1 hm with e | hm
   . rw [e];exact hg1
   . cases hm
theorem vp3 (hG:ws6 Γ 0=.elt sgC):CallsD Γ prog 7 [] (.one (cB true)):=by
 have g1:=vz4 wk3 xz2;have g2:=vz4 zae xz2;have hfn_both:CallsD Γ prog 20 [.one (cS ⟨#[98,111,116,104]⟩),.one (.sl 1 [[cS ⟨#[97]⟩],[cS ⟨#[98]⟩]]),.one (cS ⟨#[100,111,117,98,108,101,40,97,41,32,43,32,100,111,117,98,108,101,40,98,41]⟩)] (.agg (fncC wny)):=zll (Γ:=Γ) ⟨#[98,111,116,104]⟩ [⟨#[97]⟩,⟨#[98]⟩] xof x4l hG (by decide) (by decide) xgn;have hfn_dbl:CallsD Γ prog 20 [.one (cS ⟨#[100,111,117,98,108,101]⟩),.one (.sl 1 [[cS ⟨#[97]⟩]]),.one (cS ⟨#[97,32,42,32,50]⟩)] (.agg (fncC ve6)):=zll (Γ:=Γ) ⟨#[100,111,117,98,108,101]⟩ [⟨#[97]⟩] xxi x45 hG (by decide) (by decide) xcg;have hfn_cir:CallsD Γ prog 20 [.one (cS ⟨#[100,111,117,98,108,101]⟩),.one (.sl 1 [[cS ⟨#[97]⟩]]),.one (cS ⟨#[98,111,116,104,40,97,44,32,97,41]⟩)] (.agg (fncC wth)):=zll (Γ:=Γ) ⟨#[100,111,117,98,108,101]⟩ [⟨#[97]⟩] vhz z6w hG (by decide) (by decide) wwf
 have c1:CallsD Γ prog 14 [.one (.sl 7 [fncC ve6,fncC wny])] (.one (cI 0)):=by
  have:=vee (Γ:=Γ) [ve6,wny] (by decide) g1
  rw [xur] at this;exact this
 have c2:CallsD Γ prog 14 [.one (.sl 7 [fncC wth,fncC wny])] (.one (cI 23)):=by
  have:=vee (Γ:=Γ) [wth,wny] (by decide) g2
  rw [yod] at this;exact this
 have p1:=yag (Γ:=Γ) x68 _ vl1 (x8l _ (by kernel_rfl)) vpv wnz (by decide) (by decide) (by decide) (by kernel_rfl) (by decide);have p2:=yag (Γ:=Γ) xyr _ x8d (x8l _ (by kernel_rfl)) x42 zl6 (by decide) (by decide) (by decide) (by kernel_rfl) (by decide);have x1:CallsD Γ prog 21 [.one (cS ⟨#[98,111,116,104,40,120,44,32,51,32,34,107,103,34,41]⟩),.one (.sl 7 [fncC ve6,fncC wny]),.one (cS ⟨#[40,32,120,32,42,32,50,32,41,32,43,32,40,32,51,32,34,107,103,34,32,42,32,50,32,41]⟩)] (.one (cB true)):=yzm (Γ:=Γ) w4o vl1 [ve6,wny] zyx x68 hG (by decide) (by decide) g1 (x8l _ (by kernel_rfl)) xg1 ztr p1;have x2:CallsD Γ prog 21 [.one (cS ⟨#[100,111,117,98,108,101,40,100,111,117,98,108,101,40,120,41,41]⟩),.one (.sl 7 [fncC ve6,fncC wny]),.one (cS ⟨#[40,32,120,32,42,32,50,32,41,32,42,32,50]⟩)] (.one (cB true)):=yzm (Γ:=Γ) zw2 x8d [ve6,wny] xrh xyr hG (by decide) (by decide) g1 (x8l _ (by kernel_rfl)) xze xjx p2;have x3:CallsD Γ prog 22 [.one (cS ⟨#[100,111,117,98,108,101,40,120,44,32,121,41]⟩),.one (.sl 7 [fncC ve6,fncC wny]),.one (cI 1)] (.one (cB true)):=y5r (Γ:=Γ) za8 1 [ve6,wny] vk1 hG (by decide) (by decide) g1 (x8l _ (by kernel_rfl)) yr0 z9s;have x4:CallsD Γ prog 22 [.one (cS ⟨#[116,114,105,112,108,101,40,120,41]⟩),.one (.sl 7 [fncC ve6,fncC wny]),.one (cI 11)] (.one (cB true)):=y5r (Γ:=Γ) vgg 11 [ve6,wny] vts hG (by decide) (by decide) g1 (x8l _ (by kernel_rfl)) viq y5y;clear p1 p2 g1 g2;generalize wny=fb at *;generalize ve6=fd at *;generalize wth=fc at *;refine CallsD.run [] Go.Proofs.Tryz.func7 rfl rfl rfl ?_;simp only [Go.Proofs.Tryz.f7];refine hgR ?_
 repeat' ((first | refine hfk ?_ ?_<;>intros | refine hik ?_ | with_reducible first | refine v47 (hfn_both) ?_ | refine vrf (hfn_both) ?_ | refine v47 (hfn_dbl) ?_ | refine vrf (hfn_dbl) ?_ | refine v47 (hfn_cir) ?_ | refine vrf (hfn_cir) ?_ | refine v47 (c1) ?_ | refine vrf (c1) ?_ | refine v47 (c2) ?_ | refine vrf (c2) ?_ | refine v47 (x1) ?_ | refine vrf (x1) ?_ | refine v47 (x2) ?_ | refine vrf (x2) ?_ | refine v47 (x3) ?_ | refine vrf (x3) ?_ | refine v47 (x4) ?_ | refine vrf (x4) ?_)<;>refine hgS ?_)
 all_goals exact RLe.ofEq rfl
theorem zve:Ex.zero.Sm:=yqv _ (fun y hy=>by
 cases hy with
 | here=>exact ⟨by decide,by decide,by decide⟩
 | arg hz _=>cases hz)
theorem zsw {F:List Fnc} {x:Ex} (hx:x.Sm) (hS:∀ f∈F,f.Sm):(yc3 F x).1.Sm:=by
 by_cases h:(yc3 F x).2=0
 . obtain ⟨hv,_,hk,_,he⟩:=vhb h;rw [he];exact (ys1 hv hS hx hk).2
 . rw [((x0s F x).2.1 h).1];exact zve
end Go.Hp.T
namespace Go.Slot
open Go Go.RowKit Go.ChangeShapes
variable {P:Program} {H:Type} {enc:TypeId×Value->H} {w:World} {spare:Nat->Bool} {held:Bool}
structure Bulk (bk:DataW H->Nat):Prop where
 str:∀ b,b.length<=bk (.lit (.string b))
 elems:∀ l r,l.length<=bk (.slice l r)
 elem:∀ l r d,d∈l->bk d<=bk (.slice l r)
 part:∀ l d,d∈l->bk d<=bk (.agg l)
theorem RdD.app0 {M:Nat->Nat->Prop} {w:World}:∀{vs us:List Value} {cs ds:List Cell},RdD M w vs cs->RdD M w us ds->RdD M w (vs++us) (cs++ds)
 | [],_,[],_,_,h=>h
 | _::_,_,_::_,_,h,h'=>⟨h.1,RdD.app0 h.2 h'⟩
theorem cellAt {a:Addr} {v:Value} (h:w.cell? a=some v):a.spot=none:=by
 unfold World.cell? at h;split at h
 . split at h
   . cases h
   . rename_i hs;simpa using hs
 . cases h
theorem addrAt {a:Addr} (h:a.spot=none) (n:Nat):a.add n=⟨a.block,a.off+n,none⟩:=by
 unfold Addr.add
 split
 . rename_i e;subst e;cases a;simp at h;subst h;rfl
 . rfl
section
variable {bk:DataW H->Nat} {N:Nat}
end
end Go.Slot
namespace Go.Slot
open Go Go.RowKit Go.ChangeShapes Go.WideShapes
variable {P:Program} {H:Type} {enc:TypeId×Value->H}
def M0:Nat->Nat->Prop:=fun _ _=>False
section
variable {w:World} {spare:Nat->Bool} {held:Bool} {bk:DataW H->Nat} {N:Nat} {r:Reach} {b0:Nat}
end
theorem zc3 (hl:laidOutB P=true) {W W':World} (hb:Below W.heap.size W W') {sp:Nat->Bool}:∀{ts:List TypeId} {vs:List Value} {ds:List (DataW H)} {ps:List MemPlace},(∀ t∈ts,P.readableRec t=true/\t<P.types.size)->
 DataW.TrodAll enc P W 0 (fun _=>true) true ts vs ds ps->(∀ p∈ps,p.block<W.heap.size)->(∀ p∈ps,sp p.block=true)->DataW.TrodAll enc P W' 0 sp true ts vs ds ps
 | [],vs,ds,ps,_,h,_,_=>by
  obtain ⟨rfl,rfl,rfl⟩:=trodAll_nil h;exact trodAll_mk0
 | t::ts,vs,ds,ps,hts,h,hlt,hsp=>by
  obtain ⟨v,vs',d,ds',p,q,rfl,rfl,rfl,⟨fuel,h1⟩,h2⟩:=trodAll_cons h;have ht:=hts t (by simp)
  exact ⟨p,q,⟨fuel,DataW.trod_stays (kids_book hl ht.1) (book_sized ht.1) (fun h=>by cases h) ⟨ht.2,book_self t⟩ h1 (fun x hx=>hb.same (hlt x (by simp [hx]))) (fun x hx=>hsp x (by simp [hx]))⟩,
   zc3 hl hb (fun u hu=>hts u (by simp [hu])) h2 (fun x hx=>hlt x (by simp [hx])) (fun x hx=>hsp x (by simp [hx])),rfl⟩
theorem xfm {W W':World} {may:MemPlace->Prop} (hb:Below W.heap.size W W'):W.keptBut W' may:=by
 refine ⟨hb.os,hb.output,fun i hi=>?_⟩;rw [hb.block i hi]
 split
 . rename_i h1 h2;rw [h1] at h2;cases h2;exact ⟨rfl,rfl,rfl,fun _ _=>rfl⟩
 . rename_i h1 h2;rw [h1] at h2;cases h2;exact .inr ⟨rfl,rfl⟩
 . rfl
theorem xtd {W W':World} (hb:Below W.heap.size W W') {a:Addr} (h:a.block<W.heap.size):W'.frozen? a=W.frozen? a:=by
 unfold World.frozen?;rw [hb.block _ h]
theorem xhr (hl:laidOutB P=true) {f:Func} {s:ChangeSpec} {apart fresh handsOn again:Bool} {W W':World} {args:Array Value} {ds gs:List (DataW H)} {before:List MemPlace} {tb:TypeId}
 (hts:∀ t∈f.params.toList,P.readableRec t=true/\t<P.types.size) (hv:s.vars=[]) (hrt:f.resultTypes=#[tb]) (htb:P.underlying tb=some .bool)
 (hfn:∀ ds gs:List (DataW H),DataW.TrodAll enc P W 0 (fun _=>true) true f.params.toList args.toList ds before->gs=[]->(s.fn H (ds++gs)).results=[.lit (.bool true)]/\(s.fn H (ds++gs)).args=ds/\(s.fn H (ds++gs)).vars=[])
 (hW:DataW.Whole enc P f.params.toList s.vars apart W args.toList ds gs before) (hb:Below W.heap.size W W'):s.post enc P f apart fresh handsOn again W args (.bool true) W':=by
 have hlt:∀ p∈before,p.block<W.heap.size:=fun p hp=>hW.lt p hp
 have hW':=hW;obtain ⟨p,q,hA,hV,rfl,hfz,hnd⟩:=hW;rw [hv] at hV;obtain ⟨rfl,rfl⟩:=trodVars_none hV;rw [List.append_nil] at hW' hlt hfz hnd hfn;obtain ⟨e1,e2,e3⟩:=hfn ds [] hA rfl
 have hres:∀(b:Nat) (sp:Nat->Bool) (hd:Bool),DataW.TrodAll enc P W' b sp hd f.resultTypes.toList ((Value.bool true).resultList f.resultTypes.size) (s.fn H (ds++[])).results []:=fun b sp hd=>by
  rw [e1,hrt];exact trodAll_cons_mk (shut_bool htb true) trodAll_mk0
 have hargs:∀ sp:Nat->Bool,(∀ x∈p,sp x.block=true)->DataW.TrodAll enc P W' 0 sp true f.params.toList args.toList (s.fn H (ds++[])).args p:=fun sp hsp=>by
  rw [e2];exact zc3 hl hb hts hA hlt hsp
 have hvars:∀ sp:Nat->Bool,DataW.TrodVars enc P W' sp s.vars (s.fn H (ds++[])).vars []:=fun sp=>by
  rw [e3,hv];exact rfl
 refine ⟨ds,[],p,[],p,[],hW',hres _ _ _,hargs _ (fun x hx=>by simpa using hlt x hx),hvars _,xfm hb,fun _=>⟨?_,_,_,([]++p)++[],⟨[]++p,[],trodAll_append (hargs _ (fun _ _=>rfl)) (hres _ _ _),hvars _,rfl,?_,?_⟩,?_⟩⟩
 . exact ok_one hrt rfl (okWide_bool_mk htb true)
 . intro b off hp
   have hp':MemPlace.cell b off∈p:=by simpa using hp
   rw [xtd hb (hlt _ hp')];exact hfz b off hp'
 . intro ha;simpa using hnd ha
 . intro x hx _;simpa using hx
end Go.Slot
namespace Go.Slot
open Go Go.RowKit Go.ChangeShapes
def zqe (P:Program):Nat->List Field->Bool
 | _,[]=>true
 | off,f::r=>f.offset==off&&zqe P (off+P.cellsOf f.type) r
def w5k (P:Program):List Field->Nat
 | []=>0
 | f::r=>P.cellsOf f.type+w5k P r
def von (P:Program) (L:List TypeId):Bool:=L.all fun t=>match P.underlying t with
 | some .bool=>true
 | some (.int _)=>true
 | some .string=>true
 | some (.slice e)=>L.contains e&&(P.cellsOf e != 0)&&(match P.underlying e with | some (.int _)=>P.cellsOf e==1 | _=>true)
 | some (.array n e)=>L.contains e&&(P.cellsOf t==n*P.cellsOf e)
 | some (.struct fs)=>(fs.toList.all fun f=>L.contains f.type)&&zqe P 0 fs.toList&&(P.cellsOf t==w5k P fs.toList)
 | _=>false
inductive FitT (P:Program) (N:Nat):TypeId->List Cell->Prop
 | int {t:TypeId} {k:IntKind} {n:Int} (ht:P.underlying t=some (.int k)) (h:k.min<=n/\n<=k.max):FitT P N t [.raw (.int k n)]
 | bool {t:TypeId} {b:Bool} (ht:P.underlying t=some .bool):FitT P N t [.raw (.bool b)]
 | str {t:TypeId} {s:ByteArray} (ht:P.underlying t=some .string) (h:s.size<=N):FitT P N t [.raw (.string s)]
 | ints {t e:TypeId} {k:IntKind} {l:List Int} (ht:P.underlying t=some (.slice e)) (he:P.underlying e=some (.int k)) (hl:l.length<=N) (h:∀ x∈l,k.min<=x/\x<=k.max):FitT P N t [.ints k l]
 | sl {t e:TypeId} {rows:List (List Cell)} (ht:P.underlying t=some (.slice e)) (he:∀ k,P.underlying e≠some (.int k)) (hl:rows.length<=N) (h:∀ r∈rows,FitT P N e r):FitT P N t [.sl (P.cellsOf e) rows]
 | struct {t:TypeId} {fs:Array Field} {rows:List (List Cell)} (ht:P.underlying t=some (.struct fs)) (hl:rows.length=fs.size) (h:∀(i:Nat) (f:Field) (r:List Cell),fs.toList[i]? = some f->rows[i]? = some r->FitT P N f.type r):FitT P N t rows.flatten
 | array {t e:TypeId} {n:Nat} {rows:List (List Cell)} (ht:P.underlying t=some (.array n e)) (hl:rows.length=n) (h:∀ r∈rows,FitT P N e r):FitT P N t rows.flatten
section
variable {P:Program} {N:Nat} {t:TypeId} {cs:List Cell}
theorem FitT.zpx (h:FitT P N t cs) {k:IntKind} (ht:P.underlying t=some (.int k)):∃ n,cs=[.raw (.int k n)]/\k.min<=n/\n<=k.max:=by
 cases h with
 | int h1 h2=>rw [ht] at h1;cases h1;exact ⟨_,rfl,h2⟩
 | bool h1=>rw [ht] at h1;cases h1
 | str h1=>rw [ht] at h1;cases h1
 | ints h1=>rw [ht] at h1;cases h1
 | sl h1=>rw [ht] at h1;cases h1
 | struct h1=>rw [ht] at h1;cases h1
 | array h1=>rw [ht] at h1;cases h1
theorem FitT.v2u (h:FitT P N t cs) (ht:P.underlying t=some .string):∃ s,cs=[.raw (.string s)]/\s.size<=N:=by
 cases h with
 | int h1 h2=>rw [ht] at h1;cases h1
 | bool h1=>rw [ht] at h1;cases h1
 | str h1 h2=>exact ⟨_,rfl,h2⟩
 | ints h1=>rw [ht] at h1;cases h1
 | sl h1=>rw [ht] at h1;cases h1
 | struct h1=>rw [ht] at h1;cases h1
 | array h1=>rw [ht] at h1;cases h1
theorem FitT.wkk (h:FitT P N t cs) {e:TypeId} (ht:P.underlying t=some (.slice e)) (he:∀ k,P.underlying e≠some (.int k)):∃ rows,cs=[.sl (P.cellsOf e) rows]/\rows.length<=N/\∀ r∈rows,FitT P N e r:=by
 cases h with
 | int h1 h2=>rw [ht] at h1;cases h1
 | bool h1=>rw [ht] at h1;cases h1
 | str h1 h2=>rw [ht] at h1;cases h1
 | ints h1 h2 h3 h4=>rw [ht] at h1;cases h1;exact absurd h2 (he _)
 | sl h1 h2 h3 h4=>rw [ht] at h1;cases h1;exact ⟨_,rfl,h3,h4⟩
 | struct h1=>rw [ht] at h1;cases h1
 | array h1=>rw [ht] at h1;cases h1
theorem FitT.x6z (h:FitT P N t cs) {fs:Array Field} (ht:P.underlying t=some (.struct fs)):∃ rows:List (List Cell),cs=rows.flatten/\rows.length=fs.size/\
 ∀(i:Nat) (f:Field) (r:List Cell),fs.toList[i]? = some f->rows[i]? = some r->FitT P N f.type r:=by
 cases h with
 | int h1 h2=>rw [ht] at h1;cases h1
 | bool h1=>rw [ht] at h1;cases h1
 | str h1 h2=>rw [ht] at h1;cases h1
 | ints h1 h2 h3 h4=>rw [ht] at h1;cases h1
 | sl h1 h2 h3 h4=>rw [ht] at h1;cases h1
 | struct h1 h2 h3=>rw [ht] at h1;cases h1;exact ⟨_,rfl,h2,h3⟩
 | array h1=>rw [ht] at h1;cases h1
theorem FitT.yh0 (h:FitT P N t cs) {e:TypeId} {n:Nat} (ht:P.underlying t=some (.array n e)):∃ rows:List (List Cell),cs=rows.flatten/\rows.length=n/\∀ r∈rows,FitT P N e r:=by
 cases h with
 | int h1 h2=>rw [ht] at h1;cases h1
 | bool h1=>rw [ht] at h1;cases h1
 | str h1 h2=>rw [ht] at h1;cases h1
 | ints h1 h2 h3 h4=>rw [ht] at h1;cases h1
 | sl h1 h2 h3 h4=>rw [ht] at h1;cases h1
 | struct h1 h2 h3=>rw [ht] at h1;cases h1
 | array h1 h2 h3=>rw [ht] at h1;cases h1;exact ⟨_,rfl,h2,h3⟩
end
variable {P:Program} {H:Type} {enc:TypeId×Value->H} {w:World} {spare:Nat->Bool} {held:Bool} {bk:DataW H->Nat} {N:Nat}
theorem RdD.wx2 {M:Nat->Nat->Prop}:∀{vs:List Value} {cs:List Cell},RdD M w vs cs->∀ j (hj:j<cs.length),RdC M w (vs.getD j Go.undef) cs[j]
 | [],[],_,j,hj=>by simp at hj
 | _::_,[],h,_,_=>h.elim
 | [],_::_,h,_,_=>h.elim
 | _::_,_::_,h,0,_=>h.1
 | _::vs,_::cs,h,j+1,hj=>by simpa using RdD.wx2 (vs:=vs) (cs:=cs) h.2 j (by simpa using hj)
theorem xtm {L:List TypeId} {fuel:Nat} (hrec:∀(t:TypeId),t∈L->∀(cs:List Value) (x:DataW H×List MemPlace),DataW.trod enc P w 0 spare held fuel t cs=some x->bk x.1<=N->
 ∃ cells,RdD (fun _ _=>False) w cs cells/\FitT P N t cells) :
 ∀(fs:List Field) (off:Nat) (cs:List Value) (xs:List (DataW H×List MemPlace)),zqe P off fs=true->(∀ f∈fs,f.type∈L)->cs.length=off+w5k P fs->xs.length=fs.length->
  (∀(i:Nat) (f:Field),fs[i]? = some f->DataW.trod enc P w 0 spare held fuel f.type ((cs.drop f.offset).take (P.cellsOf f.type))=xs[i]?)->(∀ x∈xs,bk x.1<=N)->
  ∃ rows:List (List Cell),RdD (fun _ _=>False) w (cs.drop off) rows.flatten/\rows.length=fs.length/\∀(i:Nat) (f:Field) (r:List Cell),fs[i]? = some f->rows[i]? = some r->FitT P N f.type r
 | [],off,cs,xs,_,_,hlen,_,_,_=>by
  refine ⟨[],?_,rfl,fun i f r hf=>by simp at hf⟩;rw [List.drop_eq_nil_of_le (by simp [w5k] at hlen;omega)];exact trivial
 | f::fs,off,cs,xs,ht,hL,hlen,hxs,hx,hb=>by
  simp only [zqe,Bool.and_eq_true,beq_iff_eq] at ht;obtain ⟨hoff,ht⟩:=ht;simp only [w5k] at hlen
  cases xs with
  | nil=>simp at hxs
  | cons x xs=>
   have h0:=hx 0 f rfl;simp only [List.getElem?_cons_zero] at h0;obtain ⟨c0,r0,f0⟩:=hrec f.type (hL f (by simp)) _ x h0 (hb x (by simp))
   obtain ⟨rows,r1,f1,f2⟩:=xtm hrec fs (off+P.cellsOf f.type) cs xs ht (fun g hg=>hL g (by simp [hg])) (by omega) (by simpa using hxs) (fun i f' hf=>by
    have:=hx (i+1) f' (by simpa using hf)
    simpa using this) (fun y hy=>hb y (by simp [hy]))
   refine ⟨c0::rows,?_,by simp [f1],fun i f' r hf hr=>?_⟩
   . have:cs.drop off=(cs.drop f.offset).take (P.cellsOf f.type)++cs.drop (off+P.cellsOf f.type):=by
      rw [hoff,<-List.drop_drop,List.take_append_drop]
     rw [this,List.flatten_cons];exact r0.app0 r1
   . cases i with
     | zero=>simp at hf hr;subst hf hr;exact f0
     | succ i=>exact f2 i f' r (by simpa using hf) (by simpa using hr)
theorem x5u {e:TypeId} {fuel:Nat} (hrec:∀(cs:List Value) (x:DataW H×List MemPlace),DataW.trod enc P w 0 spare held fuel e cs=some x->bk x.1<=N->
 ∃ cells,RdD (fun _ _=>False) w cs cells/\FitT P N e cells) (cs:List Value) :
 ∀(n k:Nat) (xs:List (DataW H×List MemPlace)),cs.length=(k+n)*P.cellsOf e->xs.length=k+n->
  (∀(i:Nat),k<=i->i<k+n->DataW.trod enc P w 0 spare held fuel e ((cs.drop (i*P.cellsOf e)).take (P.cellsOf e))=xs[i]?)->(∀ x∈xs,bk x.1<=N)->
  ∃ rows:List (List Cell),RdD (fun _ _=>False) w (cs.drop (k*P.cellsOf e)) rows.flatten/\rows.length=n/\∀ r∈rows,FitT P N e r
 | 0,k,xs,hlen,_,_,_=>by
  refine ⟨[],?_,rfl,fun r hr=>by cases hr⟩;rw [List.drop_eq_nil_of_le (by rw [hlen];simp)];exact trivial
 | n+1,k,xs,hlen,hxs,hx,hb=>by
  have hk:k<xs.length:=by omega
  have h0:=hx k (Nat.le_refl _) (by omega);rw [List.getElem?_eq_getElem hk] at h0;obtain ⟨c0,r0,f0⟩:=hrec _ _ h0 (hb _ (List.getElem_mem hk));obtain ⟨rows,r1,f1,f2⟩:=x5u hrec cs n (k+1) xs (by rw [hlen];congr 1;omega) (by omega) (fun i h1 h2=>hx i (by omega) (by omega)) hb;refine ⟨c0::rows,?_,by simp [f1],fun r hr=>?_⟩
  . have:cs.drop (k*P.cellsOf e)=(cs.drop (k*P.cellsOf e)).take (P.cellsOf e)++cs.drop ((k+1)*P.cellsOf e):=by
     rw [Nat.add_mul,Nat.one_mul,<-List.drop_drop,List.take_append_drop]
    rw [this,List.flatten_cons];exact r0.app0 r1
  . cases List.mem_cons.1 hr with
    | inl h=>subst h;exact f0
    | inr h=>exact f2 r h
theorem v61 (hB:Bulk bk) {L:List TypeId} (hL:von P L=true):∀(fuel:Nat) (t:TypeId),t∈L->∀(cs:List Value) (x:DataW H×List MemPlace),DataW.trod enc P w 0 spare held fuel t cs=some x->bk x.1<=N->
 ∃ cells,RdD (fun _ _=>False) w cs cells/\FitT P N t cells:=by
 intro fuel
 induction fuel with
 | zero=>intro t _ cs x h;simp [DataW.trod] at h
 | succ fuel ih=>
  intro t htL cs x hx hb;have hok:=List.all_eq_true.1 hL t htL;split at hok
  . rename_i ht;obtain ⟨b,rfl,rfl⟩:=DataW.trod_bool ht hx;exact ⟨[.raw (.bool b)],⟨.raw rfl,trivial⟩,.bool ht⟩
  . rename_i k ht;obtain ⟨m,rfl,rfl,hw⟩:=DataW.trod_int ht hx;exact ⟨[.raw (.int k m)],⟨.raw rfl,trivial⟩,.int ht (by simpa [Lit.wf] using hw)⟩
  . rename_i ht;obtain ⟨s,rfl,rfl,_⟩:=DataW.trod_string ht hx;refine ⟨[.raw (.string s)],⟨.raw rfl,trivial⟩,.str ht ?_⟩;have h1:=hB.str s.data.toList;have e:s.data.toList.length=s.size:=Array.length_toList;have hb:bk (.lit (.string s.data.toList))<=N:=hb;omega
  . rename_i e ht;simp only [Bool.and_eq_true,bne_iff_ne,ne_eq] at hok;obtain ⟨⟨heL,hc0⟩,hk⟩:=hok
    have heL:e∈L:=by simpa using heL
    by_cases hint:∃ k,P.underlying e=some (.int k)
    . obtain ⟨k,he⟩:=hint;rw [he] at hk
      have hc:P.cellsOf e=1:=by simpa using hk
      rcases open_ints ht he hc hx with ⟨rfl,rfl⟩ | ⟨a,len,cap,zs,rfl,_,hlc,_,hzl,rfl,hcell,hwf⟩
      . exact ⟨[.ints k []],⟨.ints 0 0 rfl (Nat.le_refl _) (fun h=>absurd rfl h) (fun i hi=>absurd hi (Nat.not_lt_zero i)),trivial⟩,.ints ht he (Nat.zero_le _) (fun x hx=>by cases hx)⟩
      . have hle:len<=zs.length:=by rw [hzl];split<;>omega
        have htl:(zs.take len).length=len:=by simp;omega
        refine ⟨[.ints k (zs.take len)],⟨.ints a.block a.off htl.symm hlc (fun hne=>?_) (fun i hi=>⟨fun h=>h,?_⟩),trivial⟩,.ints ht he ?_ (fun x hx=>?_)⟩
        . have hpos:0<zs.length:=by
           have:=List.length_pos_iff.2 hne
           omega
          have h0:=cellAt (hcell 0 hpos)
          have h0:a.spot=none:=by simpa [Addr.add] using h0
          cases a;simp at h0;subst h0;rfl
        . have hi':i<zs.length:=by omega
          have h1:=hcell i hi'
          have hs:a.spot=none:=by
           have h0:=cellAt (hcell 0 (by omega));simpa [Addr.add] using h0
          rw [addrAt hs] at h1;rw [h1];simp [hi']
        . have:=hB.elems (lits (H:=H) k (zs.take len)) (lits k (zs.drop len))
          have e1:(lits (H:=H) k (zs.take len)).length=len:=by simp [lits];omega
          have hb:bk (.slice (lits k (zs.take len)) (lits k (zs.drop len)))<=N:=hb;omega
        . have:=hwf x (List.mem_of_mem_take hx)
          simpa [Lit.wf] using this
    . have hint:∀ k,P.underlying e≠some (.int k):=fun k hk=>hint ⟨k,hk⟩
      rcases DataW.trod_slice ht hx with ⟨rfl,rfl⟩ | ⟨a,len,cap,elems,rest,m,hm,rfl,rfl,_,hlc,_,hlen,hel,_,_⟩
      . exact ⟨[.sl (P.cellsOf e) []],⟨.sl 0 0 (fun _ _=>Go.undef) rfl (Nat.le_refl _) (fun h=>absurd rfl h) (fun r hr=>by cases hr) (fun i hi=>absurd hi (Nat.not_lt_zero i)) (fun i hi=>absurd hi (Nat.not_lt_zero i)),trivial⟩,
         .sl ht hint (Nat.zero_le _) (fun r hr=>by cases hr)⟩
      . obtain rfl:fuel=m:=by omega
        have each:∀ i,i<len->∃(vs:List Value) (row:List Cell),vs.length=P.cellsOf e/\(∀ j,j<P.cellsOf e->w.cell? ((a.add (i*P.cellsOf e)).add j)=vs[j]?)/\RdD (fun _ _=>False) w vs row/\FitT P N e row:=fun i hi=>by
         have h1:=hel i hi
         have hi':i<elems.length:=by omega
         rw [List.getElem?_eq_getElem hi'] at h1;simp only [Option.bind_eq_some_iff] at h1;obtain ⟨vs,hvs,htr⟩:=h1;obtain ⟨_,h2,h3⟩:=World.cells?_some hvs;have hbe:bk elems[i].1<=N:=Nat.le_trans (hB.elem (elems.map (·.1)) (rest.map (·.1)) elems[i].1 (List.mem_map.2 ⟨_,List.getElem_mem hi',rfl⟩)) hb;obtain ⟨row,r1,r2⟩:=ih e heL vs _ htr hbe;exact ⟨vs,row,h2,h3,r1,r2⟩
        have hlN:len<=N:=by
         have h1:=hB.elems (elems.map (·.1)) (rest.map (·.1));rw [List.length_map] at h1;have hb:bk (.slice (elems.map (·.1)) (rest.map (·.1)))<=N:=hb;omega
        have pick:∃(V:Nat->List Value) (R:Nat->List Cell),∀ i,i<len->(V i).length=P.cellsOf e/\(∀ j,j<P.cellsOf e->w.cell? ((a.add (i*P.cellsOf e)).add j)=(V i)[j]?)/\RdD (fun _ _=>False) w (V i) (R i)/\FitT P N e (R i):=by
         refine ⟨fun i=>if h:i<len then Classical.choose (each i h) else [],fun i=>if h:i<len then Classical.choose (Classical.choose_spec (each i h)) else [],fun i hi=>?_⟩;simp only [dif_pos hi];exact Classical.choose_spec (Classical.choose_spec (each i hi))
        obtain ⟨V,R,hVR⟩:=pick
        have hspot:∀ i j,i<len->j<P.cellsOf e->a.spot=none:=fun i j hi hj=>by
         have h0:0<len:=by omega
         have h2:=(hVR 0 h0).2.1 0 (by omega)
         have hl0':0<(V 0).length:=by rw [(hVR 0 h0).1];omega
         rw [List.getElem?_eq_getElem hl0'] at h2
         have:=cellAt h2
         simpa [Addr.add] using this
        have hrl:∀ i,i<len->(R i).length=P.cellsOf e:=fun i hi=>by rw [<-(hVR i hi).2.2.1.length];exact (hVR i hi).1
        refine ⟨[.sl (P.cellsOf e) ((List.range len).map R)],⟨.sl a.block a.off (fun i j=>(V i).getD j Go.undef) (by simp) hlc (fun hne=>?_) (fun r hr=>?_) (fun i hi j hj=>⟨fun h=>h,?_⟩) (fun i hi j hj=>?_),trivial⟩,.sl ht hint (by simpa using hlN) (fun r hr=>?_)⟩
        . have h0:0<len:=by
           rcases Nat.eq_zero_or_pos len with h | h
           . subst h;simp at hne
           . exact h
          have h1:=hspot 0 0 h0 (by omega)
          cases a;simp at h1;subst h1;rfl
        . obtain ⟨i,hi,rfl⟩:=List.mem_map.1 hr;exact hrl i (List.mem_range.1 hi)
        . simp at hi;have h1:=(hVR i hi).2.1 j hj
          have hjl:j<(V i).length:=by rw [(hVR i hi).1];exact hj
          rw [addrAt (hspot i j hi hj),addrAt rfl] at h1;simp only at h1;rw [h1,List.getElem?_eq_getElem hjl];simp [hjl]
        . simp at hi;simp only [List.getElem_map,List.getElem_range] at hj ⊢;exact RdD.wx2 (hVR i hi).2.2.1 j hj
        . obtain ⟨i,hi,rfl⟩:=List.mem_map.1 hr;exact (hVR i (List.mem_range.1 hi)).2.2.2
  . rename_i n e ht;simp only [Bool.and_eq_true,beq_iff_eq] at hok;obtain ⟨heL,hc⟩:=hok
    have heL:e∈L:=by simpa using heL
    obtain ⟨xs,m,hm,rfl,hcl,hxl,hel⟩:=DataW.trod_array ht hx
    obtain rfl:fuel=m:=by omega
    obtain ⟨rows,r1,r2,r3⟩:=x5u (fun cs' x' h1 h2=>ih e heL cs' x' h1 h2) cs n 0 xs (by rw [hcl,hc,Nat.zero_add]) (by omega) (fun i _ h2=>hel i (by omega)) (fun y hy=>
     Nat.le_trans (hB.part (xs.map (·.1)) y.1 (List.mem_map.2 ⟨y,hy,rfl⟩)) hb)
    exact ⟨rows.flatten,by simpa using r1,.array ht r2 r3⟩
  . rename_i fs ht;simp only [Bool.and_eq_true,beq_iff_eq] at hok;obtain ⟨⟨hfL,htt⟩,hc⟩:=hok;obtain ⟨xs,m,hm,rfl,hcl,hxl,hf⟩:=DataW.trod_struct ht hx
    obtain rfl:fuel=m:=by omega
    obtain ⟨rows,r1,r2,r3⟩:=xtm (fun t' hL' cs' x' h1 h2=>ih t' hL' cs' x' h1 h2) fs.toList 0 cs xs htt (fun f hf=>by simpa using List.all_eq_true.1 hfL f hf) (by omega) (by simpa using hxl) (fun i f hf'=>hf i f (by simpa using hf')) (fun y hy=>
     Nat.le_trans (hB.part (xs.map (·.1)) y.1 (List.mem_map.2 ⟨y,hy,rfl⟩)) hb)
    exact ⟨rows.flatten,by simpa using r1,.struct ht (by simpa using r2) r3⟩
  . cases hok
end Go.Slot
