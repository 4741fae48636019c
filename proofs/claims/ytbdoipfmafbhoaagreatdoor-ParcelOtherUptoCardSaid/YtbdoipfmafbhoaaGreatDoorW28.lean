/- The proof, part W28: Pt, Pu, Pv. -/
import Derived.Test.YtbdoipfmafbhoaaGreatDoorW27
import Derived.Test.YtbdoipfmafbhoaaGreatDoorW23
namespace Go.Hp.T
open Go Go.RowKit Go.Slot Go.Hp Go.Slot.T
open Go.Proofs.Tryz (prog)
attribute [local irreducible] hide RH
set_option maxRecDepth 10000
set_option maxHeartbeats 8000000
variable {Γ:List (Nat×List Cell)}
abbrev zlf:List Cell:=[cS ⟨#[109,101,116,101,114]⟩,cI 0,cI 0,cI 1,cI 1,cB true,cB false,cB false,
 cS ⟨#[116,97,107,101]⟩,cI 0,cI 0,cI 1,cI 1,cB true,cB false,cB false,
 cS ⟨#[100,114,97,119]⟩,cI 0,cI 0,cI 1,cI 1,cB true,cB false,cB true,
 cS ⟨#[115,112,108,105,116]⟩,cI 1,cI 1,cI 1,cI 100,cB false,cB true,cB false,
 cS ⟨#[106,111,105,110]⟩,cI 1,cI 100,cI 1,cI 1,cB false,cB false,cB false,
 cS ⟨#[103,105,118,101]⟩,cI 1,cI 1,cI 0,cI 0,cB true,cB false,cB false,
 cS ⟨#[112,117,116]⟩,cI 1,cI 1,cI 0,cI 0,cB true,cB false,cB true,
 cS ⟨#[108,111,115,101]⟩,cI 1,cI 1,cI 0,cI 0,cB true,cB false,cB false,
 cS ⟨#[114,101,115,116]⟩,cI 1,cI 1,cI 0,cI 0,cB false,cB false,cB false]
theorem zpg:CallsD Γ prog 76 [] (.agg zlf):=by
 refine CallsD.run [] Go.Proofs.Tryz.func76 rfl rfl rfl ?_;simp only [Go.Proofs.Tryz.f76];refine hgR ?_
 repeat' ((first | refine hfk ?_ ?_<;>intros | refine hik ?_)<;>refine hgS ?_)
 exact RLe.ofEq rfl
theorem vwe:CallsD Γ prog 183 [] (.one (xan xi7)):=by
 refine CallsD.run [] Go.Proofs.Tryz.func183 rfl rfl rfl ?_;simp only [Go.Proofs.Tryz.f183];refine hgR ?_
 repeat' ((first | refine hfk ?_ ?_<;>intros | refine hik ?_)<;>refine hgS ?_)
 exact RLe.ofEq rfl
def wrd (i:Nat):List (List Cell):=(y9m.take i).map fun s=>[cS s]
theorem wrd0:wrd 0=[]:=rfl
theorem wrd1:wrd 1=[[cS ⟨#[109,101,116,101,114]⟩]]:=rfl
theorem wrd2:wrd 2=[[cS ⟨#[109,101,116,101,114]⟩],[cS ⟨#[116,97,107,101]⟩]]:=rfl
theorem wrd3:wrd 3=[[cS ⟨#[109,101,116,101,114]⟩],[cS ⟨#[116,97,107,101]⟩],[cS ⟨#[100,114,97,119]⟩]]:=rfl
theorem wrd4:wrd 4=[[cS ⟨#[109,101,116,101,114]⟩],[cS ⟨#[116,97,107,101]⟩],[cS ⟨#[100,114,97,119]⟩],[cS ⟨#[115,112,108,105,116]⟩]]:=rfl
theorem wrd5:wrd 5=[[cS ⟨#[109,101,116,101,114]⟩],[cS ⟨#[116,97,107,101]⟩],[cS ⟨#[100,114,97,119]⟩],[cS ⟨#[115,112,108,105,116]⟩],[cS ⟨#[106,111,105,110]⟩]]:=rfl
theorem wrd6:wrd 6=[[cS ⟨#[109,101,116,101,114]⟩],[cS ⟨#[116,97,107,101]⟩],[cS ⟨#[100,114,97,119]⟩],[cS ⟨#[115,112,108,105,116]⟩],[cS ⟨#[106,111,105,110]⟩],[cS ⟨#[103,105,118,101]⟩]]:=rfl
theorem wrd7:wrd 7=[[cS ⟨#[109,101,116,101,114]⟩],[cS ⟨#[116,97,107,101]⟩],[cS ⟨#[100,114,97,119]⟩],[cS ⟨#[115,112,108,105,116]⟩],[cS ⟨#[106,111,105,110]⟩],[cS ⟨#[103,105,118,101]⟩],[cS ⟨#[112,117,116]⟩]]:=rfl
theorem wrd8:wrd 8=[[cS ⟨#[109,101,116,101,114]⟩],[cS ⟨#[116,97,107,101]⟩],[cS ⟨#[100,114,97,119]⟩],[cS ⟨#[115,112,108,105,116]⟩],[cS ⟨#[106,111,105,110]⟩],[cS ⟨#[103,105,118,101]⟩],[cS ⟨#[112,117,116]⟩],[cS ⟨#[108,111,115,101]⟩]]:=rfl
theorem wrd9:wrd 9=[[cS ⟨#[109,101,116,101,114]⟩],[cS ⟨#[116,97,107,101]⟩],[cS ⟨#[100,114,97,119]⟩],[cS ⟨#[115,112,108,105,116]⟩],[cS ⟨#[106,111,105,110]⟩],[cS ⟨#[103,105,118,101]⟩],[cS ⟨#[112,117,116]⟩],[cS ⟨#[108,111,115,101]⟩],[cS ⟨#[114,101,115,116]⟩]]:=rfl
theorem wr9 {L:List Tk} {i:Nat} {l:List ByteArray} {r:Nat×Nat} (h:x3s L i l=some r):r.1<l.length:=by
 unfold x3s at h;obtain ⟨k,hf,rfl⟩:=Option.map_eq_some_iff.1 h;rw [List.find?_range_eq_some] at hf;exact List.mem_range.1 hf.2.1
theorem stLe (a b c d e f:Cell) {b' c' e':Cell} (hb:Cell.Le b b') (hc:Cell.Le c c') (he:Cell.Le e e'):SVle (.agg [.dat a,.dat b,.dat c,.dat d,.dat e,.dat f]) (.agg [.dat a,.dat b',.dat c',.dat d,.dat e',.dat f]):=
 .agg (.cons (.refl _) (.cons (.dat hb) (.cons (.dat hc) (.cons (.refl _) (.cons (.dat he) (.cons (.refl _) .nil))))))
theorem x9u {L:List Tk} {i:Nat} {x:Stp} {j:Nat} (hl:L.length<=1048576) (h:z3a L i=some (x,j)):wod Γ prog 211 [rdS L i] [.one (.ptr 0 0)] [rdS L j] (.agg (x.C.map .dat)):=by
 unfold z3a at h;obtain ⟨⟨k,i1⟩,hw,h⟩:=Option.bind_eq_some_iff.1 h;have hk:k<9:=wr9 hw
 have cw:∀ kk:Int,kk=k->wod Γ prog 175 [rdS L i] [.one (.ptr 0 0),.one (.dat (.sl 1 (wrd 9)))] [rdS L i1] (.one (.dat (cI kk))):=fun kk hkk=>by rw [hkk];exact yei hl (by decide) hw
 clear hw;dsimp only at h;refine wod.run [] Go.Proofs.Tryz.func211 rfl rfl ?_;simp only [Go.Proofs.Tryz.f211];refine hgR ?_
 repeat' ((first | refine hfk ?_ ?_<;>intros | refine hik ?_ | with_reducible first | refine y5k (zpg) ?_ | refine x4p (zpg) ?_)<;>refine hgS ?_)
 refine wwt [0,2,3,10] (fun n:Nat=>[(4,.one (.sl 3 1 0 n)),(11,.one (.dat (cI n)))]) (fun n=>[rdS L i,.box [.dat (cI 0),.dat .zc,.dat .zc,.dat (cS ⟨#[]⟩),.dat .zc,.dat (cI 0)] (some 50),.box (zlf.map .dat) (some 127),.arr (.sl 1 (wrd n)) 0 (some 9)])
  (fun n=>n<=9) (fun n=>9-n) 0 (by decide) ?_ ?_
 . refine hg ?_;refine StH.trans (StH.empty (d:=4) (es:=1) (c:=.sl 1 []) (T:=some 9) rfl rfl (fun r hr=>by cases hr) rfl) ?_;refine hg ?_;exact StH.same svl rfl
 intro n hn
 obtain rfl | rfl | rfl | rfl | rfl | rfl | rfl | rfl | rfl | rfl:n=0\/n=1\/n=2\/n=3\/n=4\/n=5\/n=6\/n=7\/n=8\/n=9:=by omega
 . clear h;refine hg1 @wrd0 ?_;refine zcl (fun hlt _=>?_) (fun hlt _=>by exfalso;omega);refine hg ?_
   repeat' ((first | refine hfk ?_ ?_<;>intros | refine hik ?_)<;>refine hgS ?_)
   refine ⟨1,by decide,by decide,?_⟩;refine StH.back [0,2,3,4,10,11] 3 5 4 rfl rfl rfl rfl rfl (by kernel_rfl) ?_;refine hg ?_;exact StH.same svl rfl
 . clear h;refine hg1 @wrd1 ?_;refine zcl (fun hlt _=>?_) (fun hlt _=>by exfalso;omega);refine hg ?_
   repeat' ((first | refine hfk ?_ ?_<;>intros | refine hik ?_)<;>refine hgS ?_)
   refine ⟨2,by decide,by decide,?_⟩;refine StH.back [0,2,3,4,10,11] 3 5 4 rfl rfl rfl rfl rfl (by kernel_rfl) ?_;refine hg ?_;exact StH.same svl rfl
 . clear h;refine hg1 @wrd2 ?_;refine zcl (fun hlt _=>?_) (fun hlt _=>by exfalso;omega);refine hg ?_
   repeat' ((first | refine hfk ?_ ?_<;>intros | refine hik ?_)<;>refine hgS ?_)
   refine ⟨3,by decide,by decide,?_⟩;refine StH.back [0,2,3,4,10,11] 3 5 4 rfl rfl rfl rfl rfl (by kernel_rfl) ?_;refine hg ?_;exact StH.same svl rfl
 . clear h;refine hg1 @wrd3 ?_;refine zcl (fun hlt _=>?_) (fun hlt _=>by exfalso;omega);refine hg ?_
   repeat' ((first | refine hfk ?_ ?_<;>intros | refine hik ?_)<;>refine hgS ?_)
   refine ⟨4,by decide,by decide,?_⟩;refine StH.back [0,2,3,4,10,11] 3 5 4 rfl rfl rfl rfl rfl (by kernel_rfl) ?_;refine hg ?_;exact StH.same svl rfl
 . clear h;refine hg1 @wrd4 ?_;refine zcl (fun hlt _=>?_) (fun hlt _=>by exfalso;omega);refine hg ?_
   repeat' ((first | refine hfk ?_ ?_<;>intros | refine hik ?_)<;>refine hgS ?_)
   refine ⟨5,by decide,by decide,?_⟩;refine StH.back [0,2,3,4,10,11] 3 5 4 rfl rfl rfl rfl rfl (by kernel_rfl) ?_;refine hg ?_;exact StH.same svl rfl
 . clear h;refine hg1 @wrd5 ?_;refine zcl (fun hlt _=>?_) (fun hlt _=>by exfalso;omega);refine hg ?_
   repeat' ((first | refine hfk ?_ ?_<;>intros | refine hik ?_)<;>refine hgS ?_)
   refine ⟨6,by decide,by decide,?_⟩;refine StH.back [0,2,3,4,10,11] 3 5 4 rfl rfl rfl rfl rfl (by kernel_rfl) ?_;refine hg ?_;exact StH.same svl rfl
 . clear h;refine hg1 @wrd6 ?_;refine zcl (fun hlt _=>?_) (fun hlt _=>by exfalso;omega);refine hg ?_
   repeat' ((first | refine hfk ?_ ?_<;>intros | refine hik ?_)<;>refine hgS ?_)
   refine ⟨7,by decide,by decide,?_⟩;refine StH.back [0,2,3,4,10,11] 3 5 4 rfl rfl rfl rfl rfl (by kernel_rfl) ?_;refine hg ?_;exact StH.same svl rfl
 . clear h;refine hg1 @wrd7 ?_;refine zcl (fun hlt _=>?_) (fun hlt _=>by exfalso;omega);refine hg ?_
   repeat' ((first | refine hfk ?_ ?_<;>intros | refine hik ?_)<;>refine hgS ?_)
   refine ⟨8,by decide,by decide,?_⟩;refine StH.back [0,2,3,4,10,11] 3 5 4 rfl rfl rfl rfl rfl (by kernel_rfl) ?_;refine hg ?_;exact StH.same svl rfl
 . clear h;refine hg1 @wrd8 ?_;refine zcl (fun hlt _=>?_) (fun hlt _=>by exfalso;omega);refine hg ?_
   repeat' ((first | refine hfk ?_ ?_<;>intros | refine hik ?_)<;>refine hgS ?_)
   refine ⟨9,by decide,by decide,?_⟩;refine StH.back [0,2,3,4,10,11] 3 5 4 rfl rfl rfl rfl rfl (by kernel_rfl) ?_;refine hg ?_;exact StH.same svl rfl
 refine hg1 @wrd9 ?_;refine zcl (fun hlt _=>by exfalso;omega) (fun hlt _=>?_);refine hg ?_
 repeat' ((first | refine hfk ?_ ?_<;>intros | refine hik ?_)<;>refine hgS ?_)
 obtain rfl | rfl | rfl | rfl | rfl | rfl | rfl | rfl | rfl:k=0\/k=1\/k=2\/k=3\/k=4\/k=5\/k=6\/k=7\/k=8:=by omega
 . try dsimp only at h
   obtain ⟨⟨o,i2⟩,h1,h⟩:=Option.bind_eq_some_iff.1 h
   try dsimp only at h1 h
   obtain ⟨i3,h2,h⟩:=Option.bind_eq_some_iff.1 h
   try dsimp only at h2 h
   obtain ⟨⟨m,i4⟩,h3,h⟩:=Option.bind_eq_some_iff.1 h
   try dsimp only at h3 h
   obtain ⟨i6,h5,h⟩:=Option.map_eq_some_iff.1 h
   try dsimp only at h5 h
   have c1:=zn1 (Γ:=Γ) hl h1;have c2:=x5h (Γ:=Γ) hl h2;have c3:=zn1 (Γ:=Γ) hl h3;have c5:=x5h (Γ:=Γ) hl h5
   try simp only [Prod.mk.injEq] at h
   obtain ⟨rfl,rfl⟩:=h
   try clear h1
   try clear h2
   try clear h3
   try clear h4
   try clear h5
   refine xw0 [0] (cw 0 rfl) rfl rfl rfl (by decide) rfl rfl rfl ?_;clear cw
   conv=>simp (maxSteps:=2000000) (disch:=omega) only [go_sem,Nat.reduceAdd,Nat.reduceSub,Nat.reduceMul,Int.reduceToNat,Nat.reduceEqDiff,Nat.reduceBEq,Nat.reduceBneDiff,Nat.reduceLT,Int.reduceEq,Int.reduceLT,Int.reduceLE,Int.reduceNeg,Int.reduceAdd,Int.reduceSub,Int.reduceMul,dzB,dzS,decide_true,decide_false]
   repeat' ((first | refine hfk ?_ ?_<;>intros | refine hik ?_)<;>refine hgS ?_)
   refine xwj [0] c1 rfl (by decide) rfl rfl rfl ?_;refine hg2 @decide_true @decide_false ?_
   repeat' ((first | refine hfk ?_ ?_<;>intros | refine hik ?_)<;>refine hgS ?_)
   refine xwj [0] c2 rfl (by decide) rfl rfl rfl ?_;refine hg2 @decide_true @decide_false ?_
   repeat' ((first | refine hfk ?_ ?_<;>intros | refine hik ?_)<;>refine hgS ?_)
   refine xwj [0] c3 rfl (by decide) rfl rfl rfl ?_;refine hg2 @decide_true @decide_false ?_
   repeat' ((first | refine hfk ?_ ?_<;>intros | refine hik ?_)<;>refine hgS ?_)
   refine xwj [0] c5 rfl (by decide) rfl rfl rfl ?_;refine hg2 @decide_true @decide_false ?_
   repeat' ((first | refine hfk ?_ ?_<;>intros | refine hik ?_)<;>refine hgS ?_)
   exact StH.trans (StH.done 1 rfl (by kernel_rfl) rfl rfl) (StH.same (.cons (stLe _ _ _ _ _ _ (.zcSl _) (.refl _) (.zcSl _)) .nil) rfl)
 . try dsimp only at h
   obtain ⟨⟨o,i2⟩,h1,h⟩:=Option.bind_eq_some_iff.1 h
   try dsimp only at h1 h
   obtain ⟨i3,h2,h⟩:=Option.bind_eq_some_iff.1 h
   try dsimp only at h2 h
   obtain ⟨⟨m,i4⟩,h3,h⟩:=Option.bind_eq_some_iff.1 h
   try dsimp only at h3 h
   obtain ⟨i6,h5,h⟩:=Option.map_eq_some_iff.1 h
   try dsimp only at h5 h
   have c1:=zn1 (Γ:=Γ) hl h1;have c2:=x5h (Γ:=Γ) hl h2;have c3:=zn1 (Γ:=Γ) hl h3;have c5:=x5h (Γ:=Γ) hl h5
   try simp only [Prod.mk.injEq] at h
   obtain ⟨rfl,rfl⟩:=h
   try clear h1
   try clear h2
   try clear h3
   try clear h4
   try clear h5
   refine xw0 [0] (cw 1 rfl) rfl rfl rfl (by decide) rfl rfl rfl ?_;clear cw
   conv=>simp (maxSteps:=2000000) (disch:=omega) only [go_sem,Nat.reduceAdd,Nat.reduceSub,Nat.reduceMul,Int.reduceToNat,Nat.reduceEqDiff,Nat.reduceBEq,Nat.reduceBneDiff,Nat.reduceLT,Int.reduceEq,Int.reduceLT,Int.reduceLE,Int.reduceNeg,Int.reduceAdd,Int.reduceSub,Int.reduceMul,dzB,dzS,decide_true,decide_false]
   repeat' ((first | refine hfk ?_ ?_<;>intros | refine hik ?_)<;>refine hgS ?_)
   refine xwj [0] c1 rfl (by decide) rfl rfl rfl ?_;refine hg2 @decide_true @decide_false ?_
   repeat' ((first | refine hfk ?_ ?_<;>intros | refine hik ?_)<;>refine hgS ?_)
   refine xwj [0] c2 rfl (by decide) rfl rfl rfl ?_;refine hg2 @decide_true @decide_false ?_
   repeat' ((first | refine hfk ?_ ?_<;>intros | refine hik ?_)<;>refine hgS ?_)
   refine xwj [0] c3 rfl (by decide) rfl rfl rfl ?_;refine hg2 @decide_true @decide_false ?_
   repeat' ((first | refine hfk ?_ ?_<;>intros | refine hik ?_)<;>refine hgS ?_)
   refine xwj [0] c5 rfl (by decide) rfl rfl rfl ?_;refine hg2 @decide_true @decide_false ?_
   repeat' ((first | refine hfk ?_ ?_<;>intros | refine hik ?_)<;>refine hgS ?_)
   exact StH.trans (StH.done 1 rfl (by kernel_rfl) rfl rfl) (StH.same (.cons (stLe _ _ _ _ _ _ (.zcSl _) (.refl _) (.zcSl _)) .nil) rfl)
 . try dsimp only at h
   obtain ⟨⟨o,i2⟩,h1,h⟩:=Option.bind_eq_some_iff.1 h
   try dsimp only at h1 h
   obtain ⟨i3,h2,h⟩:=Option.bind_eq_some_iff.1 h
   try dsimp only at h2 h
   obtain ⟨⟨m,i4⟩,h3,h⟩:=Option.bind_eq_some_iff.1 h
   try dsimp only at h3 h
   obtain ⟨⟨a,i5⟩,h4,h⟩:=Option.bind_eq_some_iff.1 h
   try dsimp only at h4 h
   obtain ⟨i6,h5,h⟩:=Option.map_eq_some_iff.1 h
   try dsimp only at h5 h
   have c4:=y7j (Γ:=Γ) hl h4;have c1:=zn1 (Γ:=Γ) hl h1;have c2:=x5h (Γ:=Γ) hl h2;have c3:=zn1 (Γ:=Γ) hl h3;have c5:=x5h (Γ:=Γ) hl h5
   try simp only [Prod.mk.injEq] at h
   obtain ⟨rfl,rfl⟩:=h
   try clear h1
   try clear h2
   try clear h3
   try clear h4
   try clear h5
   refine xw0 [0] (cw 2 rfl) rfl rfl rfl (by decide) rfl rfl rfl ?_;clear cw
   conv=>simp (maxSteps:=2000000) (disch:=omega) only [go_sem,Nat.reduceAdd,Nat.reduceSub,Nat.reduceMul,Int.reduceToNat,Nat.reduceEqDiff,Nat.reduceBEq,Nat.reduceBneDiff,Nat.reduceLT,Int.reduceEq,Int.reduceLT,Int.reduceLE,Int.reduceNeg,Int.reduceAdd,Int.reduceSub,Int.reduceMul,dzB,dzS,decide_true,decide_false]
   repeat' ((first | refine hfk ?_ ?_<;>intros | refine hik ?_)<;>refine hgS ?_)
   refine xwj [0] c1 rfl (by decide) rfl rfl rfl ?_;refine hg2 @decide_true @decide_false ?_
   repeat' ((first | refine hfk ?_ ?_<;>intros | refine hik ?_)<;>refine hgS ?_)
   refine xwj [0] c2 rfl (by decide) rfl rfl rfl ?_;refine hg2 @decide_true @decide_false ?_
   repeat' ((first | refine hfk ?_ ?_<;>intros | refine hik ?_)<;>refine hgS ?_)
   refine xwj [0] c3 rfl (by decide) rfl rfl rfl ?_;refine hg2 @decide_true @decide_false ?_
   repeat' ((first | refine hfk ?_ ?_<;>intros | refine hik ?_)<;>refine hgS ?_)
   refine xwj [0] c4 rfl (by decide) rfl rfl rfl ?_;refine hg2 @decide_true @decide_false ?_
   repeat' ((first | refine hfk ?_ ?_<;>intros | refine hik ?_)<;>refine hgS ?_)
   refine xwj [0] c5 rfl (by decide) rfl rfl rfl ?_;refine hg2 @decide_true @decide_false ?_
   repeat' ((first | refine hfk ?_ ?_<;>intros | refine hik ?_)<;>refine hgS ?_)
   exact StH.trans (StH.done 1 rfl (by kernel_rfl) rfl rfl) (StH.same (.cons (stLe _ _ _ _ _ _ (.zcSl _) (.refl _) (.zcSl _)) .nil) rfl)
 . try dsimp only at h
   obtain ⟨⟨m,i2⟩,h1,h⟩:=Option.bind_eq_some_iff.1 h
   try dsimp only at h1 h
   obtain ⟨i3,h2,h⟩:=Option.bind_eq_some_iff.1 h
   try dsimp only at h2 h
   obtain ⟨⟨⟨l1,l2⟩,i4⟩,h3,h⟩:=Option.bind_eq_some_iff.1 h
   try dsimp only at h3 h
   obtain ⟨i6,h5,h⟩:=Option.map_eq_some_iff.1 h
   try dsimp only at h5 h
   have c1:=zn1 (Γ:=Γ) hl h1;have c2:=x5h (Γ:=Γ) hl h2;have c3:=xaj (Γ:=Γ) hl h3;have c5:=x5h (Γ:=Γ) hl h5
   try simp only [Prod.mk.injEq] at h
   obtain ⟨rfl,rfl⟩:=h
   try clear h1
   try clear h2
   try clear h3
   try clear h5
   refine xw0 [0] (cw 3 rfl) rfl rfl rfl (by decide) rfl rfl rfl ?_;clear cw
   conv=>simp (maxSteps:=2000000) (disch:=omega) only [go_sem,Nat.reduceAdd,Nat.reduceSub,Nat.reduceMul,Int.reduceToNat,Nat.reduceEqDiff,Nat.reduceBEq,Nat.reduceBneDiff,Nat.reduceLT,Int.reduceEq,Int.reduceLT,Int.reduceLE,Int.reduceNeg,Int.reduceAdd,Int.reduceSub,Int.reduceMul,dzB,dzS,decide_true,decide_false]
   repeat' ((first | refine hfk ?_ ?_<;>intros | refine hik ?_)<;>refine hgS ?_)
   refine xwj [0] c1 rfl (by decide) rfl rfl rfl ?_;refine hg2 @decide_true @decide_false ?_
   repeat' ((first | refine hfk ?_ ?_<;>intros | refine hik ?_)<;>refine hgS ?_)
   refine xwj [0] c2 rfl (by decide) rfl rfl rfl ?_;refine hg2 @decide_true @decide_false ?_
   repeat' ((first | refine hfk ?_ ?_<;>intros | refine hik ?_)<;>refine hgS ?_)
   refine xwj [0] c3 rfl (by decide) rfl rfl rfl ?_;refine hg2 @decide_true @decide_false ?_
   repeat' ((first | refine hfk ?_ ?_<;>intros | refine hik ?_)<;>refine hgS ?_)
   refine xwj [0] c5 rfl (by decide) rfl rfl rfl ?_;refine hg2 @decide_true @decide_false ?_
   repeat' ((first | refine hfk ?_ ?_<;>intros | refine hik ?_)<;>refine hgS ?_)
   exact StH.trans (StH.done 1 rfl (by kernel_rfl) rfl rfl) (StH.same (.cons (stLe _ _ _ _ _ _ (.refl _) (.refl _) (.refl _)) .nil) rfl)
 . try dsimp only at h
   obtain ⟨⟨⟨l1,l2⟩,i2⟩,h1,h⟩:=Option.bind_eq_some_iff.1 h
   try dsimp only at h1 h
   obtain ⟨i3,h2,h⟩:=Option.bind_eq_some_iff.1 h
   try dsimp only at h2 h
   obtain ⟨⟨o,i4⟩,h3,h⟩:=Option.bind_eq_some_iff.1 h
   try dsimp only at h3 h
   obtain ⟨i6,h5,h⟩:=Option.map_eq_some_iff.1 h
   try dsimp only at h5 h
   have c1:=w1w (Γ:=Γ) hl h1;have c2:=x5h (Γ:=Γ) hl h2;have c3:=zn1 (Γ:=Γ) hl h3;have c5:=x5h (Γ:=Γ) hl h5
   try simp only [Prod.mk.injEq] at h
   obtain ⟨rfl,rfl⟩:=h
   try clear h1
   try clear h2
   try clear h3
   try clear h5
   refine xw0 [0] (cw 4 rfl) rfl rfl rfl (by decide) rfl rfl rfl ?_;clear cw
   conv=>simp (maxSteps:=2000000) (disch:=omega) only [go_sem,Nat.reduceAdd,Nat.reduceSub,Nat.reduceMul,Int.reduceToNat,Nat.reduceEqDiff,Nat.reduceBEq,Nat.reduceBneDiff,Nat.reduceLT,Int.reduceEq,Int.reduceLT,Int.reduceLE,Int.reduceNeg,Int.reduceAdd,Int.reduceSub,Int.reduceMul,dzB,dzS,decide_true,decide_false]
   repeat' ((first | refine hfk ?_ ?_<;>intros | refine hik ?_)<;>refine hgS ?_)
   refine xwj [0] c1 rfl (by decide) rfl rfl rfl ?_;refine hg2 @decide_true @decide_false ?_
   repeat' ((first | refine hfk ?_ ?_<;>intros | refine hik ?_)<;>refine hgS ?_)
   refine xwj [0] c2 rfl (by decide) rfl rfl rfl ?_;refine hg2 @decide_true @decide_false ?_
   repeat' ((first | refine hfk ?_ ?_<;>intros | refine hik ?_)<;>refine hgS ?_)
   refine xwj [0] c3 rfl (by decide) rfl rfl rfl ?_;refine hg2 @decide_true @decide_false ?_
   repeat' ((first | refine hfk ?_ ?_<;>intros | refine hik ?_)<;>refine hgS ?_)
   refine xwj [0] c5 rfl (by decide) rfl rfl rfl ?_;refine hg2 @decide_true @decide_false ?_
   repeat' ((first | refine hfk ?_ ?_<;>intros | refine hik ?_)<;>refine hgS ?_)
   exact StH.trans (StH.done 1 rfl (by kernel_rfl) rfl rfl) (StH.same (.cons (stLe _ _ _ _ _ _ (.refl _) (.refl _) (.zcSl _)) .nil) rfl)
 . try dsimp only at h
   obtain ⟨⟨m,i2⟩,h1,h⟩:=Option.bind_eq_some_iff.1 h
   try dsimp only at h1 h
   obtain ⟨i3,h2,h⟩:=Option.bind_eq_some_iff.1 h
   try dsimp only at h2 h
   obtain ⟨⟨o,i4⟩,h3,h⟩:=Option.bind_eq_some_iff.1 h
   try dsimp only at h3 h
   obtain ⟨i6,h5,h⟩:=Option.map_eq_some_iff.1 h
   try dsimp only at h5 h
   have c1:=zn1 (Γ:=Γ) hl h1;have c2:=x5h (Γ:=Γ) (t:=wTo) hl h2;have c3:=zn1 (Γ:=Γ) hl h3;have c5:=x5h (Γ:=Γ) hl h5
   try simp only [Prod.mk.injEq] at h
   obtain ⟨rfl,rfl⟩:=h
   try clear h1
   try clear h2
   try clear h3
   try clear h4
   try clear h5
   refine xw0 [0] (cw 5 rfl) rfl rfl rfl (by decide) rfl rfl rfl ?_;clear cw
   conv=>simp (maxSteps:=2000000) (disch:=omega) only [go_sem,Nat.reduceAdd,Nat.reduceSub,Nat.reduceMul,Int.reduceToNat,Nat.reduceEqDiff,Nat.reduceBEq,Nat.reduceBneDiff,Nat.reduceLT,Int.reduceEq,Int.reduceLT,Int.reduceLE,Int.reduceNeg,Int.reduceAdd,Int.reduceSub,Int.reduceMul,dzB,dzS,decide_true,decide_false]
   repeat' ((first | refine hfk ?_ ?_<;>intros | refine hik ?_)<;>refine hgS ?_)
   refine xwj [0] c1 rfl (by decide) rfl rfl rfl ?_;refine hg2 @decide_true @decide_false ?_
   repeat' ((first | refine hfk ?_ ?_<;>intros | refine hik ?_)<;>refine hgS ?_)
   refine xwj [0] c2 rfl (by decide) rfl rfl rfl ?_;refine hg2 @decide_true @decide_false ?_
   repeat' ((first | refine hfk ?_ ?_<;>intros | refine hik ?_)<;>refine hgS ?_)
   refine xwj [0] c3 rfl (by decide) rfl rfl rfl ?_;refine hg2 @decide_true @decide_false ?_
   repeat' ((first | refine hfk ?_ ?_<;>intros | refine hik ?_)<;>refine hgS ?_)
   refine xwj [0] c5 rfl (by decide) rfl rfl rfl ?_;refine hg2 @decide_true @decide_false ?_
   repeat' ((first | refine hfk ?_ ?_<;>intros | refine hik ?_)<;>refine hgS ?_)
   exact StH.trans (StH.done 1 rfl (by kernel_rfl) rfl rfl) (StH.same (.cons (stLe _ _ _ _ _ _ (.refl _) (.zcSl _) (.zcSl _)) .nil) rfl)
 . try dsimp only at h
   obtain ⟨⟨m,i2⟩,h1,h⟩:=Option.bind_eq_some_iff.1 h
   try dsimp only at h1 h
   obtain ⟨i3,h2,h⟩:=Option.bind_eq_some_iff.1 h
   try dsimp only at h2 h
   obtain ⟨⟨o,i4⟩,h3,h⟩:=Option.bind_eq_some_iff.1 h
   try dsimp only at h3 h
   obtain ⟨⟨a,i5⟩,h4,h⟩:=Option.bind_eq_some_iff.1 h
   try dsimp only at h4 h
   obtain ⟨i6,h5,h⟩:=Option.map_eq_some_iff.1 h
   try dsimp only at h5 h
   have c4:=y7j (Γ:=Γ) hl h4;have c1:=zn1 (Γ:=Γ) hl h1;have c2:=x5h (Γ:=Γ) (t:=wTo) hl h2;have c3:=zn1 (Γ:=Γ) hl h3;have c5:=x5h (Γ:=Γ) hl h5
   try simp only [Prod.mk.injEq] at h
   obtain ⟨rfl,rfl⟩:=h
   try clear h1
   try clear h2
   try clear h3
   try clear h4
   try clear h5
   refine xw0 [0] (cw 6 rfl) rfl rfl rfl (by decide) rfl rfl rfl ?_;clear cw
   conv=>simp (maxSteps:=2000000) (disch:=omega) only [go_sem,Nat.reduceAdd,Nat.reduceSub,Nat.reduceMul,Int.reduceToNat,Nat.reduceEqDiff,Nat.reduceBEq,Nat.reduceBneDiff,Nat.reduceLT,Int.reduceEq,Int.reduceLT,Int.reduceLE,Int.reduceNeg,Int.reduceAdd,Int.reduceSub,Int.reduceMul,dzB,dzS,decide_true,decide_false]
   repeat' ((first | refine hfk ?_ ?_<;>intros | refine hik ?_)<;>refine hgS ?_)
   refine xwj [0] c1 rfl (by decide) rfl rfl rfl ?_;refine hg2 @decide_true @decide_false ?_
   repeat' ((first | refine hfk ?_ ?_<;>intros | refine hik ?_)<;>refine hgS ?_)
   refine xwj [0] c2 rfl (by decide) rfl rfl rfl ?_;refine hg2 @decide_true @decide_false ?_
   repeat' ((first | refine hfk ?_ ?_<;>intros | refine hik ?_)<;>refine hgS ?_)
   refine xwj [0] c3 rfl (by decide) rfl rfl rfl ?_;refine hg2 @decide_true @decide_false ?_
   repeat' ((first | refine hfk ?_ ?_<;>intros | refine hik ?_)<;>refine hgS ?_)
   refine xwj [0] c4 rfl (by decide) rfl rfl rfl ?_;refine hg2 @decide_true @decide_false ?_
   repeat' ((first | refine hfk ?_ ?_<;>intros | refine hik ?_)<;>refine hgS ?_)
   refine xwj [0] c5 rfl (by decide) rfl rfl rfl ?_;refine hg2 @decide_true @decide_false ?_
   repeat' ((first | refine hfk ?_ ?_<;>intros | refine hik ?_)<;>refine hgS ?_)
   exact StH.trans (StH.done 1 rfl (by kernel_rfl) rfl rfl) (StH.same (.cons (stLe _ _ _ _ _ _ (.refl _) (.zcSl _) (.zcSl _)) .nil) rfl)
 . try dsimp only at h
   obtain ⟨⟨m,i2⟩,h1,h⟩:=Option.bind_eq_some_iff.1 h
   try dsimp only at h1 h
   obtain ⟨i3,h2,h⟩:=Option.bind_eq_some_iff.1 h
   try dsimp only at h2 h
   obtain ⟨⟨o,i4⟩,h3,h⟩:=Option.bind_eq_some_iff.1 h
   try dsimp only at h3 h
   obtain ⟨i6,h5,h⟩:=Option.map_eq_some_iff.1 h
   try dsimp only at h5 h
   have c1:=zn1 (Γ:=Γ) hl h1;have c2:=x5h (Γ:=Γ) (t:=wAs) hl h2;have c3:=zn1 (Γ:=Γ) hl h3;have c5:=x5h (Γ:=Γ) hl h5
   try simp only [Prod.mk.injEq] at h
   obtain ⟨rfl,rfl⟩:=h
   try clear h1
   try clear h2
   try clear h3
   try clear h4
   try clear h5
   refine xw0 [0] (cw 7 rfl) rfl rfl rfl (by decide) rfl rfl rfl ?_;clear cw
   conv=>simp (maxSteps:=2000000) (disch:=omega) only [go_sem,Nat.reduceAdd,Nat.reduceSub,Nat.reduceMul,Int.reduceToNat,Nat.reduceEqDiff,Nat.reduceBEq,Nat.reduceBneDiff,Nat.reduceLT,Int.reduceEq,Int.reduceLT,Int.reduceLE,Int.reduceNeg,Int.reduceAdd,Int.reduceSub,Int.reduceMul,dzB,dzS,decide_true,decide_false]
   repeat' ((first | refine hfk ?_ ?_<;>intros | refine hik ?_)<;>refine hgS ?_)
   refine xwj [0] c1 rfl (by decide) rfl rfl rfl ?_;refine hg2 @decide_true @decide_false ?_
   repeat' ((first | refine hfk ?_ ?_<;>intros | refine hik ?_)<;>refine hgS ?_)
   refine xwj [0] c2 rfl (by decide) rfl rfl rfl ?_;refine hg2 @decide_true @decide_false ?_
   repeat' ((first | refine hfk ?_ ?_<;>intros | refine hik ?_)<;>refine hgS ?_)
   refine xwj [0] c3 rfl (by decide) rfl rfl rfl ?_;refine hg2 @decide_true @decide_false ?_
   repeat' ((first | refine hfk ?_ ?_<;>intros | refine hik ?_)<;>refine hgS ?_)
   refine xwj [0] c5 rfl (by decide) rfl rfl rfl ?_;refine hg2 @decide_true @decide_false ?_
   repeat' ((first | refine hfk ?_ ?_<;>intros | refine hik ?_)<;>refine hgS ?_)
   exact StH.trans (StH.done 1 rfl (by kernel_rfl) rfl rfl) (StH.same (.cons (stLe _ _ _ _ _ _ (.refl _) (.zcSl _) (.zcSl _)) .nil) rfl)
 . try dsimp only at h
   obtain ⟨⟨m,i2⟩,h1,h⟩:=Option.bind_eq_some_iff.1 h
   try dsimp only at h1 h
   obtain ⟨i6,h5,h⟩:=Option.map_eq_some_iff.1 h
   try dsimp only at h5 h
   have c1:=zn1 (Γ:=Γ) hl h1;have c5:=x5h (Γ:=Γ) hl h5
   try simp only [Prod.mk.injEq] at h
   obtain ⟨rfl,rfl⟩:=h
   try clear h1
   try clear h5
   refine xw0 [0] (cw 8 rfl) rfl rfl rfl (by decide) rfl rfl rfl ?_;clear cw
   conv=>simp (maxSteps:=2000000) (disch:=omega) only [go_sem,Nat.reduceAdd,Nat.reduceSub,Nat.reduceMul,Int.reduceToNat,Nat.reduceEqDiff,Nat.reduceBEq,Nat.reduceBneDiff,Nat.reduceLT,Int.reduceEq,Int.reduceLT,Int.reduceLE,Int.reduceNeg,Int.reduceAdd,Int.reduceSub,Int.reduceMul,dzB,dzS,decide_true,decide_false]
   repeat' ((first | refine hfk ?_ ?_<;>intros | refine hik ?_)<;>refine hgS ?_)
   refine xwj [0] c1 rfl (by decide) rfl rfl rfl ?_;refine hg2 @decide_true @decide_false ?_
   repeat' ((first | refine hfk ?_ ?_<;>intros | refine hik ?_)<;>refine hgS ?_)
   refine xwj [0] c5 rfl (by decide) rfl rfl rfl ?_;refine hg2 @decide_true @decide_false ?_
   repeat' ((first | refine hfk ?_ ?_<;>intros | refine hik ?_)<;>refine hgS ?_)
   exact StH.trans (StH.done 1 rfl (by kernel_rfl) rfl rfl) (StH.same (.cons (stLe _ _ _ _ _ _ (.refl _) (.zcSl _) (.zcSl _)) .nil) rfl)
end Go.Hp.T
namespace Go.Hp
open Go Go.RowKit Go.Slot
variable {P:Program} {Γ:List (Nat×List Cell)}
theorem HRL.setF {η:List SB} {ρ:Nat->Value} {M:Nat->Nat->Prop} {w:World} {h h':HC} (H:∀ v,HRd η ρ M w v h->HRd η ρ M w v h'):∀{vs:List Value} {hs:List HC} (f:Nat),HRL η ρ M w vs hs->hs[f]? = some h->HRL η ρ M w vs (hs.set f h')
 | [],[],_,_,hf=>by simp at hf
 | v::vs,x::hs,0,hr,hf=>by
  simp at hf;subst hf;exact ⟨H v hr.1,hr.2⟩
 | v::vs,x::hs,f+1,hr,hf=>⟨hr.1,HRL.setF H f hr.2 (by simpa using hf)⟩
theorem StH.xeu {e:List SB} {J:List SV} {η:List SB} (b f:Nat) {hs:List HC} {T':Option TypeId} {c0 c:Cell} {es:Nat} {T:Option TypeId} (hb:η[b]? = some (.box hs T')) (hf:hs[f]? = some (.dat c0)) (hz:isZc c0=true) (hu:c.uni) (hc:c.cnt=0) :
 StH Γ e J η J ((η++[SB.arr c 0 T]).set b (.box (hs.set f (.sl η.length es 0 0)) T')):=fun E ρ a w _ hR=>by
 have h1:=hR.go (Went.extend hR.inv 1)
 have hfr:(η++[SB.fresh])[η.length]? = some .fresh:=by simp
 have hw:=Went.new h1.inv (wxm w) hfr (v:=.pointer none) (x:=.arr c 0 T) (by simp) (fun _ hr=>absurd rfl hr) (fun m=>⟨⟨hu,Nat.zero_le _⟩,.inl ⟨hc,rfl⟩⟩);have h2:=h1.go hw;rw [show (η++List.replicate 1 SB.fresh).set η.length (.arr c 0 T)=η++[.arr c 0 T] by simp] at h2;have hlt:b<η.length:=(List.getElem?_eq_some_iff.1 hb).1
 have hb2:(η++[SB.arr c 0 T])[b]? = some (.box hs T'):=by rw [List.getElem?_append_left hlt];exact hb
 have hblk:=h2.inv.blk b _ hb2;refine ⟨upd ρ η.length (.pointer none),h2.go (Went.less h2.inv hb2 (by simp) (fun _=>rfl) (fun o h=>h) (fun m=>?_))⟩;obtain ⟨bb,vs,T0,e,hh,hr,ht⟩:=hblk.mv m (fun _ _=>rfl);refine ⟨bb,vs,T0,e,hh,HRL.setF (fun v hv=>?_) f hr hf,ht⟩;obtain ⟨ad,hv'⟩:=x9p (τ:=fun _=>⟨Go.undef,0⟩) hz (RdT.of (show RdC _ w v c0 from hv));exact ⟨ztz (by simp) ⟨.arr c 0 T,by simp,by simp⟩,ad,0,hv',Nat.le_refl _,fun h=>absurd rfl h⟩
end Go.Hp
namespace Go.Hp.T
open Go Go.RowKit Go.Slot Go.Hp Go.Slot.T
open Go.Proofs.Tryz (prog)
attribute [local irreducible] hide RH
set_option maxRecDepth 10000
set_option maxHeartbeats 8000000
variable {Γ:List (Nat×List Cell)}
theorem x1s {η:List SB} {b n:Nat} {c:Cell} {l:List (List Cell)} {k q:Nat} {T:Option TypeId} (hb:gB η b=.arr (.sl k l) q T) (hn:n=l.length):vc1 η [.agg [.dat c,.sl b k 0 n]]=some ([.agg [c,.sl k l]],[b]):=by
 subst hn;simp [vc1,argD,wa3,vdl,hb,Cell.esz,Cell.cnt,subC]
theorem xzj {L:List Tk} {i:Nat} {x:Rcp} {j:Nat} (hl:L.length<=1048576) (h:vap L i=some (x,j)):wod Γ prog 184 [rdS L i] [.one (.ptr 0 0)] [rdS L j] (.agg (x.C.map .dat)):=by
 unfold vap at h;obtain ⟨⟨n,i1⟩,h1,h⟩:=Option.bind_eq_some_iff.1 h;dsimp only at h1 h;obtain ⟨i2,h2,h⟩:=Option.bind_eq_some_iff.1 h;obtain ⟨⟨ss,i3⟩,h3,h⟩:=Option.map_eq_some_iff.1 h;simp only [Prod.mk.injEq] at h;obtain ⟨rfl,rfl⟩:=h;have c1:=zn1 (Γ:=Γ) hl h1;have c2:=x5h (Γ:=Γ) hl h2;clear h1 h2;refine wod.run [] Go.Proofs.Tryz.func184 rfl rfl ?_;simp only [Go.Proofs.Tryz.f184];refine hgR ?_
 repeat' ((first | refine hfk ?_ ?_<;>intros | refine hik ?_)<;>refine hgS ?_)
 refine xwj [0] c1 rfl (by decide) rfl rfl rfl ?_;refine hg ?_
 repeat' ((first | refine hfk ?_ ?_<;>intros | refine hik ?_)<;>refine hgS ?_)
 refine xwj [0] c2 rfl (by decide) rfl rfl rfl ?_;refine hg ?_
 repeat' ((first | refine hfk ?_ ?_<;>intros | refine hik ?_)<;>refine hgS ?_)
 refine wwt [0,2,3] (fun _:List Stp×Nat×Nat=>[]) (fun x=>[rdS L x.2.1,.box [.dat (cS ⟨#[]⟩),.dat .zc] (some 43),.box [.dat (cS n),.sl 3 6 0 x.1.length] (some 43),.arr (.sl 6 (x.1.map Stp.C)) 0 (some 50)])
  (fun x=>x.1.length+x.2.2<=L.length/\vjs L x.2.2 x.1 x.2.1=some (ss,i3)) (fun x=>x.2.2) ([],i2,L.length) ⟨by simp,h3⟩ ?_ ?_
 . refine hg ?_;refine StH.trans (StH.xeu 2 1 (es:=6) (c:=.sl 6 []) (T:=some 50) rfl rfl rfl (fun r hr=>by cases hr) rfl) ?_;refine hg ?_;exact StH.same svl rfl
 rintro ⟨l,k,f⟩ ⟨k1,hf⟩;dsimp only at k1 hf;clear h3
 cases f with
 | zero=>cases hf
 | succ f=>
  rw [vjs] at hf;have ce:=vyj (Γ:=Γ) L k ⟨#[125]⟩ hl;unfold etA at ce
  cases he:etS L k ⟨#[125]⟩ with
  | true=>
   rw [he,cond_true] at hf ce;simp only [Option.some.injEq,Prod.mk.injEq] at hf;obtain ⟨rfl,rfl⟩:=hf;clear he;refine hg ?_
   repeat' ((first | refine hfk ?_ ?_<;>intros | refine hik ?_)<;>refine hgS ?_)
   refine xwj [0] ce rfl (by decide) rfl rfl rfl ?_;refine hg ?_
   repeat' ((first | refine hfk ?_ ?_<;>intros | refine hik ?_)<;>refine hgS ?_)
   exact xhq (bs:=[3]) 1 (x1s rfl (by rw [List.length_map])) rfl (by kernel_rfl) rfl rfl
  | false=>
   rw [he,cond_false] at hf ce;obtain ⟨⟨s,k'⟩,hs,hf⟩:=Option.bind_eq_some_iff.1 hf;dsimp only at hf;have cs:=x9u (Γ:=Γ) hl hs;clear he hs;refine hg ?_
   repeat' ((first | refine hfk ?_ ?_<;>intros | refine hik ?_)<;>refine hgS ?_)
   refine xwj [0] ce rfl (by decide) rfl rfl rfl ?_;refine hg ?_
   repeat' ((first | refine hfk ?_ ?_<;>intros | refine hik ?_)<;>refine hgS ?_)
   refine ykh [0] [(0,rdS L k')] cs rfl (by decide) rfl rfl rfl rfl ?_;refine hg ?_
   repeat' ((first | refine hfk ?_ ?_<;>intros | refine hik ?_)<;>refine hgS ?_)
   refine ⟨(l++[s],k',f),⟨by simp only [List.length_append,List.length_singleton];omega,hf⟩,by dsimp only;omega,?_⟩;refine StH.back [0,2,3] 3 4 4 rfl rfl rfl rfl rfl (by kernel_rfl) ?_;simp only [List.map_append,List.map_cons,List.map_nil]
   conv=>simp (maxSteps:=2000000) (disch:=omega) only [go_sem,Nat.reduceAdd,Nat.reduceSub,Nat.reduceMul,Int.reduceToNat,Nat.reduceEqDiff,Nat.reduceBEq,Nat.reduceBneDiff,Nat.reduceLT,Int.reduceEq,Int.reduceLT,Int.reduceLE,Int.reduceNeg,Int.reduceAdd,Int.reduceSub,Int.reduceMul,List.length_append,List.length_singleton]
   exact StH.same svl rfl
end Go.Hp.T
