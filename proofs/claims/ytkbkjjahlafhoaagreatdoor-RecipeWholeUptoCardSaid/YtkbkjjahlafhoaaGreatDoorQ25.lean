/- The proof, part Q25: Pt, Pu, Pv, Pw, Iq, Pq. -/
import Derived.Test.YtkbkjjahlafhoaaGreatDoorQ17
import Derived.Test.YtkbkjjahlafhoaaGreatDoorQ24
import Derived.Test.YtkbkjjahlafhoaaGreatDoorQ21
import Derived.Test.YtkbkjjahlafhoaaGreatDoorQ12
import Derived.Test.YtkbkjjahlafhoaaGreatDoorQ15
import Derived.Defers
import Derived.Recover
import Derived.Tactics
import Derived.Tactics2
import Derived.Laws.Pointers
namespace Go.Hp.T
open Go Go.RowKit Go.Slot Go.Hp Go.Slot.T
open Go.Proofs.Tryz
variable {L:List Tk} {i:Nat}
attribute [local irreducible] hide RH
set_option maxRecDepth 10000
set_option maxHeartbeats 8000000
variable {Γ:List (Nat×List Cell)}
abbrev x7r:List Cell:=[cS ⟨#[109,101,116,101,114]⟩,cI 0,cI 0,cI 1,cI 1,cB true,cB false,cB false,
 cS ⟨#[116,97,107,101]⟩,cI 0,cI 0,cI 1,cI 1,cB true,cB false,cB false,
 cS ⟨#[100,114,97,119]⟩,cI 0,cI 0,cI 1,cI 1,cB true,cB false,cB true,
 cS ⟨#[115,112,108,105,116]⟩,cI 1,cI 1,cI 1,cI 100,cB false,cB true,cB false,
 cS ⟨#[106,111,105,110]⟩,cI 1,cI 100,cI 1,cI 1,cB false,cB false,cB false,
 cS ⟨#[103,105,118,101]⟩,cI 1,cI 1,cI 0,cI 0,cB true,cB false,cB false,
 cS ⟨#[112,117,116]⟩,cI 1,cI 1,cI 0,cI 0,cB true,cB false,cB true,
 cS ⟨#[108,111,115,101]⟩,cI 1,cI 1,cI 0,cI 0,cB true,cB false,cB false,
 cS ⟨#[114,101,115,116]⟩,cI 1,cI 1,cI 0,cI 0,cB false,cB false,cB false]
theorem v85:CallsD Γ prog 107 [] (.agg x7r):=by
 refine hE [] func107 f107.eq_1 ?_;exact RLe.ofEq rfl
theorem x6c:CallsD Γ prog 193 [] (.one (zjy vu1)):=by
 refine hE [] func193 f193.eq_1 ?_;exact RLe.ofEq rfl
def wrd (i:Nat):List (List Cell):=(zmr.take i).map fun s=>[cS s]
theorem wrd0:wrd 0=[]:=rfl
theorem wrd1:wrd 1=[[cS ⟨#[109,101,116,101,114]⟩]]:=rfl
theorem wrd2:wrd 2=[[cS ⟨#[109,101,116,101,114]⟩],[cS ⟨#[116,97,107,101]⟩]]:=rfl
theorem wrd3:wrd 3=[[cS ⟨#[109,101,116,101,114]⟩],[cS ⟨#[116,97,107,101]⟩],[cS ⟨#[100,114,97,119]⟩]]:=rfl
theorem wrd4:wrd 4=[[cS ⟨#[109,101,116,101,114]⟩],[cS ⟨#[116,97,107,101]⟩],[cS ⟨#[100,114,97,119]⟩],[cS ⟨#[115,112,108,105,116]⟩]]:=rfl
theorem wrd5:wrd 5=[[cS ⟨#[109,101,116,101,114]⟩],[cS ⟨#[116,97,107,101]⟩],[cS ⟨#[100,114,97,119]⟩],[cS ⟨#[115,112,108,105,116]⟩],[cS ⟨#[106,111,105,110]⟩]]:=rfl
theorem wrd6:wrd 6=[[cS ⟨#[109,101,116,101,114]⟩],[cS ⟨#[116,97,107,101]⟩],[cS ⟨#[100,114,97,119]⟩],[cS ⟨#[115,112,108,105,116]⟩],[cS ⟨#[106,111,105,110]⟩],[cS ⟨#[103,105,118,101]⟩]]:=rfl
theorem wrd7:wrd 7=[[cS ⟨#[109,101,116,101,114]⟩],[cS ⟨#[116,97,107,101]⟩],[cS ⟨#[100,114,97,119]⟩],[cS ⟨#[115,112,108,105,116]⟩],[cS ⟨#[106,111,105,110]⟩],[cS ⟨#[103,105,118,101]⟩],[cS ⟨#[112,117,116]⟩]]:=rfl
theorem wrd8:wrd 8=[[cS ⟨#[109,101,116,101,114]⟩],[cS ⟨#[116,97,107,101]⟩],[cS ⟨#[100,114,97,119]⟩],[cS ⟨#[115,112,108,105,116]⟩],[cS ⟨#[106,111,105,110]⟩],[cS ⟨#[103,105,118,101]⟩],[cS ⟨#[112,117,116]⟩],[cS ⟨#[108,111,115,101]⟩]]:=rfl
theorem wrd9:wrd 9=[[cS ⟨#[109,101,116,101,114]⟩],[cS ⟨#[116,97,107,101]⟩],[cS ⟨#[100,114,97,119]⟩],[cS ⟨#[115,112,108,105,116]⟩],[cS ⟨#[106,111,105,110]⟩],[cS ⟨#[103,105,118,101]⟩],[cS ⟨#[112,117,116]⟩],[cS ⟨#[108,111,115,101]⟩],[cS ⟨#[114,101,115,116]⟩]]:=rfl
theorem yls {l:List ByteArray} {r:Nat×Nat} (h:yvd L i l=some r):r.1<l.length:=by
 unfold yvd at h;obtain ⟨k,hf,rfl⟩:=Option.map_eq_some_iff.1 h;rw [List.find?_range_eq_some] at hf;exact List.mem_range.1 hf.2.1
theorem stLe (a b c d e f:Cell) {b' c' e':Cell} (hb:Cell.Le b b') (hc:Cell.Le c c') (he:Cell.Le e e'):SVle (.agg [.dat a,.dat b,.dat c,.dat d,.dat e,.dat f]) (.agg [.dat a,.dat b',.dat c',.dat d,.dat e',.dat f]):=
 .agg (.cons (.refl _) (.cons (.dat hb) (.cons (.dat hc) (.cons (.refl _) (.cons (.dat he) (.cons (.refl _) .nil))))))
theorem vd1 {x:Stp} {j:Nat} (hl:L.length<=1048576) (h:y14 L i=some (x,j)):xbh Γ prog 211 [rdS L i] [.one (.ptr 0 0)] [rdS L j] (.agg (x.C.map .dat)):=by
 unfold y14 at h;obtain ⟨⟨k,i1⟩,hw,h⟩:=Option.bind_eq_some_iff.1 h;have hk:k<9:=yls hw
 have cw:∀ kk:Int,kk=k->xbh Γ prog 185 [rdS L i] [.one (.ptr 0 0),.one (.dat (.sl 1 (wrd 9)))] [rdS L i1] (.one (.dat (cI kk))):=fun kk hkk=>by rw [hkk];exact vt7 hl (by decide) hw
 clear hw;dsimp only at h;refine hEh [] func211 f211.eq_1 ?_
 (with_reducible refine wdy v85 ?_)<;>refine hgS ?_
 refine wf5 [0,2,3,10] (fun n:Nat=>[(4,.one (.sl 3 1 0 n)),(11,.one (.dat (cI n)))]) (fun n=>[rdS L i,.box [.dat (cI 0),.dat .zc,.dat .zc,.dat (cS ⟨#[]⟩),.dat .zc,.dat (cI 0)] (some 70),.box (x7r.map .dat) (some 188),.arr (.sl 1 (wrd n)) 0 (some 9)])
  (fun n=>n<=9) (fun n=>9-n) 0 (by decide) ?_ ?_
 . refine hg ?_;refine StH.trans (StH.empty (d:=4) (es:=1) (c:=.sl 1 []) (T:=some 9) rfl rfl (fun r hr=>by cases hr) rfl) ?_;refine hg ?_;exact sS
 intro n hn
 obtain rfl | rfl | rfl | rfl | rfl | rfl | rfl | rfl | rfl | rfl:n=0\/n=1\/n=2\/n=3\/n=4\/n=5\/n=6\/n=7\/n=8\/n=9:=by omega
 . clear h;refine hg1 @wrd0 ?_;refine y8g (fun hlt _=>?_) (fun hlt _=>by exfalso;omega);refine hg ?_;refine ⟨1,by decide,by decide,?_⟩;refine StH.back [0,2,3,4,10,11] 3 5 4 rfl rfl rfl rfl rfl (by kernel_rfl) ?_;refine hg ?_;exact sS
 . clear h;refine hg1 @wrd1 ?_;refine y8g (fun hlt _=>?_) (fun hlt _=>by exfalso;omega);refine hg ?_;refine ⟨2,by decide,by decide,?_⟩;refine StH.back [0,2,3,4,10,11] 3 5 4 rfl rfl rfl rfl rfl (by kernel_rfl) ?_;refine hg ?_;exact sS
 . clear h;refine hg1 @wrd2 ?_;refine y8g (fun hlt _=>?_) (fun hlt _=>by exfalso;omega);refine hg ?_;refine ⟨3,by decide,by decide,?_⟩;refine StH.back [0,2,3,4,10,11] 3 5 4 rfl rfl rfl rfl rfl (by kernel_rfl) ?_;refine hg ?_;exact sS
 . clear h;refine hg1 @wrd3 ?_;refine y8g (fun hlt _=>?_) (fun hlt _=>by exfalso;omega);refine hg ?_;refine ⟨4,by decide,by decide,?_⟩;refine StH.back [0,2,3,4,10,11] 3 5 4 rfl rfl rfl rfl rfl (by kernel_rfl) ?_;refine hg ?_;exact sS
 . clear h;refine hg1 @wrd4 ?_;refine y8g (fun hlt _=>?_) (fun hlt _=>by exfalso;omega);refine hg ?_;refine ⟨5,by decide,by decide,?_⟩;refine StH.back [0,2,3,4,10,11] 3 5 4 rfl rfl rfl rfl rfl (by kernel_rfl) ?_;refine hg ?_;exact sS
 . clear h;refine hg1 @wrd5 ?_;refine y8g (fun hlt _=>?_) (fun hlt _=>by exfalso;omega);refine hg ?_;refine ⟨6,by decide,by decide,?_⟩;refine StH.back [0,2,3,4,10,11] 3 5 4 rfl rfl rfl rfl rfl (by kernel_rfl) ?_;refine hg ?_;exact sS
 . clear h;refine hg1 @wrd6 ?_;refine y8g (fun hlt _=>?_) (fun hlt _=>by exfalso;omega);refine hg ?_;refine ⟨7,by decide,by decide,?_⟩;refine StH.back [0,2,3,4,10,11] 3 5 4 rfl rfl rfl rfl rfl (by kernel_rfl) ?_;refine hg ?_;exact sS
 . clear h;refine hg1 @wrd7 ?_;refine y8g (fun hlt _=>?_) (fun hlt _=>by exfalso;omega);refine hg ?_;refine ⟨8,by decide,by decide,?_⟩;refine StH.back [0,2,3,4,10,11] 3 5 4 rfl rfl rfl rfl rfl (by kernel_rfl) ?_;refine hg ?_;exact sS
 . clear h;refine hg1 @wrd8 ?_;refine y8g (fun hlt _=>?_) (fun hlt _=>by exfalso;omega);refine hg ?_;refine ⟨9,by decide,by decide,?_⟩;refine StH.back [0,2,3,4,10,11] 3 5 4 rfl rfl rfl rfl rfl (by kernel_rfl) ?_;refine hg ?_;exact sS
 refine hg1 @wrd9 ?_;refine y8g (fun hlt _=>by exfalso;omega) (fun hlt _=>?_);refine hg ?_
 obtain rfl | rfl | rfl | rfl | rfl | rfl | rfl | rfl | rfl:k=0\/k=1\/k=2\/k=3\/k=4\/k=5\/k=6\/k=7\/k=8:=by omega
 . try dsimp only at h
   obtain ⟨⟨o,i2⟩,h1,h⟩:=Option.bind_eq_some_iff.1 h
   try dsimp only at h1 h
   obtain ⟨i3,h2,h⟩:=Option.bind_eq_some_iff.1 h
   try dsimp only at h2 h
   obtain ⟨⟨m,i4⟩,h3,h⟩:=Option.bind_eq_some_iff.1 h
   try dsimp only at h3 h
   obtain ⟨i6,h5,h⟩:=Option.map_eq_some_iff.1 h
   try dsimp only at h5 h
   have c1:=xk5 (Γ:=Γ) hl h1;have c2:=xpq (Γ:=Γ) hl h2;have c3:=xk5 (Γ:=Γ) hl h3;have c5:=xpq (Γ:=Γ) hl h5
   try simp only [Prod.mk.injEq] at h
   obtain ⟨rfl,rfl⟩:=h
   try clear h1
   try clear h2
   try clear h3
   try clear h4
   try clear h5
   refine zg1 [0] (cw 0 rfl) rfl rfl rfl (by decide) rfl rfl rfl ?_;clear cw;refine hg4 @dzB.eq_def @dzS.eq_def @decide_true @decide_false ?_;refine yru [0] c1 rfl (by decide) rfl rfl rfl ?_;refine hg2 @decide_true @decide_false ?_;refine yru [0] c2 rfl (by decide) rfl rfl rfl ?_;refine hg2 @decide_true @decide_false ?_;refine yru [0] c3 rfl (by decide) rfl rfl rfl ?_;refine hg2 @decide_true @decide_false ?_;refine yru [0] c5 rfl (by decide) rfl rfl rfl ?_;refine hg2 @decide_true @decide_false ?_;exact StH.trans (StH.done 1 rfl (by kernel_rfl) rfl rfl) (StH.same (.cons (stLe _ _ _ _ _ _ (.zcSl _) (.refl _) (.zcSl _)) .nil) rfl)
 . try dsimp only at h
   obtain ⟨⟨o,i2⟩,h1,h⟩:=Option.bind_eq_some_iff.1 h
   try dsimp only at h1 h
   obtain ⟨i3,h2,h⟩:=Option.bind_eq_some_iff.1 h
   try dsimp only at h2 h
   obtain ⟨⟨m,i4⟩,h3,h⟩:=Option.bind_eq_some_iff.1 h
   try dsimp only at h3 h
   obtain ⟨i6,h5,h⟩:=Option.map_eq_some_iff.1 h
   try dsimp only at h5 h
   have c1:=xk5 (Γ:=Γ) hl h1;have c2:=xpq (Γ:=Γ) hl h2;have c3:=xk5 (Γ:=Γ) hl h3;have c5:=xpq (Γ:=Γ) hl h5
   try simp only [Prod.mk.injEq] at h
   obtain ⟨rfl,rfl⟩:=h
   try clear h1
   try clear h2
   try clear h3
   try clear h4
   try clear h5
   refine zg1 [0] (cw 1 rfl) rfl rfl rfl (by decide) rfl rfl rfl ?_;clear cw;refine hg4 @dzB.eq_def @dzS.eq_def @decide_true @decide_false ?_;refine yru [0] c1 rfl (by decide) rfl rfl rfl ?_;refine hg2 @decide_true @decide_false ?_;refine yru [0] c2 rfl (by decide) rfl rfl rfl ?_;refine hg2 @decide_true @decide_false ?_;refine yru [0] c3 rfl (by decide) rfl rfl rfl ?_;refine hg2 @decide_true @decide_false ?_;refine yru [0] c5 rfl (by decide) rfl rfl rfl ?_;refine hg2 @decide_true @decide_false ?_;exact StH.trans (StH.done 1 rfl (by kernel_rfl) rfl rfl) (StH.same (.cons (stLe _ _ _ _ _ _ (.zcSl _) (.refl _) (.zcSl _)) .nil) rfl)
 . try dsimp only at h
   obtain ⟨⟨o,i2⟩,h1,h⟩:=Option.bind_eq_some_iff.1 h
   try dsimp only at h1 h
   obtain ⟨i3,h2,h⟩:=Option.bind_eq_some_iff.1 h
   try dsimp only at h2 h
   obtain ⟨⟨m,i4⟩,h3,h⟩:=Option.bind_eq_some_iff.1 h
   try dsimp only at h3 h
   obtain ⟨⟨a,i5⟩,h4,h⟩:=Option.bind_eq_some_iff.1 h
   try dsimp only at h4 h
   obtain ⟨i6,h5,h⟩:=Option.map_eq_some_iff.1 h
   try dsimp only at h5 h
   have c4:=y4w (Γ:=Γ) hl h4;have c1:=xk5 (Γ:=Γ) hl h1;have c2:=xpq (Γ:=Γ) hl h2;have c3:=xk5 (Γ:=Γ) hl h3;have c5:=xpq (Γ:=Γ) hl h5
   try simp only [Prod.mk.injEq] at h
   obtain ⟨rfl,rfl⟩:=h
   try clear h1
   try clear h2
   try clear h3
   try clear h4
   try clear h5
   refine zg1 [0] (cw 2 rfl) rfl rfl rfl (by decide) rfl rfl rfl ?_;clear cw;refine hg4 @dzB.eq_def @dzS.eq_def @decide_true @decide_false ?_;refine yru [0] c1 rfl (by decide) rfl rfl rfl ?_;refine hg2 @decide_true @decide_false ?_;refine yru [0] c2 rfl (by decide) rfl rfl rfl ?_;refine hg2 @decide_true @decide_false ?_;refine yru [0] c3 rfl (by decide) rfl rfl rfl ?_;refine hg2 @decide_true @decide_false ?_;refine yru [0] c4 rfl (by decide) rfl rfl rfl ?_;refine hg2 @decide_true @decide_false ?_;refine yru [0] c5 rfl (by decide) rfl rfl rfl ?_;refine hg2 @decide_true @decide_false ?_;exact StH.trans (StH.done 1 rfl (by kernel_rfl) rfl rfl) (StH.same (.cons (stLe _ _ _ _ _ _ (.zcSl _) (.refl _) (.zcSl _)) .nil) rfl)
 . try dsimp only at h
   obtain ⟨⟨m,i2⟩,h1,h⟩:=Option.bind_eq_some_iff.1 h
   try dsimp only at h1 h
   obtain ⟨i3,h2,h⟩:=Option.bind_eq_some_iff.1 h
   try dsimp only at h2 h
   obtain ⟨⟨⟨l1,l2⟩,i4⟩,h3,h⟩:=Option.bind_eq_some_iff.1 h
   try dsimp only at h3 h
   obtain ⟨i6,h5,h⟩:=Option.map_eq_some_iff.1 h
   try dsimp only at h5 h
   have c1:=xk5 (Γ:=Γ) hl h1;have c2:=xpq (Γ:=Γ) hl h2;have c3:=x4c (Γ:=Γ) hl h3;have c5:=xpq (Γ:=Γ) hl h5
   try simp only [Prod.mk.injEq] at h
   obtain ⟨rfl,rfl⟩:=h
   try clear h1
   try clear h2
   try clear h3
   try clear h5
   refine zg1 [0] (cw 3 rfl) rfl rfl rfl (by decide) rfl rfl rfl ?_;clear cw;refine hg4 @dzB.eq_def @dzS.eq_def @decide_true @decide_false ?_;refine yru [0] c1 rfl (by decide) rfl rfl rfl ?_;refine hg2 @decide_true @decide_false ?_;refine yru [0] c2 rfl (by decide) rfl rfl rfl ?_;refine hg2 @decide_true @decide_false ?_;refine yru [0] c3 rfl (by decide) rfl rfl rfl ?_;refine hg2 @decide_true @decide_false ?_;refine yru [0] c5 rfl (by decide) rfl rfl rfl ?_;refine hg2 @decide_true @decide_false ?_;exact StH.trans (StH.done 1 rfl (by kernel_rfl) rfl rfl) (StH.same (.cons (stLe _ _ _ _ _ _ (.refl _) (.refl _) (.refl _)) .nil) rfl)
 . try dsimp only at h
   obtain ⟨⟨⟨l1,l2⟩,i2⟩,h1,h⟩:=Option.bind_eq_some_iff.1 h
   try dsimp only at h1 h
   obtain ⟨i3,h2,h⟩:=Option.bind_eq_some_iff.1 h
   try dsimp only at h2 h
   obtain ⟨⟨o,i4⟩,h3,h⟩:=Option.bind_eq_some_iff.1 h
   try dsimp only at h3 h
   obtain ⟨i6,h5,h⟩:=Option.map_eq_some_iff.1 h
   try dsimp only at h5 h
   have c1:=xjf (Γ:=Γ) hl h1;have c2:=xpq (Γ:=Γ) hl h2;have c3:=xk5 (Γ:=Γ) hl h3;have c5:=xpq (Γ:=Γ) hl h5
   try simp only [Prod.mk.injEq] at h
   obtain ⟨rfl,rfl⟩:=h
   try clear h1
   try clear h2
   try clear h3
   try clear h5
   refine zg1 [0] (cw 4 rfl) rfl rfl rfl (by decide) rfl rfl rfl ?_;clear cw;refine hg4 @dzB.eq_def @dzS.eq_def @decide_true @decide_false ?_;refine yru [0] c1 rfl (by decide) rfl rfl rfl ?_;refine hg2 @decide_true @decide_false ?_;refine yru [0] c2 rfl (by decide) rfl rfl rfl ?_;refine hg2 @decide_true @decide_false ?_;refine yru [0] c3 rfl (by decide) rfl rfl rfl ?_;refine hg2 @decide_true @decide_false ?_;refine yru [0] c5 rfl (by decide) rfl rfl rfl ?_;refine hg2 @decide_true @decide_false ?_;exact StH.trans (StH.done 1 rfl (by kernel_rfl) rfl rfl) (StH.same (.cons (stLe _ _ _ _ _ _ (.refl _) (.refl _) (.zcSl _)) .nil) rfl)
 . try dsimp only at h
   obtain ⟨⟨m,i2⟩,h1,h⟩:=Option.bind_eq_some_iff.1 h
   try dsimp only at h1 h
   obtain ⟨i3,h2,h⟩:=Option.bind_eq_some_iff.1 h
   try dsimp only at h2 h
   obtain ⟨⟨o,i4⟩,h3,h⟩:=Option.bind_eq_some_iff.1 h
   try dsimp only at h3 h
   obtain ⟨i6,h5,h⟩:=Option.map_eq_some_iff.1 h
   try dsimp only at h5 h
   have c1:=xk5 (Γ:=Γ) hl h1;have c2:=xpq (Γ:=Γ) (t:=wTo) hl h2;have c3:=xk5 (Γ:=Γ) hl h3;have c5:=xpq (Γ:=Γ) hl h5
   try simp only [Prod.mk.injEq] at h
   obtain ⟨rfl,rfl⟩:=h
   try clear h1
   try clear h2
   try clear h3
   try clear h4
   try clear h5
   refine zg1 [0] (cw 5 rfl) rfl rfl rfl (by decide) rfl rfl rfl ?_;clear cw;refine hg4 @dzB.eq_def @dzS.eq_def @decide_true @decide_false ?_;refine yru [0] c1 rfl (by decide) rfl rfl rfl ?_;refine hg2 @decide_true @decide_false ?_;refine yru [0] c2 rfl (by decide) rfl rfl rfl ?_;refine hg2 @decide_true @decide_false ?_;refine yru [0] c3 rfl (by decide) rfl rfl rfl ?_;refine hg2 @decide_true @decide_false ?_;refine yru [0] c5 rfl (by decide) rfl rfl rfl ?_;refine hg2 @decide_true @decide_false ?_;exact StH.trans (StH.done 1 rfl (by kernel_rfl) rfl rfl) (StH.same (.cons (stLe _ _ _ _ _ _ (.refl _) (.zcSl _) (.zcSl _)) .nil) rfl)
 . try dsimp only at h
   obtain ⟨⟨m,i2⟩,h1,h⟩:=Option.bind_eq_some_iff.1 h
   try dsimp only at h1 h
   obtain ⟨i3,h2,h⟩:=Option.bind_eq_some_iff.1 h
   try dsimp only at h2 h
   obtain ⟨⟨o,i4⟩,h3,h⟩:=Option.bind_eq_some_iff.1 h
   try dsimp only at h3 h
   obtain ⟨⟨a,i5⟩,h4,h⟩:=Option.bind_eq_some_iff.1 h
   try dsimp only at h4 h
   obtain ⟨i6,h5,h⟩:=Option.map_eq_some_iff.1 h
   try dsimp only at h5 h
   have c4:=y4w (Γ:=Γ) hl h4;have c1:=xk5 (Γ:=Γ) hl h1;have c2:=xpq (Γ:=Γ) (t:=wTo) hl h2;have c3:=xk5 (Γ:=Γ) hl h3;have c5:=xpq (Γ:=Γ) hl h5
   try simp only [Prod.mk.injEq] at h
   obtain ⟨rfl,rfl⟩:=h
   try clear h1
   try clear h2
   try clear h3
   try clear h4
   try clear h5
   refine zg1 [0] (cw 6 rfl) rfl rfl rfl (by decide) rfl rfl rfl ?_;clear cw;refine hg4 @dzB.eq_def @dzS.eq_def @decide_true @decide_false ?_;refine yru [0] c1 rfl (by decide) rfl rfl rfl ?_;refine hg2 @decide_true @decide_false ?_;refine yru [0] c2 rfl (by decide) rfl rfl rfl ?_;refine hg2 @decide_true @decide_false ?_;refine yru [0] c3 rfl (by decide) rfl rfl rfl ?_;refine hg2 @decide_true @decide_false ?_;refine yru [0] c4 rfl (by decide) rfl rfl rfl ?_;refine hg2 @decide_true @decide_false ?_;refine yru [0] c5 rfl (by decide) rfl rfl rfl ?_;refine hg2 @decide_true @decide_false ?_;exact StH.trans (StH.done 1 rfl (by kernel_rfl) rfl rfl) (StH.same (.cons (stLe _ _ _ _ _ _ (.refl _) (.zcSl _) (.zcSl _)) .nil) rfl)
 . try dsimp only at h
   obtain ⟨⟨m,i2⟩,h1,h⟩:=Option.bind_eq_some_iff.1 h
   try dsimp only at h1 h
   obtain ⟨i3,h2,h⟩:=Option.bind_eq_some_iff.1 h
   try dsimp only at h2 h
   obtain ⟨⟨o,i4⟩,h3,h⟩:=Option.bind_eq_some_iff.1 h
   try dsimp only at h3 h
   obtain ⟨i6,h5,h⟩:=Option.map_eq_some_iff.1 h
   try dsimp only at h5 h
   have c1:=xk5 (Γ:=Γ) hl h1;have c2:=xpq (Γ:=Γ) (t:=wAs) hl h2;have c3:=xk5 (Γ:=Γ) hl h3;have c5:=xpq (Γ:=Γ) hl h5
   try simp only [Prod.mk.injEq] at h
   obtain ⟨rfl,rfl⟩:=h
   try clear h1
   try clear h2
   try clear h3
   try clear h4
   try clear h5
   refine zg1 [0] (cw 7 rfl) rfl rfl rfl (by decide) rfl rfl rfl ?_;clear cw;refine hg4 @dzB.eq_def @dzS.eq_def @decide_true @decide_false ?_;refine yru [0] c1 rfl (by decide) rfl rfl rfl ?_;refine hg2 @decide_true @decide_false ?_;refine yru [0] c2 rfl (by decide) rfl rfl rfl ?_;refine hg2 @decide_true @decide_false ?_;refine yru [0] c3 rfl (by decide) rfl rfl rfl ?_;refine hg2 @decide_true @decide_false ?_;refine yru [0] c5 rfl (by decide) rfl rfl rfl ?_;refine hg2 @decide_true @decide_false ?_;exact StH.trans (StH.done 1 rfl (by kernel_rfl) rfl rfl) (StH.same (.cons (stLe _ _ _ _ _ _ (.refl _) (.zcSl _) (.zcSl _)) .nil) rfl)
 . try dsimp only at h
   obtain ⟨⟨m,i2⟩,h1,h⟩:=Option.bind_eq_some_iff.1 h
   try dsimp only at h1 h
   obtain ⟨i6,h5,h⟩:=Option.map_eq_some_iff.1 h
   try dsimp only at h5 h
   have c1:=xk5 (Γ:=Γ) hl h1;have c5:=xpq (Γ:=Γ) hl h5
   try simp only [Prod.mk.injEq] at h
   obtain ⟨rfl,rfl⟩:=h
   try clear h1
   try clear h5
   refine zg1 [0] (cw 8 rfl) rfl rfl rfl (by decide) rfl rfl rfl ?_;clear cw;refine hg4 @dzB.eq_def @dzS.eq_def @decide_true @decide_false ?_;refine yru [0] c1 rfl (by decide) rfl rfl rfl ?_;refine hg2 @decide_true @decide_false ?_;refine yru [0] c5 rfl (by decide) rfl rfl rfl ?_;refine hg2 @decide_true @decide_false ?_;exact StH.trans (StH.done 1 rfl (by kernel_rfl) rfl rfl) (StH.same (.cons (stLe _ _ _ _ _ _ (.refl _) (.zcSl _) (.zcSl _)) .nil) rfl)
end Go.Hp.T
namespace Go.Hp
open Go Go.RowKit Go.Slot
variable {P:Program} {Γ:List (Nat×List Cell)}
theorem HRL.setF {η:List SB} {ρ:Nat->Value} {M:Nat->Nat->Prop} {w:World} {h h':HC} (H:∀ v,HRd η ρ M w v h->HRd η ρ M w v h'):∀{vs:List Value} {hs:List HC} (f:Nat),HRL η ρ M w vs hs->hs[f]? = some h->HRL η ρ M w vs (hs.set f h')
 | [],[],_,_,hf=>by simp at hf
 | v::vs,x::hs,0,hr,hf=>by
  simp at hf;subst hf;exact ⟨H v hr.1,hr.2⟩
 | v::vs,x::hs,f+1,hr,hf=>⟨hr.1,HRL.setF H f hr.2 (by simpa using hf)⟩
theorem StH.vhe {e:List SB} {J:List SV} {η:List SB} (b f:Nat) {hs:List HC} {T':Option TypeId} {c0 c:Cell} {es:Nat} {T:Option TypeId} (hb:η[b]? = some (.box hs T')) (hf:hs[f]? = some (.dat c0)) (hz:isZc c0=true) (hu:c.uni) (hc:c.cnt=0) :
 StH Γ e J η J ((η++[SB.arr c 0 T]).set b (.box (hs.set f (.sl η.length es 0 0)) T')):=fun E ρ a w _ hR=>by
 have h1:=hR.go (Went.extend hR.inv 1)
 have hfr:(η++[SB.fresh])[η.length]? = some .fresh:=by simp
 have hw:=Went.new h1.inv (xr1 w) hfr (v:=.pointer none) (x:=.arr c 0 T) (by simp) (fun _ hr=>absurd rfl hr) (fun m=>⟨⟨hu,Nat.zero_le _⟩,.inl ⟨hc,rfl⟩⟩);have h2:=h1.go hw;rw [show (η++List.replicate 1 SB.fresh).set η.length (.arr c 0 T)=η++[.arr c 0 T] by simp] at h2;have hlt:b<η.length:=(List.getElem?_eq_some_iff.1 hb).1
 have hb2:(η++[SB.arr c 0 T])[b]? = some (.box hs T'):=by rw [List.getElem?_append_left hlt];exact hb
 have hblk:=h2.inv.blk b _ hb2;refine ⟨upd ρ η.length (.pointer none),h2.go (Went.less h2.inv hb2 (by simp) (fun _=>rfl) (fun o h=>h) (fun m=>?_))⟩;obtain ⟨bb,vs,T0,e,hh,hr,ht⟩:=hblk.mv m (fun _ _=>rfl);refine ⟨bb,vs,T0,e,hh,HRL.setF (fun v hv=>?_) f hr hf,ht⟩;obtain ⟨ad,hv'⟩:=zr9 (τ:=fun _=>⟨Go.undef,0⟩) hz (RdT.of (show RdC _ w v c0 from hv));exact ⟨ysd (by simp) ⟨.arr c 0 T,by simp,by simp⟩,ad,0,hv',Nat.le_refl _,fun h=>absurd rfl h⟩
end Go.Hp
namespace Go.Hp.T
open Go Go.RowKit Go.Slot Go.Hp Go.Slot.T
open Go.Proofs.Tryz
variable {L:List Tk} {i j i1:Nat} {x:Rcp}
attribute [local irreducible] hide RH
set_option maxRecDepth 10000
set_option maxHeartbeats 8000000
variable {Γ:List (Nat×List Cell)}
theorem wgq {η:List SB} {b n:Nat} {c:Cell} {l:List (List Cell)} {k q:Nat} {T:Option TypeId} (hb:gB η b=.arr (.sl k l) q T) (hn:n=l.length):y7w η [.agg [.dat c,.sl b k 0 n]]=some ([.agg [c,.sl k l]],[b]):=by
 subst hn;simp [y7w,argD,xs7,xf6,hb,Cell.esz,Cell.cnt,subC]
theorem zba (hl:L.length<=1048576) (h:ylu L i=some (x,j)):xbh Γ prog 194 [rdS L i] [.one (.ptr 0 0)] [rdS L j] (.agg (x.C.map .dat)):=by
 unfold ylu at h;obtain ⟨⟨n,i1⟩,h1,h⟩:=Option.bind_eq_some_iff.1 h;dsimp only at h1 h;obtain ⟨i2,h2,h⟩:=Option.bind_eq_some_iff.1 h;obtain ⟨⟨ss,i3⟩,h3,h⟩:=Option.map_eq_some_iff.1 h;simp only [Prod.mk.injEq] at h;obtain ⟨rfl,rfl⟩:=h;have c1:=xk5 (Γ:=Γ) hl h1;have c2:=xpq (Γ:=Γ) hl h2;clear h1 h2;refine hEh [] func194 f194.eq_1 ?_;refine hca [0] c1 ?_;refine hca [0] c2 ?_;refine wf5 [0,2,3] (fun _:List Stp×Nat×Nat=>[]) (fun x=>[rdS L x.2.1,.box [.dat (cS ⟨#[]⟩),.dat .zc] (some 67),.box [.dat (cS n),.sl 3 6 0 x.1.length] (some 67),.arr (.sl 6 (x.1.map Stp.C)) 0 (some 70)])
  (fun x=>x.1.length+x.2.2<=L.length/\voo L x.2.2 x.1 x.2.1=some (ss,i3)) (fun x=>x.2.2) ([],i2,L.length) ⟨by simp,h3⟩ ?_ ?_
 . refine hg ?_;refine StH.trans (StH.vhe 2 1 (es:=6) (c:=.sl 6 []) (T:=some 70) rfl rfl rfl (fun r hr=>by cases hr) rfl) ?_;refine hg ?_;exact sS
 rintro ⟨l,k,f⟩ ⟨k1,hf⟩;dsimp only at k1 hf;clear h3
 cases f with
 | zero=>cases hf
 | succ f=>
  rw [voo] at hf;have ce:=xxk (Γ:=Γ) L k ⟨#[125]⟩ hl;unfold etA at ce
  cases he:etS L k ⟨#[125]⟩ with
  | true=>
   rw [he,cond_true] at hf ce;simp only [Option.some.injEq,Prod.mk.injEq] at hf;obtain ⟨rfl,rfl⟩:=hf;clear he;refine hg ?_;refine hca [0] ce ?_;exact vo3 (bs:=[3]) 1 (wgq rfl (by rw [List.length_map])) rfl (by kernel_rfl) rfl rfl
  | false=>
   rw [he,cond_false] at hf ce;obtain ⟨⟨s,k'⟩,hs,hf⟩:=Option.bind_eq_some_iff.1 hf;dsimp only at hf;have cs:=vd1 (Γ:=Γ) hl hs;clear he hs;refine hg ?_;refine hca [0] ce ?_;refine wlt [0] [(0,rdS L k')] cs rfl (by decide) rfl rfl rfl rfl ?_;refine hg ?_;refine hI ?_;refine ⟨(l++[s],k',f),⟨by simp only [List.length_append,List.length_singleton];omega,hf⟩,by dsimp only;omega,?_⟩;refine StH.back [0,2,3] 3 4 4 rfl rfl rfl rfl rfl (by kernel_rfl) ?_;simp only [List.map_append,List.map_cons,List.map_nil];refine hg2 @List.length_append.{0} @List.length_singleton.{0} ?_;exact sS
abbrev shB (nm:ByteArray) (b1 b2 b3 b4 b5 b6 b7 b8:Nat) (n1 n2 n3 n4 n5 n6 n7 n8:Nat):SB:=.box [.dat (cS nm),.sl b1 6 0 n1,.sl b2 3 0 n2,.sl b3 3 0 n3,.sl b4 7 0 n4,.sl b5 7 0 n5,.sl b6 3 0 n6,.sl b7 3 0 n7,.sl b8 2 0 n8] (some 31)
abbrev shA1 (l:List (List Cell)):SB:=.arr (.sl 6 l) 0 (some 172)
abbrev shA2 (l:List (List Cell)):SB:=.arr (.sl 3 l) 0 (some 64)
abbrev shA3 (l:List (List Cell)):SB:=.arr (.sl 3 l) 0 (some 122)
abbrev shA4 (l:List (List Cell)):SB:=.arr (.sl 7 l) 0 (some 129)
abbrev shA5 (l:List (List Cell)):SB:=.arr (.sl 7 l) 0 (some 131)
abbrev shA6 (l:List (List Cell)):SB:=.arr (.sl 3 l) 0 (some 175)
abbrev shA7 (l:List (List Cell)):SB:=.arr (.sl 3 l) 0 (some 177)
abbrev shA8 (l:List (List Cell)):SB:=.arr (.sl 2 l) 0 (some 67)
theorem vj8 {s:Sht} {x:Imp} (hl:L.length<=1048576) (_ht:∀ a,(L.getD a default).t.size<=1048576) (hs:s.imports.length<=1048576) (hw:yvd L i v69=some (0,i1)) (h:wk8 L i1=some (x,j)):xbh Γ prog 163 [rdS L i,shB s.name 2 3 4 5 6 7 8 9 s.imports.length s.inputs.length s.tables.length s.funcs.length s.cells.length s.ports.length s.stores.length s.recipes.length,shA1 (s.imports.map Imp.C),shA2 (s.inputs.map Inp.C),shA3 (s.tables.map Tb.C),shA4 (s.funcs.map Fnc.C),shA5 (s.cells.map Cel.C),shA6 (s.ports.map Por.C),shA7 (s.stores.map Sto.C),shA8 (s.recipes.map Rcp.C)] [.one (.ptr 0 0),.one (.ptr 1 0)] [rdS L j,shB s.name 10 3 4 5 6 7 8 9 (s.imports++[x]).length s.inputs.length s.tables.length s.funcs.length s.cells.length s.ports.length s.stores.length s.recipes.length,.dead,shA2 (s.inputs.map Inp.C),shA3 (s.tables.map Tb.C),shA4 (s.funcs.map Fnc.C),shA5 (s.cells.map Cel.C),shA6 (s.ports.map Por.C),shA7 (s.stores.map Sto.C),shA8 (s.recipes.map Rcp.C),shA1 ((s.imports++[x]).map Imp.C)] (.tup []):=by
 have cw:xbh Γ prog 185 [rdS L i] [.one (.ptr 0 0),.one (.dat (zjy v69))] [rdS L i1] (.one (.dat (cI 0))):=vt7 hl (by decide) hw;have c1:=yef (Γ:=Γ) hl h;clear h;clear hw;refine hEh [] func163 f163.eq_1 ?_;refine yru [0] cw rfl (by decide) rfl rfl rfl ?_;clear cw;refine hg2 @decide_true @decide_false ?_;refine wlt [0] [(0,rdS L j)] c1 rfl (by decide) rfl rfl rfl rfl ?_;refine hg ?_;refine hI ?_;exact StH.done 11 rfl (by kernel_rfl) rfl (by simp only [List.length_append,List.length_map,List.map_append,List.map_cons,List.map_nil];rfl)
theorem xef {s:Sht} {x:Inp} (hl:L.length<=1048576) (_ht:∀ a,(L.getD a default).t.size<=1048576) (hs:s.inputs.length<=1048576) (hw:yvd L i v69=some (1,i1)) (h:zal L i1=some (x,j)):xbh Γ prog 163 [rdS L i,shB s.name 2 3 4 5 6 7 8 9 s.imports.length s.inputs.length s.tables.length s.funcs.length s.cells.length s.ports.length s.stores.length s.recipes.length,shA1 (s.imports.map Imp.C),shA2 (s.inputs.map Inp.C),shA3 (s.tables.map Tb.C),shA4 (s.funcs.map Fnc.C),shA5 (s.cells.map Cel.C),shA6 (s.ports.map Por.C),shA7 (s.stores.map Sto.C),shA8 (s.recipes.map Rcp.C)] [.one (.ptr 0 0),.one (.ptr 1 0)] [rdS L j,shB s.name 2 10 4 5 6 7 8 9 s.imports.length (s.inputs++[x]).length s.tables.length s.funcs.length s.cells.length s.ports.length s.stores.length s.recipes.length,shA1 (s.imports.map Imp.C),.dead,shA3 (s.tables.map Tb.C),shA4 (s.funcs.map Fnc.C),shA5 (s.cells.map Cel.C),shA6 (s.ports.map Por.C),shA7 (s.stores.map Sto.C),shA8 (s.recipes.map Rcp.C),shA2 ((s.inputs++[x]).map Inp.C)] (.tup []):=by
 have cw:xbh Γ prog 185 [rdS L i] [.one (.ptr 0 0),.one (.dat (zjy v69))] [rdS L i1] (.one (.dat (cI 1))):=vt7 hl (by decide) hw;have c1:=wxe (Γ:=Γ) hl h;clear h;clear hw;refine hEh [] func163 f163.eq_1 ?_;refine yru [0] cw rfl (by decide) rfl rfl rfl ?_;clear cw;refine hg2 @decide_true @decide_false ?_;refine wlt [0] [(0,rdS L j)] c1 rfl (by decide) rfl rfl rfl rfl ?_;refine hg ?_;refine hI ?_;exact StH.done 11 rfl (by kernel_rfl) rfl (by simp only [List.length_append,List.length_map,List.map_append,List.map_cons,List.map_nil];rfl)
theorem y3w {s:Sht} (hl:L.length<=1048576) (_ht:∀ a,(L.getD a default).t.size<=1048576) (hs:s.recipes.length<=1048576) (hw:yvd L i v69=some (7,i1)) (h:ylu L i1=some (x,j)):xbh Γ prog 163 [rdS L i,shB s.name 2 3 4 5 6 7 8 9 s.imports.length s.inputs.length s.tables.length s.funcs.length s.cells.length s.ports.length s.stores.length s.recipes.length,shA1 (s.imports.map Imp.C),shA2 (s.inputs.map Inp.C),shA3 (s.tables.map Tb.C),shA4 (s.funcs.map Fnc.C),shA5 (s.cells.map Cel.C),shA6 (s.ports.map Por.C),shA7 (s.stores.map Sto.C),shA8 (s.recipes.map Rcp.C)] [.one (.ptr 0 0),.one (.ptr 1 0)] [rdS L j,shB s.name 2 3 4 5 6 7 8 10 s.imports.length s.inputs.length s.tables.length s.funcs.length s.cells.length s.ports.length s.stores.length (s.recipes++[x]).length,shA1 (s.imports.map Imp.C),shA2 (s.inputs.map Inp.C),shA3 (s.tables.map Tb.C),shA4 (s.funcs.map Fnc.C),shA5 (s.cells.map Cel.C),shA6 (s.ports.map Por.C),shA7 (s.stores.map Sto.C),.dead,shA8 ((s.recipes++[x]).map Rcp.C)] (.tup []):=by
 have cw:xbh Γ prog 185 [rdS L i] [.one (.ptr 0 0),.one (.dat (zjy v69))] [rdS L i1] (.one (.dat (cI 7))):=vt7 hl (by decide) hw;have c1:=zba (Γ:=Γ) hl h;clear h;clear hw;refine hEh [] func163 f163.eq_1 ?_;refine yru [0] cw rfl (by decide) rfl rfl rfl ?_;clear cw;refine hg2 @decide_true @decide_false ?_;refine wlt [0] [(0,rdS L j)] c1 rfl (by decide) rfl rfl rfl rfl ?_;refine hg ?_;refine hI ?_;exact StH.done 11 rfl (by kernel_rfl) rfl (by simp only [List.length_append,List.length_map,List.map_append,List.map_cons,List.map_nil];rfl)
theorem xee {s:Sht} {x:Cel} (hl:L.length<=1048576) (ht:∀ a,(L.getD a default).t.size<=1048576) (hs:s.cells.length<=1048576) (hw:yvd L i v69=some (4,i1)) (h:((x9a L i1).bind fun n=>(v18 L n.2).bind fun u=>(z7y L u.2).map fun y=>(⟨n.1,u.1,y.1⟩,y.2))=some (x,j)):xbh Γ prog 163 [rdS L i,shB s.name 2 3 4 5 6 7 8 9 s.imports.length s.inputs.length s.tables.length s.funcs.length s.cells.length s.ports.length s.stores.length s.recipes.length,shA1 (s.imports.map Imp.C),shA2 (s.inputs.map Inp.C),shA3 (s.tables.map Tb.C),shA4 (s.funcs.map Fnc.C),shA5 (s.cells.map Cel.C),shA6 (s.ports.map Por.C),shA7 (s.stores.map Sto.C),shA8 (s.recipes.map Rcp.C)] [.one (.ptr 0 0),.one (.ptr 1 0)] [rdS L j,shB s.name 2 3 4 5 10 7 8 9 s.imports.length s.inputs.length s.tables.length s.funcs.length (s.cells++[x]).length s.ports.length s.stores.length s.recipes.length,shA1 (s.imports.map Imp.C),shA2 (s.inputs.map Inp.C),shA3 (s.tables.map Tb.C),shA4 (s.funcs.map Fnc.C),.dead,shA6 (s.ports.map Por.C),shA7 (s.stores.map Sto.C),shA8 (s.recipes.map Rcp.C),shA5 ((s.cells++[x]).map Cel.C)] (.tup []):=by
 have cw:xbh Γ prog 185 [rdS L i] [.one (.ptr 0 0),.one (.dat (zjy v69))] [rdS L i1] (.one (.dat (cI 4))):=vt7 hl (by decide) hw;obtain ⟨⟨n,i2⟩,h1,h⟩:=Option.bind_eq_some_iff.1 h;obtain ⟨⟨u,i3⟩,h2,h⟩:=Option.bind_eq_some_iff.1 h;obtain ⟨⟨y,i4⟩,h3,h⟩:=Option.map_eq_some_iff.1 h;simp only [Prod.mk.injEq] at h;obtain ⟨rfl,rfl⟩:=h;have c1:=xk5 (Γ:=Γ) hl h1;have c2:=xz1 (Γ:=Γ) hl h2;have c3:=y4h (Γ:=Γ) hl ht h3;clear h1 h2 h3;clear hw;refine hEh [] func163 f163.eq_1 ?_;refine yru [0] cw rfl (by decide) rfl rfl rfl ?_;clear cw;refine hg2 @decide_true @decide_false ?_;refine wlt [0] [(0,rdS L i2)] c1 rfl (by decide) rfl rfl rfl rfl ?_;refine hg ?_;refine wlt [0] [(0,rdS L i3)] c2 rfl (by decide) rfl rfl rfl rfl ?_;refine hg ?_;refine wlt [0] [(0,rdS L i4)] c3 rfl (by decide) rfl rfl rfl rfl ?_;refine hg ?_;refine hI ?_;exact StH.done 11 rfl (by kernel_rfl) rfl (by simp only [List.length_append,List.length_map,List.map_append,List.map_cons,List.map_nil];rfl)
theorem xlk {s:Sht} {x:Por} (hl:L.length<=1048576) (_ht:∀ a,(L.getD a default).t.size<=1048576) (hs:s.ports.length<=1048576) (hw:yvd L i v69=some (5,i1)) (h:((x9a L i1).bind fun n=>(v18 L n.2).bind fun u=>(numM L u.2).bind fun a=>(yt5 L [⟨#[59]⟩] a.2).map fun j=>(⟨n.1,u.1,a.1⟩,j))=some (x,j)):xbh Γ prog 163 [rdS L i,shB s.name 2 3 4 5 6 7 8 9 s.imports.length s.inputs.length s.tables.length s.funcs.length s.cells.length s.ports.length s.stores.length s.recipes.length,shA1 (s.imports.map Imp.C),shA2 (s.inputs.map Inp.C),shA3 (s.tables.map Tb.C),shA4 (s.funcs.map Fnc.C),shA5 (s.cells.map Cel.C),shA6 (s.ports.map Por.C),shA7 (s.stores.map Sto.C),shA8 (s.recipes.map Rcp.C)] [.one (.ptr 0 0),.one (.ptr 1 0)] [rdS L j,shB s.name 2 3 4 5 6 10 8 9 s.imports.length s.inputs.length s.tables.length s.funcs.length s.cells.length (s.ports++[x]).length s.stores.length s.recipes.length,shA1 (s.imports.map Imp.C),shA2 (s.inputs.map Inp.C),shA3 (s.tables.map Tb.C),shA4 (s.funcs.map Fnc.C),shA5 (s.cells.map Cel.C),.dead,shA7 (s.stores.map Sto.C),shA8 (s.recipes.map Rcp.C),shA6 ((s.ports++[x]).map Por.C)] (.tup []):=by
 have cw:xbh Γ prog 185 [rdS L i] [.one (.ptr 0 0),.one (.dat (zjy v69))] [rdS L i1] (.one (.dat (cI 5))):=vt7 hl (by decide) hw;obtain ⟨⟨n,i2⟩,h1,h⟩:=Option.bind_eq_some_iff.1 h;obtain ⟨⟨u,i3⟩,h2,h⟩:=Option.bind_eq_some_iff.1 h;obtain ⟨⟨y,i4⟩,h3,h⟩:=Option.bind_eq_some_iff.1 h;obtain ⟨i5,h4,h⟩:=Option.map_eq_some_iff.1 h;simp only [Prod.mk.injEq] at h;obtain ⟨rfl,rfl⟩:=h;have c1:=xk5 (Γ:=Γ) hl h1;have c2:=xz1 (Γ:=Γ) hl h2;have c3:=y4w (Γ:=Γ) hl h3;have c4:=xpq (Γ:=Γ) hl h4;clear h1 h2 h3 h4;clear hw;refine hEh [] func163 f163.eq_1 ?_;refine yru [0] cw rfl (by decide) rfl rfl rfl ?_;clear cw;refine hg2 @decide_true @decide_false ?_;refine wlt [0] [(0,rdS L i2)] c1 rfl (by decide) rfl rfl rfl rfl ?_;refine hg ?_;refine wlt [0] [(0,rdS L i3)] c2 rfl (by decide) rfl rfl rfl rfl ?_;refine hg ?_;refine wlt [0] [(0,rdS L i4)] c3 rfl (by decide) rfl rfl rfl rfl ?_;refine hg ?_;refine hI ?_;refine hca [0] c4 ?_;exact StH.done 11 rfl (by kernel_rfl) rfl (by simp only [List.length_append,List.length_map,List.map_append,List.map_cons,List.map_nil];rfl)
theorem wpq {s:Sht} {x:Sto} (hl:L.length<=1048576) (_ht:∀ a,(L.getD a default).t.size<=1048576) (hs:s.stores.length<=1048576) (hw:yvd L i v69=some (6,i1)) (h:((x9a L i1).bind fun n=>(v18 L n.2).bind fun u=>(yvd L u.2 vu1).bind fun r=>(yt5 L [⟨#[59]⟩] r.2).map fun j=>(⟨n.1,u.1,r.1⟩,j))=some (x,j)):xbh Γ prog 163 [rdS L i,shB s.name 2 3 4 5 6 7 8 9 s.imports.length s.inputs.length s.tables.length s.funcs.length s.cells.length s.ports.length s.stores.length s.recipes.length,shA1 (s.imports.map Imp.C),shA2 (s.inputs.map Inp.C),shA3 (s.tables.map Tb.C),shA4 (s.funcs.map Fnc.C),shA5 (s.cells.map Cel.C),shA6 (s.ports.map Por.C),shA7 (s.stores.map Sto.C),shA8 (s.recipes.map Rcp.C)] [.one (.ptr 0 0),.one (.ptr 1 0)] [rdS L j,shB s.name 2 3 4 5 6 7 10 9 s.imports.length s.inputs.length s.tables.length s.funcs.length s.cells.length s.ports.length (s.stores++[x]).length s.recipes.length,shA1 (s.imports.map Imp.C),shA2 (s.inputs.map Inp.C),shA3 (s.tables.map Tb.C),shA4 (s.funcs.map Fnc.C),shA5 (s.cells.map Cel.C),shA6 (s.ports.map Por.C),.dead,shA8 (s.recipes.map Rcp.C),shA7 ((s.stores++[x]).map Sto.C)] (.tup []):=by
 have cw:xbh Γ prog 185 [rdS L i] [.one (.ptr 0 0),.one (.dat (zjy v69))] [rdS L i1] (.one (.dat (cI 6))):=vt7 hl (by decide) hw;obtain ⟨⟨n,i2⟩,h1,h⟩:=Option.bind_eq_some_iff.1 h;obtain ⟨⟨u,i3⟩,h2,h⟩:=Option.bind_eq_some_iff.1 h;obtain ⟨⟨y,i4⟩,h3,h⟩:=Option.bind_eq_some_iff.1 h;obtain ⟨i5,h4,h⟩:=Option.map_eq_some_iff.1 h;simp only [Prod.mk.injEq] at h;obtain ⟨rfl,rfl⟩:=h;have c1:=xk5 (Γ:=Γ) hl h1;have c2:=xz1 (Γ:=Γ) hl h2;have c3:=vt7 (Γ:=Γ) hl (by decide) h3;have c4:=xpq (Γ:=Γ) hl h4;clear h1 h2 h3 h4;clear hw;refine hEh [] func163 f163.eq_1 ?_;refine yru [0] cw rfl (by decide) rfl rfl rfl ?_;clear cw;refine hg2 @decide_true @decide_false ?_;refine wlt [0] [(0,rdS L i2)] c1 rfl (by decide) rfl rfl rfl rfl ?_;refine hg ?_;refine wlt [0] [(0,rdS L i3)] c2 rfl (by decide) rfl rfl rfl rfl ?_;refine hg ?_
 (with_reducible refine y04 x6c ?_)<;>refine hgS ?_
 refine wlt [0] [(0,rdS L i4)] c3 rfl (by decide) rfl rfl rfl rfl ?_;refine hg ?_;refine hI ?_;refine hca [0] c4 ?_;exact StH.done 11 rfl (by kernel_rfl) rfl (by simp only [List.length_append,List.length_map,List.map_append,List.map_cons,List.map_nil];rfl)
end Go.Hp.T
namespace Go.Hp
open Go Go.RowKit Go.Slot
variable {P:Program} {Γ:List (Nat×List Cell)}
variable {d:Deferred} {fn:Func} {w:World} {η:List SB}
def zro (P:Program) (d:Deferred):Prop:=∃ fv cap fc args v,d.target=.fn fv cap/\(∀ w,(invoke d.target d.args).run P w=.ok (.enter fc args) w)/\∀ w,Go.CallsD P fc args .returning w (fun e u w'=>e=.returned v/\u=.returning/\w'=w)
theorem zro.leaves (h:zro P d) {tmps:Array Value} {R:Ending->World->Prop} {v:Value} (hr:(results fn tmps).run P w=.ok v w) (hR:R (.returned v) w):Leaves P fn tmps R [d] .returning w:=by
 obtain ⟨fv,cap,fc,args,v',ht,hi,hc⟩:=h;obtain ⟨t,da⟩:=d;simp only at ht hi;subst ht;refine leaves_cons (by intro h;cases h) (hi w) ((hc w).mono ?_);rintro e u w' ⟨rfl,rfl,rfl⟩;exact ⟨v,hr,hR⟩
def PreD (Γ:List (Nat×List Cell)) (P:Program) (e:List SB) (c:Code) (J:List SV) (η:List SB) (J':List SV) (η':List SB):Prop:=
 ∀(w0:World) (Mo:Nat->Nat->Prop) (ρ0 ρ:Nat->Value) (a:Act) (w:World),HInv Γ Mo ρ0 e w0->RI Γ ⟨w0,Mo,ρ0,e,[]⟩ ρ J η a w->
  c.wp P (fun ex a' w'=>ex=.normal/\∃ d ρ',zro P d/\RI Γ ⟨w0,Mo,ρ0,e,[d]⟩ ρ' J' η' a' w') a w
theorem RI.defer {w0:World} {Mo:Nat->Nat->Prop} {ρ0 ρ:Nat->Value} {e:List SB} {J:List SV} {a:Act} (h:RI Γ ⟨w0,Mo,ρ0,e,[]⟩ ρ J η a w):RI Γ ⟨w0,Mo,ρ0,e,[d]⟩ ρ J η { a with defers:=d::a.defers } w:=
 ⟨by show d::a.defers=[d];rw [h.hd],h.hs,h.slot,h.went⟩
theorem xbh.ytv (G:List (Nat×List GhH)) {f:FuncId} {c0 c1 c:Code} {η' η0 η1:List SB} {σ0 σ1:List SV} {args:List SV} {res:SV} (hf:P.funcs[f]? = some fn) (hb:fn.body=some (c0.seq (c1.seq c))) (hname:(fn.name == "runtime.NumGoroutine")=false)
 (h0:xty Γ P η c0 (fun ex J η'=>ex=.normal/\J=σ0/\η'=η0) (args++List.replicate (fn.ntmps-args.length) .undef) η)
 (h1:PreD Γ P η c1 σ0 η0 σ1 η1)
 (h:RH Γ P η G c true (wgr Γ P η fn.results.toList η' res) (vxk σ1) η1):xbh Γ P f η args η' res:=by
 rw [wwh] at h
 have hc:=(RH.sound c true _ _ _ h).mono (Q':=retH Γ P η fn.results.toList η' res) (by
  intro ex J η1 ⟨b,h⟩
  cases ex with
  | normal=>exact zk4 h
  | ret=>exact zk4 h
  | _=>exact h.elim)
 refine ⟨⟨fn,hf,hname,by rw [hb];rfl⟩,fun Mo ρ w vs hinv hsr=>?_⟩;have hlen:=hsr.length;refine calls_of_wp_defers hf hb ?_
 have hsz:vs.toArray.size=args.length:=by simp [hlen]
 rw [hsz];have hst:=RI.start hinv hsr (fn.ntmps-args.length);refine wp_seq (wp_mono (h0 _ _ _ w ⟨rfl,hinv⟩ hst) ?_);rintro e a w1 ⟨σx,ηx,ρ1,⟨rfl,hx1,hx2⟩,hR1⟩;rw [hx1,hx2] at hR1;refine wp_seq (wp_mono (h1 w Mo ρ ρ1 a w1 hinv hR1) ?_);rintro e a w2 ⟨rfl,d,ρ2,hd,hR2⟩;refine wp_mono (hc _ _ _ w2 ⟨rfl,hinv⟩ hR2) ?_;rintro e a w' ⟨J,η2,ρ2,hq,hR⟩
 have fin:(∃ x,zam P J η2 fn.results.toList=some x/\StH Γ η [x] η2 [res] η')->Leaves P fn a.tmps (xq6 Γ Mo ρ η w η' res) a.defers .returning w':=by
  rintro ⟨x,h2,h3⟩;obtain ⟨v,hrun,hv⟩:=w9k (fn:=fn) hR h2
  have hI1:RI Γ ⟨w,Mo,ρ,η,[]⟩ ρ2 [x] η2 { tmps:=#[v],defers:=[] } w':=⟨rfl,rfl,fun i y hi=>by
   cases i with
   | zero=>simp at hi;subst hi;exact hv
   | succ i=>simp at hi,hR.went⟩
  obtain ⟨ρ3,hI2⟩:=h3 _ ρ2 _ w' ⟨rfl,hinv⟩ hI1;rw [hR.hd];exact hd.leaves hrun ⟨v,ρ3,rfl,hI2.went,hI2.slot 0 res rfl⟩
 cases e with
 | normal=>exact fin hq
 | ret=>exact fin hq
 | _=>exact hq.elim
end Go.Hp
namespace Go.Hp.T
open Go Go.RowKit Go.Slot Go.Hp Go.Slot.T
open Go.Proofs.Tryz (prog)
set_option maxRecDepth 10000
set_option maxHeartbeats 8000000
variable {Γ:List (Nat×List Cell)}
theorem wnf (p q:Value) (w:World):Go.CallsD prog 159 #[p,q] .returning w fun e u' w'=>e=.returned (.tuple #[])/\u'=.returning/\w'=w:=by
 refine callsD_of_wpS Go.Proofs.Tryz.func159 rfl fun c₀ cs hu=>?_
 apply wpS_seq;apply wpS_region;simp [wpOpsS,go_sem,recoverD,hu,Exit.thenS];apply wpS_seq;apply wpS_region;simp [wpOpsS,go_sem,Exit.thenS];refine wpS_cond (t:=false) (by simp [Act.eval,Array.replicate]) ?_;simp only [Bool.false_eq_true,if_false];refine wpS_of_wp (wp_skip ?_)
 cases c₀;simp_all [bodyPostS,results]
theorem wfo (p q:Value):zro prog ⟨.fn (.func 159) #[p,q],#[]⟩:=
 ⟨_,_,159,#[p,q],.tuple #[],rfl,fun w=>by simp [go_sem],wnf p q⟩
theorem w3n {n id:Nat} {e:List SB} {J:List SV} {η:List SB} {o1 o2:Oper} (h:4<J.length) (h1:o1.op=.makeFunc (.func n) #[] #[.tmp 2,.tmp 3]) (h1d:o1.dst=some 4) (h1g:o1.guard=none)
 (h2:o2.op=.defer { callee:=.value (.tmp 4),args:=#[],argTypes:=#[] }) (h2d:o2.dst=none) (h2g:o2.guard=none) (hi:∀ p q,zro prog ⟨.fn (.func n) #[p,q],#[]⟩) :
 PreD Γ prog e (.region id #[o1,o2] false) J η (J.set 4 .any) η:=by
 have hmf:∀(fn:Fn) (first cap:Array Value) (w:World),(Instr.makeFunc fn first cap).run prog w=.ok (.func fn first cap) w:=fun _ _ _ _=>rfl
 intro w0 Mo ρ0 ρ a w hinv hR;apply wp_region
 have hsz:4<a.tmps.size:=by rw [hR.hs];exact h
 show wpOps _ _ _ [0,1] a w;simp [wpOps,h1g,h2g,Region.wanted,Oper.wp,Oper.upon,execOp,h1,h2,hmf,h1d,h2d,resolve,Deferred.ofValue,Act.put,Act.eval,hsz];exact .inl (.inl ⟨_,hi _ _,ρ,RI.defer (hR.put (d:=4) (x:=.any) trivial)⟩)
end Go.Hp.T
