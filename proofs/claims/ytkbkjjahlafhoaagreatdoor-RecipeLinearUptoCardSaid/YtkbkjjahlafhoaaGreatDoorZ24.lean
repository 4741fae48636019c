/- The proof, part Z24: Po, Pr, Ps, Ij, Pt. -/
import Derived.Test.YtkbkjjahlafhoaaGreatDoorZ15
import Derived.Test.YtkbkjjahlafhoaaGreatDoorZ23
import Derived.Test.YtkbkjjahlafhoaaGreatDoorZ16
namespace Go.Hp.T
open Go Go.RowKit Go.Slot Go.Hp Go.Slot.T
open Go.Proofs.Tryz
attribute [local irreducible] hide RH
set_option maxRecDepth 10000
set_option maxHeartbeats 8000000
variable {Γ:List (Nat×List Cell)}
abbrev rdS (L:List Tk) (i:Nat):SB:=.box [.dat (.sl 4 (L.map Tk.C)),.dat (cI i)] (some 202)
theorem wb4 (L:List Tk) (i:Nat) (k:Int):z00 Γ prog 183 [rdS L i] [.one (.ptr 0 0),.one (.dat (cI k))] [rdS L i] (.one (.dat (cB (nxS L i k)))):=by
 refine hEh [] func183 f183.eq_1 ?_
 repeat' first | refine hF ?_ ?_<;>intros | refine hI ?_
 all_goals exact StH.vf8 rfl (by kernel_rfl) (by ((refine bs1 @nxS.eq_def ?_;try exact trivial))<;>first | rfl | trivial)
theorem zha (L:List Tk) (i:Nat) (k:Int) (hl:L.length<=1048576) (h:nxS L i k=true):z00 Γ prog 184 [rdS L i] [.one (.ptr 0 0),.one (.dat (cI k))] [rdS L (i+1)] (.agg ((tkC (L.getD i default)).map .dat)):=by
 have c:=wb4 (Γ:=Γ) L i k;have hlt:=wks h;rw [h] at c;clear h;refine hEh [] func184 f184.eq_1 ?_
 repeat' first | refine hF ?_ ?_<;>intros | refine hI ?_
 refine hca [0] c ?_
 repeat' first | refine hF ?_ ?_<;>intros | refine hI ?_
 rw [show ((i:Int)+1-1).toNat=i by omega];exact StH.done 1 rfl (by kernel_rfl) rfl rfl
theorem y2y (L:List Tk) (i:Nat) (t:ByteArray) (hl:L.length<=1048576):z00 Γ prog 162 [rdS L i] [.one (.ptr 0 0),.one (.dat (cS t))] [rdS L (etA L i t)] (.one (.dat (cB (etS L i t)))):=by
 have fin:∀ b,etS L i t=b->StH Γ [rdS L i] [SV.one (.dat (cB b))] [rdS L (bif b then i+1 else i)] [SV.one (.dat (cB (etS L i t)))] [rdS L (etA L i t)]:=fun b h=>by
  unfold etA;rw [h];exact StH.done 1 rfl (by kernel_rfl) rfl rfl
 refine hEh [] func162 f162.eq_1 ?_
 repeat' first | refine hF ?_ ?_<;>intros | refine hI ?_
 all_goals first
  | exact fin true (by unfold etS;simp [*,-List.getD_eq_getElem?_getD])
  | exact fin false (by unfold etS;simp [*,-List.getD_eq_getElem?_getD])
theorem pc1:((1:Nat):Int)=1:=rfl
theorem vng (L:List Tk) (i:Nat) (t:ByteArray) (hl:L.length<=1048576) (h:etS L i t=true):z00 Γ prog 160 [rdS L i] [.one (.ptr 0 0),.one (.dat (.sl 1 [[cS t]]))] [rdS L (i+1)] (.tup []):=by
 have c:=y2y (Γ:=Γ) L i t hl;unfold etA at c;rw [h,cond_true] at c;refine hEh [] func160 f160.eq_1 ?_;refine hg3 @pc1 @decide_true @decide_false ?_
 repeat' first | refine hF ?_ ?_<;>intros | refine hI ?_ | (first | with_reducible refine xwl ?_ | with_reducible refine yxz ?_)<;>refine hgS ?_
 refine hg3 @pc1 @decide_true @decide_false ?_
 repeat' first | refine hF ?_ ?_<;>intros | refine hI ?_ | (first | with_reducible refine xwl ?_ | with_reducible refine yxz ?_)<;>refine hgS ?_
 refine xmm c ?_;refine hg3 @pc1 @decide_true @decide_false ?_
 repeat' first | refine hF ?_ ?_<;>intros | refine hI ?_ | (first | with_reducible refine xwl ?_ | with_reducible refine yxz ?_)<;>refine hgS ?_
 exact sS
theorem xq8 {L:List Tk} {i:Nat} {s:ByteArray} {j:Nat} (hl:L.length<=1048576) (h:znx L i=some (s,j)):z00 Γ prog 161 [rdS L i] [.one (.ptr 0 0)] [rdS L j] (.one (.dat (cS s))):=by
 unfold znx at h
 cases hn:nxS L i 0 with
 | false=>rw [hn] at h;cases h
 | true=>
  cases hw:isWord (L.getD i default).t with
  | true=>rw [hn,hw] at h;cases h
  | false=>
   rw [hn,hw] at h;simp only [Bool.not_false,Bool.and_true,cond_true,Option.some.injEq,Prod.mk.injEq] at h;obtain ⟨rfl,rfl⟩:=h;have c:=wb4 (Γ:=Γ) L i 0;have tk:=zha (Γ:=Γ) L i 0 hl hn;have w:=zsl (Γ:=Γ) (L.getD i default).t;have hlt:=wks hn;rw [hn] at c;rw [hw] at w;clear hn hw;refine hEh [] func161 f161.eq_1 ?_
   repeat' first | refine hF ?_ ?_<;>intros | refine hI ?_
   first | refine xmm c ?_ | refine wq5 1 (fun ξ=>z00.pre (ξ:=ξ) c (fun r=>rfl) rfl rfl) rfl rfl ?_
   refine hg ?_
   repeat' first | refine hF ?_ ?_<;>intros | refine hI ?_ | (with_reducible first | refine w5a (w) ?_ | refine xqd (w) ?_)<;>refine hgS ?_
   refine xmm tk ?_;refine hg ?_;exact sS
theorem zcw {L:List Tk} {i:Nat} {s:ByteArray} {j:Nat} (hl:L.length<=1048576) (h:yq1 L i=some (s,j)):z00 Γ prog 190 [rdS L i] [.one (.ptr 0 0)] [rdS L j] (.one (.dat (cS s))):=by
 unfold yq1 at h
 cases hn:nxS L i 2 with
 | false=>rw [hn] at h;cases h
 | true=>
  rw [hn] at h;simp only [cond_true,Option.some.injEq,Prod.mk.injEq] at h;obtain ⟨rfl,rfl⟩:=h;have tk:=zha (Γ:=Γ) L i 2 hl hn;clear hn;refine hEh [] func190 f190.eq_1 ?_
  repeat' first | refine hF ?_ ?_<;>intros | refine hI ?_
  refine xmm tk ?_;refine hg ?_;exact sS
theorem vku {L:List Tk} {i:Nat} {n:Int} {j:Nat} (hl:L.length<=1048576) (h:numM L i=some (n,j)):z00 Γ prog 192 [rdS L i] [.one (.ptr 0 0)] [rdS L j] (.one (.dat (cI n))):=by
 unfold numM at h
 cases hn:nxS L i 1 with
 | false=>rw [hn] at h;cases h
 | true=>
  rw [hn] at h;simp only [cond_true,Option.some.injEq,Prod.mk.injEq] at h;obtain ⟨rfl,rfl⟩:=h;have tk:=zha (Γ:=Γ) L i 1 hl hn;clear hn;refine hEh [] func192 f192.eq_1 ?_
  repeat' first | refine hF ?_ ?_<;>intros | refine hI ?_
  refine xmm tk ?_;refine hg ?_;exact sS
theorem v0g {L:List Tk} {i:Nat} {l:List ByteArray} {k j:Nat} (hl:L.length<=1048576) (hw:l.length<=1048576) (h:wnn L i l=some (k,j)):z00 Γ prog 185 [rdS L i] [.one (.ptr 0 0),.one (.dat (wy9 l))] [rdS L j] (.one (.dat (cI k))):=by
 unfold wnn at h;obtain ⟨k',hf,he⟩:=Option.map_eq_some_iff.1 h;simp only [Prod.mk.injEq] at he;obtain ⟨rfl,rfl⟩:=he;rw [List.find?_range_eq_some] at hf;obtain ⟨hp,hk,hno⟩:=hf;rw [List.mem_range] at hk;rw [Bool.and_eq_true] at hp;obtain ⟨hn,he⟩:=hp;have c:=wb4 (Γ:=Γ) L i 0
 have e:=fun t=>y2y (Γ:=Γ) L i t hl
 have hno:∀ m,m<k'->etS L i (l.getD m ⟨#[]⟩)=false:=fun m hm=>by
  have:=hno m hm
  rw [hn,Bool.true_and,Bool.not_eq_true'] at this;exact this
 rw [hn] at c;clear hn h;refine hEh [] func185 f185.eq_1 ?_
 repeat' first | refine hF ?_ ?_<;>intros | refine hI ?_
 refine vi3 [0,1,7,8] (fun i:Nat=>[(9,.one (.dat (cI i)))]) (fun _=>[rdS L i]) (fun n=>n<=k') (fun n=>k'-n) 0 (Nat.zero_le _) ?_ ?_
 . refine hg ?_;exact sS
 intro n hnk;have en:=e (l.getD n ⟨#[]⟩);clear e;unfold etA at en
 rcases Nat.lt_or_eq_of_le hnk with hlt | rfl
 . have hf:=hno n hlt;rw [hf,cond_false] at en;clear hno he;refine hg ?_
   repeat' first | refine hF ?_ ?_<;>intros | refine hI ?_
   all_goals try (exfalso;omega)
   refine hca [0] c ?_
   repeat' first | refine hF ?_ ?_<;>intros | refine hI ?_
   refine hca [0] en ?_
   repeat' first | refine hF ?_ ?_<;>intros | refine hI ?_
   exact ⟨n+1,hlt,by omega,sS⟩
 . rw [he,cond_true] at en;clear hno he;refine hg ?_
   repeat' first | refine hF ?_ ?_<;>intros | refine hI ?_
   all_goals try (exfalso;omega)
   refine hca [0] c ?_
   repeat' first | refine hF ?_ ?_<;>intros | refine hI ?_
   refine hca [0] en ?_
   repeat' first | refine hF ?_ ?_<;>intros | refine hI ?_
   exact sS
theorem zfh {L:List Tk} {t:ByteArray} {i j:Nat} (h:xte L [t] i=some j):etS L i t=true/\j=i+1:=by
 unfold xte at h
 cases he:etS L i t with
 | true=>rw [he,cond_true] at h;unfold xte at h;exact ⟨rfl,(Option.some.inj h).symm⟩
 | false=>rw [he] at h;cases h
theorem wlh {L:List Tk} {i j:Nat} {t:ByteArray} (hl:L.length<=1048576) (h:xte L [t] i=some j):z00 Γ prog 160 [rdS L i] [.one (.ptr 0 0),.one (.dat (.sl 1 [[cS t]]))] [rdS L j] (.tup []):=by
 obtain ⟨h1,rfl⟩:=zfh h;exact vng L i t hl h1
theorem zx9 {L:List Tk} {i:Nat} {x:Ex} {j:Nat} (hl:L.length<=1048576) (ht:∀ a,(L.getD a default).t.size<=1048576) (h:xk5 L i=some (x,j)):z00 Γ prog 191 [rdS L i] [.one (.ptr 0 0)] [rdS L j] (.agg ((exC x).map .dat)):=by
 unfold xk5 at h;obtain ⟨j1,h1,h⟩:=Option.bind_eq_some_iff.1 h;obtain ⟨h2,rfl⟩:=zfh h1;have c1:=wlh (Γ:=Γ) hl h1;have cr:=vn5 (Γ:=Γ) L (i+1) hl ht (y1o h2);generalize x49 L (i+1)=r at *;obtain ⟨y,k,e⟩:=r;dsimp only at h cr;by_cases he:e=0
 . subst he;rw [decide_eq_true rfl,cond_true] at h;obtain ⟨j2,h3,h4⟩:=Option.map_eq_some_iff.1 h;simp only [Prod.mk.injEq] at h4;obtain ⟨rfl,rfl⟩:=h4;have c2:=wlh (Γ:=Γ) hl h3;clear h h1 h2 h3;refine hEh [] func191 f191.eq_1 ?_
   repeat' first | refine hF ?_ ?_<;>intros | refine hI ?_
   refine hca [0] c1 ?_
   repeat' first | refine hF ?_ ?_<;>intros | refine hI ?_ | (with_reducible first | refine w5a (cr) ?_ | refine xqd (cr) ?_)<;>refine hgS ?_
   refine hca [0] c2 ?_
   repeat' first | refine hF ?_ ?_<;>intros | refine hI ?_
   first | exact StH.done 1 rfl (by kernel_rfl) rfl rfl | exact sS
 . rw [decide_eq_false he] at h;cases h
theorem x6i {L:List Tk} {i:Nat} {x:Inp} {j:Nat} (hl:L.length<=1048576) (h:wxc L i=some (x,j)):z00 Γ prog 187 [rdS L i] [.one (.ptr 0 0)] [rdS L j] (.agg (x.C.map .dat)):=by
 unfold wxc at h;obtain ⟨⟨n,i1⟩,h1,h⟩:=Option.bind_eq_some_iff.1 h;obtain ⟨⟨u,i2⟩,h2,h⟩:=Option.bind_eq_some_iff.1 h;dsimp only at h2 h;obtain ⟨⟨k,i3⟩,h3,h⟩:=Option.bind_eq_some_iff.1 h;dsimp only at h3 h;obtain ⟨i4,h4,h⟩:=Option.map_eq_some_iff.1 h;simp only [Prod.mk.injEq] at h;obtain ⟨rfl,rfl⟩:=h;have c1:=xq8 (Γ:=Γ) hl h1;have c2:=zcw (Γ:=Γ) hl h2;have c0:=wb4 (Γ:=Γ) L i2 0;have c4:=wlh (Γ:=Γ) hl h4
 cases hn:nxS L i2 0 with
 | true=>
  rw [hn,cond_true] at h3;rw [hn] at c0;have c3:=xq8 (Γ:=Γ) hl h3;clear h1 h2 h3 h4 hn;refine hEh [] func187 f187.eq_1 ?_
  repeat' first | refine hF ?_ ?_<;>intros | refine hI ?_
  refine hca [0] c1 ?_
  repeat' first | refine hF ?_ ?_<;>intros | refine hI ?_
  refine hca [0] c2 ?_
  repeat' first | refine hF ?_ ?_<;>intros | refine hI ?_
  refine hca [0] c0 ?_
  repeat' first | refine hF ?_ ?_<;>intros | refine hI ?_
  refine hca [0] c3 ?_
  repeat' first | refine hF ?_ ?_<;>intros | refine hI ?_
  refine hca [0] c4 ?_
  repeat' first | refine hF ?_ ?_<;>intros | refine hI ?_
  exact StH.done 1 rfl (by kernel_rfl) rfl rfl
 | false=>
  rw [hn,cond_false] at h3;simp only [Option.some.injEq,Prod.mk.injEq] at h3;obtain ⟨rfl,rfl⟩:=h3;rw [hn] at c0;clear h1 h2 h4 hn;refine hEh [] func187 f187.eq_1 ?_
  repeat' first | refine hF ?_ ?_<;>intros | refine hI ?_
  refine hca [0] c1 ?_
  repeat' first | refine hF ?_ ?_<;>intros | refine hI ?_
  refine hca [0] c2 ?_
  repeat' first | refine hF ?_ ?_<;>intros | refine hI ?_
  refine hca [0] c0 ?_
  repeat' first | refine hF ?_ ?_<;>intros | refine hI ?_
  refine hca [0] c4 ?_
  repeat' first | refine hF ?_ ?_<;>intros | refine hI ?_
  exact StH.done 1 rfl (by kernel_rfl) rfl rfl
theorem v52 {L:List Tk} {i:Nat} {x:Imp} {j:Nat} (hl:L.length<=1048576) (h:wbx L i=some (x,j)):z00 Γ prog 186 [rdS L i] [.one (.ptr 0 0)] [rdS L j] (.agg (x.C.map .dat)):=by
 unfold wbx at h;obtain ⟨⟨n,i1⟩,h1,h⟩:=Option.bind_eq_some_iff.1 h;obtain ⟨⟨u,i2⟩,h2,h⟩:=Option.bind_eq_some_iff.1 h;obtain ⟨⟨a,i3⟩,h3,h⟩:=Option.bind_eq_some_iff.1 h;obtain ⟨i4,h4,h⟩:=Option.bind_eq_some_iff.1 h;obtain ⟨⟨hh,i5⟩,h5,h⟩:=Option.bind_eq_some_iff.1 h;obtain ⟨i6,h6,h⟩:=Option.bind_eq_some_iff.1 h;obtain ⟨⟨p,i7⟩,h7,h⟩:=Option.bind_eq_some_iff.1 h;obtain ⟨i8,h8,h⟩:=Option.bind_eq_some_iff.1 h;obtain ⟨⟨v,i9⟩,h9,h⟩:=Option.bind_eq_some_iff.1 h;obtain ⟨i10,h10,h⟩:=Option.map_eq_some_iff.1 h;simp only [Prod.mk.injEq] at h;obtain ⟨rfl,rfl⟩:=h;have c1:=xq8 (Γ:=Γ) hl h1;have c2:=zcw (Γ:=Γ) hl h2;have c3:=vku (Γ:=Γ) hl h3;have c4:=wlh (Γ:=Γ) hl h4;have c5:=vku (Γ:=Γ) hl h5;have c6:=wlh (Γ:=Γ) hl h6;have c7:=xq8 (Γ:=Γ) hl h7;have c8:=wlh (Γ:=Γ) hl h8;have c9:=vku (Γ:=Γ) hl h9;have c10:=wlh (Γ:=Γ) hl h10;clear h1 h2 h3 h4 h5 h6 h7 h8 h9 h10;refine hEh [] func186 f186.eq_1 ?_
 repeat' first | refine hF ?_ ?_<;>intros | refine hI ?_
 refine hca [0] c1 ?_
 repeat' first | refine hF ?_ ?_<;>intros | refine hI ?_
 refine hca [0] c2 ?_
 repeat' first | refine hF ?_ ?_<;>intros | refine hI ?_
 refine hca [0] c3 ?_
 repeat' first | refine hF ?_ ?_<;>intros | refine hI ?_
 refine hca [0] c4 ?_
 repeat' first | refine hF ?_ ?_<;>intros | refine hI ?_
 refine hca [0] c5 ?_
 repeat' first | refine hF ?_ ?_<;>intros | refine hI ?_
 refine hca [0] c6 ?_
 repeat' first | refine hF ?_ ?_<;>intros | refine hI ?_
 refine hca [0] c7 ?_
 repeat' first | refine hF ?_ ?_<;>intros | refine hI ?_
 refine hca [0] c8 ?_
 repeat' first | refine hF ?_ ?_<;>intros | refine hI ?_
 refine hca [0] c9 ?_
 repeat' first | refine hF ?_ ?_<;>intros | refine hI ?_
 refine hca [0] c10 ?_
 repeat' first | refine hF ?_ ?_<;>intros | refine hI ?_
 exact StH.done 1 rfl (by kernel_rfl) rfl rfl
theorem zzi {e η η':List SB} {l:List SV} {cs:List Cell} {bs:List Nat} {J':List SV} (m:Nat) (h:wrt η l=some (cs.map .one,bs)) (hs:x3n (cs.map AV.one)=some (cs.map fun c=>SV.one (.dat c))) (hm:Nat.ble e.length m=true) (hc:z6m m [SV.tup (cs.map fun c=>SV.one (.dat c))] (appL (frzE η bs) η)=true) (hσ:[SV.tup (cs.map fun c=>SV.one (.dat c))]=J') (hη:(appL (frzE η bs) η).take m=η') :
 StH Γ e [.tup l] η J' η':=
 StH.trans (StH.frzT h hs) (StH.done m hm hc hσ hη)
theorem zz4 {η:List SB} {b b' n n':Nat} {l l':List (List Cell)} {q q':Nat} {T T':Option TypeId} (hb:gB η b=.arr (.sl 1 l) q T) (hb':gB η b'=.arr (.sl 1 l') q' T') (hn:n=l.length) (hn':n'=l'.length):wrt η [.one (.sl b 1 0 n),.one (.sl b' 1 0 n')]=some ([.one (.sl 1 l),.one (.sl 1 l')],[b,b']):=by
 subst hn hn';simp [wrt,argD,yo0,hb,hb',Cell.esz,Cell.cnt,subC]
theorem z5a {L:List Tk} {i:Nat} {p:ByteArray×Nat} (h:znx L i=some p):i<L.length/\p.2=i+1:=by
 unfold znx at h
 cases hn:nxS L i 0 with
 | false=>rw [hn] at h;cases h
 | true=>
  refine ⟨wks hn,?_⟩
  cases hw:isWord (L.getD i default).t with
  | true=>rw [hn,hw] at h;cases h
  | false=>
   rw [hn,hw] at h;simp only [Bool.not_false,Bool.and_true,cond_true,Option.some.injEq] at h;rw [<-h]
theorem y5y {L:List Tk} {i:Nat} {r:(List ByteArray×List ByteArray)×Nat} (hl:L.length<=1048576) (h:v9q L false L.length [] [] i=some r):z00 Γ prog 217 [rdS L i] [.one (.ptr 0 0),.one (.dat (cB false))] [rdS L r.2] (.tup [.one (.dat (wy9 r.1.1)),.one (.dat (wy9 r.1.2))]):=by
 refine hEh [] func217 f217.eq_1 ?_
 repeat' first | refine hF ?_ ?_<;>intros | refine hI ?_
 refine vi3 [0,1] (fun x:List ByteArray×Nat=>[(4,.one (.sl 1 1 0 x.1.length)),(5,.one (.sl 2 1 0 0))]) (fun x=>[rdS L x.2,.arr (wy9 x.1) 0 (some 9),.arr (.sl 1 []) 0 (some 9)])
  (fun x=>x.1.length<=x.2/\i<=x.2/\∃ f,v9q L false f x.1 [] x.2=some r) (fun x=>L.length-x.2) ([],i) ⟨Nat.zero_le _,Nat.le_refl _,_,h⟩ ?_ ?_
 . refine hg ?_;refine StH.trans (StH.empty (d:=4) (es:=1) (c:=.sl 1 []) (T:=some 9) rfl rfl (fun r hr=>by cases hr) rfl) ?_;refine hg ?_;refine StH.trans (StH.empty (d:=5) (es:=1) (c:=.sl 1 []) (T:=some 9) rfl rfl (fun r hr=>by cases hr) rfl) ?_;refine hg ?_;exact sS
 rintro ⟨l,k⟩ ⟨k1,k2,f,hf⟩;dsimp only at k1 k2 hf;clear h
 cases f with
 | zero=>cases hf
 | succ f=>
  rw [v9q] at hf;obtain ⟨⟨s,k'⟩,h1,hf⟩:=Option.bind_eq_some_iff.1 hf;obtain ⟨hlt,e1⟩:=z5a h1;dsimp only at e1;subst e1;dsimp only at hf;rw [cond_false,Option.bind_some] at hf;dsimp only at hf;have c1:=xq8 (Γ:=Γ) hl h1;have c2:=y2y (Γ:=Γ) L (k+1) tCm hl;unfold etA at c2;clear h1
  cases he:etS L (k+1) tCm with
  | true=>
   rw [he,cond_true] at hf c2;have hlt2:=y1o he;clear he;refine hg ?_
   repeat' first | refine hF ?_ ?_<;>intros | refine hI ?_
   refine hca [0] c1 ?_
   repeat' first | refine hF ?_ ?_<;>intros | refine hI ?_
   refine hca [0] c2 ?_
   repeat' first | refine hF ?_ ?_<;>intros | refine hI ?_
   refine ⟨(l++[s],k+1+1),⟨by simp only [List.length_append,List.length_singleton];omega,by dsimp only;omega,f,hf⟩,by dsimp only;omega,?_⟩;refine StH.back [0,1,4,5] 1 3 3 rfl rfl rfl rfl rfl (by kernel_rfl) ?_;simp only;refine hg2 @List.length_append.{0} @List.length_singleton.{0} ?_;exact StH.same svl (by simp only [wy9,List.map_append,List.map_cons,List.map_nil];rfl)
  | false=>
   rw [he,cond_false] at hf c2;simp only [Option.some.injEq] at hf;subst hf;clear he;refine hg ?_
   repeat' first | refine hF ?_ ?_<;>intros | refine hI ?_
   refine hca [0] c1 ?_
   repeat' first | refine hF ?_ ?_<;>intros | refine hI ?_
   refine hca [0] c2 ?_
   repeat' first | refine hF ?_ ?_<;>intros | refine hI ?_
   exact zzi (cs:=[.sl 1 (l.map (fun s=>[cS s])++[[cS s]]),.sl 1 []]) (bs:=[3,2]) 1 (zz4 rfl rfl rfl rfl) rfl rfl (by kernel_rfl) (by simp only [wy9,List.map_append,List.map_cons,List.map_nil]) rfl
theorem wz6 {L:List Tk} {i:Nat} {r:(List ByteArray×List ByteArray)×Nat} (hl:L.length<=1048576) (h:v9q L true L.length [] [] i=some r):z00 Γ prog 217 [rdS L i] [.one (.ptr 0 0),.one (.dat (cB true))] [rdS L r.2] (.tup [.one (.dat (wy9 r.1.1)),.one (.dat (wy9 r.1.2))]):=by
 refine hEh [] func217 f217.eq_1 ?_
 repeat' first | refine hF ?_ ?_<;>intros | refine hI ?_
 refine vi3 [0,1] (fun x:(List ByteArray×List ByteArray)×Nat=>[(4,.one (.sl 1 1 0 x.1.1.length)),(5,.one (.sl 2 1 0 x.1.2.length))]) (fun x=>[rdS L x.2,.arr (wy9 x.1.1) 0 (some 9),.arr (wy9 x.1.2) 0 (some 9)])
  (fun x=>x.1.1.length<=x.2/\x.1.2.length<=x.2/\i<=x.2/\∃ f,v9q L true f x.1.1 x.1.2 x.2=some r) (fun x=>L.length-x.2) (([],[]),i) ⟨Nat.zero_le _,Nat.zero_le _,Nat.le_refl _,_,h⟩ ?_ ?_
 . refine hg ?_;refine StH.trans (StH.empty (d:=4) (es:=1) (c:=.sl 1 []) (T:=some 9) rfl rfl (fun r hr=>by cases hr) rfl) ?_;refine hg ?_;refine StH.trans (StH.empty (d:=5) (es:=1) (c:=.sl 1 []) (T:=some 9) rfl rfl (fun r hr=>by cases hr) rfl) ?_;refine hg ?_;exact sS
 rintro ⟨⟨l,c⟩,k⟩ ⟨k1,k3,k2,f,hf⟩;dsimp only at k1 k2 k3 hf;clear h
 cases f with
 | zero=>cases hf
 | succ f=>
  rw [v9q] at hf;obtain ⟨⟨s,k'⟩,h1,hf⟩:=Option.bind_eq_some_iff.1 hf;obtain ⟨hlt,e1⟩:=z5a h1;dsimp only at e1;subst e1;dsimp only at hf;rw [cond_true] at hf;obtain ⟨⟨c',k''⟩,h2,hf⟩:=Option.bind_eq_some_iff.1 hf;obtain ⟨j1,h3,h2⟩:=Option.bind_eq_some_iff.1 h2;obtain ⟨h4,rfl⟩:=zfh h3;obtain ⟨⟨w,j2⟩,h5,h6⟩:=Option.map_eq_some_iff.1 h2;obtain ⟨hlt2,e2⟩:=z5a h5;dsimp only at e2;subst e2;simp only [Prod.mk.injEq] at h6;obtain ⟨rfl,rfl⟩:=h6;dsimp only at hf;have c1:=xq8 (Γ:=Γ) hl h1;have c3:=wlh (Γ:=Γ) hl h3;have c4:=xq8 (Γ:=Γ) hl h5;have c2:=y2y (Γ:=Γ) L (k+1+1+1) tCm hl;unfold etA at c2;clear h1 h2 h3 h4 h5
  cases he:etS L (k+1+1+1) tCm with
  | true=>
   rw [he,cond_true] at hf c2;have hlt3:=y1o he;clear he;refine hg ?_
   repeat' first | refine hF ?_ ?_<;>intros | refine hI ?_
   refine hca [0] c1 ?_
   repeat' first | refine hF ?_ ?_<;>intros | refine hI ?_
   refine hca [0] c3 ?_
   repeat' first | refine hF ?_ ?_<;>intros | refine hI ?_
   refine hca [0] c4 ?_
   repeat' first | refine hF ?_ ?_<;>intros | refine hI ?_
   refine hca [0] c2 ?_
   repeat' first | refine hF ?_ ?_<;>intros | refine hI ?_
   refine ⟨((l++[s],c++[w]),k+1+1+1+1),⟨by simp only [List.length_append,List.length_singleton];omega,by simp only [List.length_append,List.length_singleton];omega,by dsimp only;omega,f,hf⟩,by dsimp only;omega,?_⟩;refine StH.back [0,1,4,5] 1 3 5 rfl rfl rfl rfl rfl (by kernel_rfl) ?_;refine hg2 @List.length_append.{0} @List.length_singleton.{0} ?_;refine StH.back [0,1,4,5] 2 4 3 rfl rfl rfl rfl rfl (by kernel_rfl) ?_;refine hg2 @List.length_append.{0} @List.length_singleton.{0} ?_;exact StH.same svl (by simp only [wy9,List.map_append,List.map_cons,List.map_nil];rfl)
  | false=>
   rw [he,cond_false] at hf c2;simp only [Option.some.injEq] at hf;subst hf;clear he;refine hg ?_
   repeat' first | refine hF ?_ ?_<;>intros | refine hI ?_
   refine hca [0] c1 ?_
   repeat' first | refine hF ?_ ?_<;>intros | refine hI ?_
   refine hca [0] c3 ?_
   repeat' first | refine hF ?_ ?_<;>intros | refine hI ?_
   refine hca [0] c4 ?_
   repeat' first | refine hF ?_ ?_<;>intros | refine hI ?_
   refine hca [0] c2 ?_
   repeat' first | refine hF ?_ ?_<;>intros | refine hI ?_
   exact zzi (cs:=[.sl 1 (l.map (fun s=>[cS s])++[[cS s]]),.sl 1 (c.map (fun s=>[cS s])++[[cS w]])]) (bs:=[3,4]) 1 (zz4 rfl rfl rfl rfl) rfl rfl (by kernel_rfl) (by simp only [wy9,List.map_append,List.map_cons,List.map_nil]) rfl
end Go.Hp.T
namespace Go.Hp.T
open Go Go.RowKit Go.Slot Go.Hp Go.Slot.T
set_option maxRecDepth 10000
def yjo (place:Nat->Option (Nat×Nat)) (cs:List HC) (ps:List (Nat×SV)):Option (List HC):=wlk place cs ps
def z4c (place:Nat->Option (Nat×Nat)) (cs:List HC) (r:List (Nat×SV)) (a:Option (Nat×Nat)) (b:Option (List HC)):Option (List HC):=match a,b with
 | some (off,size),some us=>if us.length=size/\off+size<=cs.length then wlk place (cs.take off++us++cs.drop (off+size)) r else none
 | _,_=>none
def wyz (place:Nat->Option (Nat×Nat)) (cs:List HC) (r:List (Nat×SV)) (b:Bool):Option (List HC):=bif b then wlk place cs r else none
theorem vpb {place:Nat->Option (Nat×Nat)} {cs:List HC} {ps:List (Nat×SV)}:wlk place cs ps=yjo place cs ps:=rfl
theorem x3j {place:Nat->Option (Nat×Nat)} {cs:List HC}:yjo place cs []=some cs:=rfl
theorem w2h {place:Nat->Option (Nat×Nat)} {cs:List HC} {i:Nat} {x:SV} {r:List (Nat×SV)}:yjo place cs ((i,x)::r)=z4c place cs r (place i) (yg2 x):=by
 unfold yjo;rw [wlk];rfl
theorem zds {a b:Nat}:Nat.beq a b=decide (a=b):=by rw [Bool.eq_iff_iff,decide_eq_true_iff,Nat.beq_eq]
theorem v18 {a b:Nat}:Nat.ble a b=decide (a<=b):=by rw [Bool.eq_iff_iff,decide_eq_true_iff,Nat.ble_eq]
theorem v2q {a b:Nat} (h:a<=b):Nat.ble a b=true:=Nat.ble_eq_true_of_le h
theorem vam {place:Nat->Option (Nat×Nat)} {cs us:List HC} {off size:Nat} {r:List (Nat×SV)}:z4c place cs r (some (off,size)) (some us)=wyz place (cs.take off++(us++cs.drop (off+size))) r (Nat.beq us.length size&&Nat.ble (off+size) cs.length):=by
 rw [<-List.append_assoc];show (if us.length=size/\off+size<=cs.length then wlk place (cs.take off++us++cs.drop (off+size)) r else none)=_;rw [zds,v18];by_cases h1:us.length=size
 . by_cases h2:off+size<=cs.length
   . rw [if_pos ⟨h1,h2⟩,decide_eq_true h1,decide_eq_true h2];rfl
   . rw [if_neg (fun h=>h2 h.2),decide_eq_false h2,Bool.and_false];rfl
 . rw [if_neg (fun h=>h1 h.1),decide_eq_false h1];rfl
theorem xie {place:Nat->Option (Nat×Nat)} {cs:List HC} {r:List (Nat×SV)}:wyz place cs r true=yjo place cs r:=rfl
attribute [go_sem ↓ 30000] vpb
attribute [go_sem] x3j w2h vam xie zds v2q
end Go.Hp.T
namespace Go.Hp.T
open Go Go.RowKit Go.Slot Go.Hp Go.Slot.T
open Go.Proofs.Tryz
attribute [local irreducible] hide RH
set_option maxRecDepth 10000
set_option maxHeartbeats 8000000
variable {Γ:List (Nat×List Cell)}
abbrev w5r:List Cell:=[cS ⟨#[109,101,116,101,114]⟩,cI 0,cI 0,cI 1,cI 1,cB true,cB false,cB false,
 cS ⟨#[116,97,107,101]⟩,cI 0,cI 0,cI 1,cI 1,cB true,cB false,cB false,
 cS ⟨#[100,114,97,119]⟩,cI 0,cI 0,cI 1,cI 1,cB true,cB false,cB true,
 cS ⟨#[115,112,108,105,116]⟩,cI 1,cI 1,cI 1,cI 100,cB false,cB true,cB false,
 cS ⟨#[106,111,105,110]⟩,cI 1,cI 100,cI 1,cI 1,cB false,cB false,cB false,
 cS ⟨#[103,105,118,101]⟩,cI 1,cI 1,cI 0,cI 0,cB true,cB false,cB false,
 cS ⟨#[112,117,116]⟩,cI 1,cI 1,cI 0,cI 0,cB true,cB false,cB true,
 cS ⟨#[108,111,115,101]⟩,cI 1,cI 1,cI 0,cI 0,cB true,cB false,cB false,
 cS ⟨#[114,101,115,116]⟩,cI 1,cI 1,cI 0,cI 0,cB false,cB false,cB false]
theorem x3b:CallsD Γ prog 107 [] (.agg w5r):=by
 refine hE [] func107 f107.eq_1 ?_
 repeat' first | refine hF ?_ ?_<;>intros | refine hI ?_
 exact RLe.ofEq rfl
theorem wng:CallsD Γ prog 193 [] (.one (wy9 x8r)):=by
 refine hE [] func193 f193.eq_1 ?_
 repeat' first | refine hF ?_ ?_<;>intros | refine hI ?_
 exact RLe.ofEq rfl
def wrd (i:Nat):List (List Cell):=(yl4.take i).map fun s=>[cS s]
theorem wrd0:wrd 0=[]:=rfl
theorem wrd1:wrd 1=[[cS ⟨#[109,101,116,101,114]⟩]]:=rfl
theorem wrd2:wrd 2=[[cS ⟨#[109,101,116,101,114]⟩],[cS ⟨#[116,97,107,101]⟩]]:=rfl
theorem wrd3:wrd 3=[[cS ⟨#[109,101,116,101,114]⟩],[cS ⟨#[116,97,107,101]⟩],[cS ⟨#[100,114,97,119]⟩]]:=rfl
theorem wrd4:wrd 4=[[cS ⟨#[109,101,116,101,114]⟩],[cS ⟨#[116,97,107,101]⟩],[cS ⟨#[100,114,97,119]⟩],[cS ⟨#[115,112,108,105,116]⟩]]:=rfl
theorem wrd5:wrd 5=[[cS ⟨#[109,101,116,101,114]⟩],[cS ⟨#[116,97,107,101]⟩],[cS ⟨#[100,114,97,119]⟩],[cS ⟨#[115,112,108,105,116]⟩],[cS ⟨#[106,111,105,110]⟩]]:=rfl
theorem wrd6:wrd 6=[[cS ⟨#[109,101,116,101,114]⟩],[cS ⟨#[116,97,107,101]⟩],[cS ⟨#[100,114,97,119]⟩],[cS ⟨#[115,112,108,105,116]⟩],[cS ⟨#[106,111,105,110]⟩],[cS ⟨#[103,105,118,101]⟩]]:=rfl
theorem wrd7:wrd 7=[[cS ⟨#[109,101,116,101,114]⟩],[cS ⟨#[116,97,107,101]⟩],[cS ⟨#[100,114,97,119]⟩],[cS ⟨#[115,112,108,105,116]⟩],[cS ⟨#[106,111,105,110]⟩],[cS ⟨#[103,105,118,101]⟩],[cS ⟨#[112,117,116]⟩]]:=rfl
theorem wrd8:wrd 8=[[cS ⟨#[109,101,116,101,114]⟩],[cS ⟨#[116,97,107,101]⟩],[cS ⟨#[100,114,97,119]⟩],[cS ⟨#[115,112,108,105,116]⟩],[cS ⟨#[106,111,105,110]⟩],[cS ⟨#[103,105,118,101]⟩],[cS ⟨#[112,117,116]⟩],[cS ⟨#[108,111,115,101]⟩]]:=rfl
theorem wrd9:wrd 9=[[cS ⟨#[109,101,116,101,114]⟩],[cS ⟨#[116,97,107,101]⟩],[cS ⟨#[100,114,97,119]⟩],[cS ⟨#[115,112,108,105,116]⟩],[cS ⟨#[106,111,105,110]⟩],[cS ⟨#[103,105,118,101]⟩],[cS ⟨#[112,117,116]⟩],[cS ⟨#[108,111,115,101]⟩],[cS ⟨#[114,101,115,116]⟩]]:=rfl
theorem wug {L:List Tk} {i:Nat} {l:List ByteArray} {r:Nat×Nat} (h:wnn L i l=some r):r.1<l.length:=by
 unfold wnn at h;obtain ⟨k,hf,rfl⟩:=Option.map_eq_some_iff.1 h;rw [List.find?_range_eq_some] at hf;exact List.mem_range.1 hf.2.1
theorem stLe (a b c d e f:Cell) {b' c' e':Cell} (hb:Cell.Le b b') (hc:Cell.Le c c') (he:Cell.Le e e'):SVle (.agg [.dat a,.dat b,.dat c,.dat d,.dat e,.dat f]) (.agg [.dat a,.dat b',.dat c',.dat d,.dat e',.dat f]):=
 .agg (.cons (.refl _) (.cons (.dat hb) (.cons (.dat hc) (.cons (.refl _) (.cons (.dat he) (.cons (.refl _) .nil))))))
theorem zeq {L:List Tk} {i:Nat} {x:Stp} {j:Nat} (hl:L.length<=1048576) (h:zg1 L i=some (x,j)):z00 Γ prog 211 [rdS L i] [.one (.ptr 0 0)] [rdS L j] (.agg (x.C.map .dat)):=by
 unfold zg1 at h;obtain ⟨⟨k,i1⟩,hw,h⟩:=Option.bind_eq_some_iff.1 h;have hk:k<9:=wug hw
 have cw:∀ kk:Int,kk=k->z00 Γ prog 185 [rdS L i] [.one (.ptr 0 0),.one (.dat (.sl 1 (wrd 9)))] [rdS L i1] (.one (.dat (cI kk))):=fun kk hkk=>by rw [hkk];exact v0g hl (by decide) hw
 clear hw;dsimp only at h;refine hEh [] func211 f211.eq_1 ?_
 repeat' first | refine hF ?_ ?_<;>intros | refine hI ?_ | (with_reducible first | refine w5a (x3b) ?_ | refine xqd (x3b) ?_)<;>refine hgS ?_
 refine vi3 [0,2,3,10] (fun n:Nat=>[(4,.one (.sl 3 1 0 n)),(11,.one (.dat (cI n)))]) (fun n=>[rdS L i,.box [.dat (cI 0),.dat .zc,.dat .zc,.dat (cS ⟨#[]⟩),.dat .zc,.dat (cI 0)] (some 70),.box (w5r.map .dat) (some 188),.arr (.sl 1 (wrd n)) 0 (some 9)])
  (fun n=>n<=9) (fun n=>9-n) 0 (by decide) ?_ ?_
 . refine hg ?_;refine StH.trans (StH.empty (d:=4) (es:=1) (c:=.sl 1 []) (T:=some 9) rfl rfl (fun r hr=>by cases hr) rfl) ?_;refine hg ?_;exact sS
 intro n hn
 obtain rfl | rfl | rfl | rfl | rfl | rfl | rfl | rfl | rfl | rfl:n=0\/n=1\/n=2\/n=3\/n=4\/n=5\/n=6\/n=7\/n=8\/n=9:=by omega
 . clear h;refine hg1 @wrd0 ?_;refine vdi (fun hlt _=>?_) (fun hlt _=>by exfalso;omega);refine hg ?_
   repeat' first | refine hF ?_ ?_<;>intros | refine hI ?_
   refine ⟨1,by decide,by decide,?_⟩;refine StH.back [0,2,3,4,10,11] 3 5 4 rfl rfl rfl rfl rfl (by kernel_rfl) ?_;refine hg ?_;exact sS
 . clear h;refine hg1 @wrd1 ?_;refine vdi (fun hlt _=>?_) (fun hlt _=>by exfalso;omega);refine hg ?_
   repeat' first | refine hF ?_ ?_<;>intros | refine hI ?_
   refine ⟨2,by decide,by decide,?_⟩;refine StH.back [0,2,3,4,10,11] 3 5 4 rfl rfl rfl rfl rfl (by kernel_rfl) ?_;refine hg ?_;exact sS
 . clear h;refine hg1 @wrd2 ?_;refine vdi (fun hlt _=>?_) (fun hlt _=>by exfalso;omega);refine hg ?_
   repeat' first | refine hF ?_ ?_<;>intros | refine hI ?_
   refine ⟨3,by decide,by decide,?_⟩;refine StH.back [0,2,3,4,10,11] 3 5 4 rfl rfl rfl rfl rfl (by kernel_rfl) ?_;refine hg ?_;exact sS
 . clear h;refine hg1 @wrd3 ?_;refine vdi (fun hlt _=>?_) (fun hlt _=>by exfalso;omega);refine hg ?_
   repeat' first | refine hF ?_ ?_<;>intros | refine hI ?_
   refine ⟨4,by decide,by decide,?_⟩;refine StH.back [0,2,3,4,10,11] 3 5 4 rfl rfl rfl rfl rfl (by kernel_rfl) ?_;refine hg ?_;exact sS
 . clear h;refine hg1 @wrd4 ?_;refine vdi (fun hlt _=>?_) (fun hlt _=>by exfalso;omega);refine hg ?_
   repeat' first | refine hF ?_ ?_<;>intros | refine hI ?_
   refine ⟨5,by decide,by decide,?_⟩;refine StH.back [0,2,3,4,10,11] 3 5 4 rfl rfl rfl rfl rfl (by kernel_rfl) ?_;refine hg ?_;exact sS
 . clear h;refine hg1 @wrd5 ?_;refine vdi (fun hlt _=>?_) (fun hlt _=>by exfalso;omega);refine hg ?_
   repeat' first | refine hF ?_ ?_<;>intros | refine hI ?_
   refine ⟨6,by decide,by decide,?_⟩;refine StH.back [0,2,3,4,10,11] 3 5 4 rfl rfl rfl rfl rfl (by kernel_rfl) ?_;refine hg ?_;exact sS
 . clear h;refine hg1 @wrd6 ?_;refine vdi (fun hlt _=>?_) (fun hlt _=>by exfalso;omega);refine hg ?_
   repeat' first | refine hF ?_ ?_<;>intros | refine hI ?_
   refine ⟨7,by decide,by decide,?_⟩;refine StH.back [0,2,3,4,10,11] 3 5 4 rfl rfl rfl rfl rfl (by kernel_rfl) ?_;refine hg ?_;exact sS
 . clear h;refine hg1 @wrd7 ?_;refine vdi (fun hlt _=>?_) (fun hlt _=>by exfalso;omega);refine hg ?_
   repeat' first | refine hF ?_ ?_<;>intros | refine hI ?_
   refine ⟨8,by decide,by decide,?_⟩;refine StH.back [0,2,3,4,10,11] 3 5 4 rfl rfl rfl rfl rfl (by kernel_rfl) ?_;refine hg ?_;exact sS
 . clear h;refine hg1 @wrd8 ?_;refine vdi (fun hlt _=>?_) (fun hlt _=>by exfalso;omega);refine hg ?_
   repeat' first | refine hF ?_ ?_<;>intros | refine hI ?_
   refine ⟨9,by decide,by decide,?_⟩;refine StH.back [0,2,3,4,10,11] 3 5 4 rfl rfl rfl rfl rfl (by kernel_rfl) ?_;refine hg ?_;exact sS
 refine hg1 @wrd9 ?_;refine vdi (fun hlt _=>by exfalso;omega) (fun hlt _=>?_);refine hg ?_
 repeat' first | refine hF ?_ ?_<;>intros | refine hI ?_
 obtain rfl | rfl | rfl | rfl | rfl | rfl | rfl | rfl | rfl:k=0\/k=1\/k=2\/k=3\/k=4\/k=5\/k=6\/k=7\/k=8:=by omega
 . try dsimp only at h
   obtain ⟨⟨o,i2⟩,h1,h⟩:=Option.bind_eq_some_iff.1 h
   try dsimp only at h1 h
   obtain ⟨i3,h2,h⟩:=Option.bind_eq_some_iff.1 h
   try dsimp only at h2 h
   obtain ⟨⟨m,i4⟩,h3,h⟩:=Option.bind_eq_some_iff.1 h
   try dsimp only at h3 h
   obtain ⟨i6,h5,h⟩:=Option.map_eq_some_iff.1 h
   try dsimp only at h5 h
   have c1:=xq8 (Γ:=Γ) hl h1;have c2:=wlh (Γ:=Γ) hl h2;have c3:=xq8 (Γ:=Γ) hl h3;have c5:=wlh (Γ:=Γ) hl h5
   try simp only [Prod.mk.injEq] at h
   obtain ⟨rfl,rfl⟩:=h
   try clear h1
   try clear h2
   try clear h3
   try clear h4
   try clear h5
   refine xjs [0] (cw 0 rfl) rfl rfl rfl (by decide) rfl rfl rfl ?_;clear cw;refine hg4 @dzB.eq_def @dzS.eq_def @decide_true @decide_false ?_
   repeat' first | refine hF ?_ ?_<;>intros | refine hI ?_
   refine xdg [0] c1 rfl (by decide) rfl rfl rfl ?_;refine hg2 @decide_true @decide_false ?_
   repeat' first | refine hF ?_ ?_<;>intros | refine hI ?_
   refine xdg [0] c2 rfl (by decide) rfl rfl rfl ?_;refine hg2 @decide_true @decide_false ?_
   repeat' first | refine hF ?_ ?_<;>intros | refine hI ?_
   refine xdg [0] c3 rfl (by decide) rfl rfl rfl ?_;refine hg2 @decide_true @decide_false ?_
   repeat' first | refine hF ?_ ?_<;>intros | refine hI ?_
   refine xdg [0] c5 rfl (by decide) rfl rfl rfl ?_;refine hg2 @decide_true @decide_false ?_
   repeat' first | refine hF ?_ ?_<;>intros | refine hI ?_
   exact StH.trans (StH.done 1 rfl (by kernel_rfl) rfl rfl) (StH.same (.cons (stLe _ _ _ _ _ _ (.zcSl _) (.refl _) (.zcSl _)) .nil) rfl)
 . try dsimp only at h
   obtain ⟨⟨o,i2⟩,h1,h⟩:=Option.bind_eq_some_iff.1 h
   try dsimp only at h1 h
   obtain ⟨i3,h2,h⟩:=Option.bind_eq_some_iff.1 h
   try dsimp only at h2 h
   obtain ⟨⟨m,i4⟩,h3,h⟩:=Option.bind_eq_some_iff.1 h
   try dsimp only at h3 h
   obtain ⟨i6,h5,h⟩:=Option.map_eq_some_iff.1 h
   try dsimp only at h5 h
   have c1:=xq8 (Γ:=Γ) hl h1;have c2:=wlh (Γ:=Γ) hl h2;have c3:=xq8 (Γ:=Γ) hl h3;have c5:=wlh (Γ:=Γ) hl h5
   try simp only [Prod.mk.injEq] at h
   obtain ⟨rfl,rfl⟩:=h
   try clear h1
   try clear h2
   try clear h3
   try clear h4
   try clear h5
   refine xjs [0] (cw 1 rfl) rfl rfl rfl (by decide) rfl rfl rfl ?_;clear cw;refine hg4 @dzB.eq_def @dzS.eq_def @decide_true @decide_false ?_
   repeat' first | refine hF ?_ ?_<;>intros | refine hI ?_
   refine xdg [0] c1 rfl (by decide) rfl rfl rfl ?_;refine hg2 @decide_true @decide_false ?_
   repeat' first | refine hF ?_ ?_<;>intros | refine hI ?_
   refine xdg [0] c2 rfl (by decide) rfl rfl rfl ?_;refine hg2 @decide_true @decide_false ?_
   repeat' first | refine hF ?_ ?_<;>intros | refine hI ?_
   refine xdg [0] c3 rfl (by decide) rfl rfl rfl ?_;refine hg2 @decide_true @decide_false ?_
   repeat' first | refine hF ?_ ?_<;>intros | refine hI ?_
   refine xdg [0] c5 rfl (by decide) rfl rfl rfl ?_;refine hg2 @decide_true @decide_false ?_
   repeat' first | refine hF ?_ ?_<;>intros | refine hI ?_
   exact StH.trans (StH.done 1 rfl (by kernel_rfl) rfl rfl) (StH.same (.cons (stLe _ _ _ _ _ _ (.zcSl _) (.refl _) (.zcSl _)) .nil) rfl)
 . try dsimp only at h
   obtain ⟨⟨o,i2⟩,h1,h⟩:=Option.bind_eq_some_iff.1 h
   try dsimp only at h1 h
   obtain ⟨i3,h2,h⟩:=Option.bind_eq_some_iff.1 h
   try dsimp only at h2 h
   obtain ⟨⟨m,i4⟩,h3,h⟩:=Option.bind_eq_some_iff.1 h
   try dsimp only at h3 h
   obtain ⟨⟨a,i5⟩,h4,h⟩:=Option.bind_eq_some_iff.1 h
   try dsimp only at h4 h
   obtain ⟨i6,h5,h⟩:=Option.map_eq_some_iff.1 h
   try dsimp only at h5 h
   have c4:=vku (Γ:=Γ) hl h4;have c1:=xq8 (Γ:=Γ) hl h1;have c2:=wlh (Γ:=Γ) hl h2;have c3:=xq8 (Γ:=Γ) hl h3;have c5:=wlh (Γ:=Γ) hl h5
   try simp only [Prod.mk.injEq] at h
   obtain ⟨rfl,rfl⟩:=h
   try clear h1
   try clear h2
   try clear h3
   try clear h4
   try clear h5
   refine xjs [0] (cw 2 rfl) rfl rfl rfl (by decide) rfl rfl rfl ?_;clear cw;refine hg4 @dzB.eq_def @dzS.eq_def @decide_true @decide_false ?_
   repeat' first | refine hF ?_ ?_<;>intros | refine hI ?_
   refine xdg [0] c1 rfl (by decide) rfl rfl rfl ?_;refine hg2 @decide_true @decide_false ?_
   repeat' first | refine hF ?_ ?_<;>intros | refine hI ?_
   refine xdg [0] c2 rfl (by decide) rfl rfl rfl ?_;refine hg2 @decide_true @decide_false ?_
   repeat' first | refine hF ?_ ?_<;>intros | refine hI ?_
   refine xdg [0] c3 rfl (by decide) rfl rfl rfl ?_;refine hg2 @decide_true @decide_false ?_
   repeat' first | refine hF ?_ ?_<;>intros | refine hI ?_
   refine xdg [0] c4 rfl (by decide) rfl rfl rfl ?_;refine hg2 @decide_true @decide_false ?_
   repeat' first | refine hF ?_ ?_<;>intros | refine hI ?_
   refine xdg [0] c5 rfl (by decide) rfl rfl rfl ?_;refine hg2 @decide_true @decide_false ?_
   repeat' first | refine hF ?_ ?_<;>intros | refine hI ?_
   exact StH.trans (StH.done 1 rfl (by kernel_rfl) rfl rfl) (StH.same (.cons (stLe _ _ _ _ _ _ (.zcSl _) (.refl _) (.zcSl _)) .nil) rfl)
 . try dsimp only at h
   obtain ⟨⟨m,i2⟩,h1,h⟩:=Option.bind_eq_some_iff.1 h
   try dsimp only at h1 h
   obtain ⟨i3,h2,h⟩:=Option.bind_eq_some_iff.1 h
   try dsimp only at h2 h
   obtain ⟨⟨⟨l1,l2⟩,i4⟩,h3,h⟩:=Option.bind_eq_some_iff.1 h
   try dsimp only at h3 h
   obtain ⟨i6,h5,h⟩:=Option.map_eq_some_iff.1 h
   try dsimp only at h5 h
   have c1:=xq8 (Γ:=Γ) hl h1;have c2:=wlh (Γ:=Γ) hl h2;have c3:=wz6 (Γ:=Γ) hl h3;have c5:=wlh (Γ:=Γ) hl h5
   try simp only [Prod.mk.injEq] at h
   obtain ⟨rfl,rfl⟩:=h
   try clear h1
   try clear h2
   try clear h3
   try clear h5
   refine xjs [0] (cw 3 rfl) rfl rfl rfl (by decide) rfl rfl rfl ?_;clear cw;refine hg4 @dzB.eq_def @dzS.eq_def @decide_true @decide_false ?_
   repeat' first | refine hF ?_ ?_<;>intros | refine hI ?_
   refine xdg [0] c1 rfl (by decide) rfl rfl rfl ?_;refine hg2 @decide_true @decide_false ?_
   repeat' first | refine hF ?_ ?_<;>intros | refine hI ?_
   refine xdg [0] c2 rfl (by decide) rfl rfl rfl ?_;refine hg2 @decide_true @decide_false ?_
   repeat' first | refine hF ?_ ?_<;>intros | refine hI ?_
   refine xdg [0] c3 rfl (by decide) rfl rfl rfl ?_;refine hg2 @decide_true @decide_false ?_
   repeat' first | refine hF ?_ ?_<;>intros | refine hI ?_
   refine xdg [0] c5 rfl (by decide) rfl rfl rfl ?_;refine hg2 @decide_true @decide_false ?_
   repeat' first | refine hF ?_ ?_<;>intros | refine hI ?_
   exact StH.trans (StH.done 1 rfl (by kernel_rfl) rfl rfl) (StH.same (.cons (stLe _ _ _ _ _ _ (.refl _) (.refl _) (.refl _)) .nil) rfl)
 . try dsimp only at h
   obtain ⟨⟨⟨l1,l2⟩,i2⟩,h1,h⟩:=Option.bind_eq_some_iff.1 h
   try dsimp only at h1 h
   obtain ⟨i3,h2,h⟩:=Option.bind_eq_some_iff.1 h
   try dsimp only at h2 h
   obtain ⟨⟨o,i4⟩,h3,h⟩:=Option.bind_eq_some_iff.1 h
   try dsimp only at h3 h
   obtain ⟨i6,h5,h⟩:=Option.map_eq_some_iff.1 h
   try dsimp only at h5 h
   have c1:=y5y (Γ:=Γ) hl h1;have c2:=wlh (Γ:=Γ) hl h2;have c3:=xq8 (Γ:=Γ) hl h3;have c5:=wlh (Γ:=Γ) hl h5
   try simp only [Prod.mk.injEq] at h
   obtain ⟨rfl,rfl⟩:=h
   try clear h1
   try clear h2
   try clear h3
   try clear h5
   refine xjs [0] (cw 4 rfl) rfl rfl rfl (by decide) rfl rfl rfl ?_;clear cw;refine hg4 @dzB.eq_def @dzS.eq_def @decide_true @decide_false ?_
   repeat' first | refine hF ?_ ?_<;>intros | refine hI ?_
   refine xdg [0] c1 rfl (by decide) rfl rfl rfl ?_;refine hg2 @decide_true @decide_false ?_
   repeat' first | refine hF ?_ ?_<;>intros | refine hI ?_
   refine xdg [0] c2 rfl (by decide) rfl rfl rfl ?_;refine hg2 @decide_true @decide_false ?_
   repeat' first | refine hF ?_ ?_<;>intros | refine hI ?_
   refine xdg [0] c3 rfl (by decide) rfl rfl rfl ?_;refine hg2 @decide_true @decide_false ?_
   repeat' first | refine hF ?_ ?_<;>intros | refine hI ?_
   refine xdg [0] c5 rfl (by decide) rfl rfl rfl ?_;refine hg2 @decide_true @decide_false ?_
   repeat' first | refine hF ?_ ?_<;>intros | refine hI ?_
   exact StH.trans (StH.done 1 rfl (by kernel_rfl) rfl rfl) (StH.same (.cons (stLe _ _ _ _ _ _ (.refl _) (.refl _) (.zcSl _)) .nil) rfl)
 . try dsimp only at h
   obtain ⟨⟨m,i2⟩,h1,h⟩:=Option.bind_eq_some_iff.1 h
   try dsimp only at h1 h
   obtain ⟨i3,h2,h⟩:=Option.bind_eq_some_iff.1 h
   try dsimp only at h2 h
   obtain ⟨⟨o,i4⟩,h3,h⟩:=Option.bind_eq_some_iff.1 h
   try dsimp only at h3 h
   obtain ⟨i6,h5,h⟩:=Option.map_eq_some_iff.1 h
   try dsimp only at h5 h
   have c1:=xq8 (Γ:=Γ) hl h1;have c2:=wlh (Γ:=Γ) (t:=wTo) hl h2;have c3:=xq8 (Γ:=Γ) hl h3;have c5:=wlh (Γ:=Γ) hl h5
   try simp only [Prod.mk.injEq] at h
   obtain ⟨rfl,rfl⟩:=h
   try clear h1
   try clear h2
   try clear h3
   try clear h4
   try clear h5
   refine xjs [0] (cw 5 rfl) rfl rfl rfl (by decide) rfl rfl rfl ?_;clear cw;refine hg4 @dzB.eq_def @dzS.eq_def @decide_true @decide_false ?_
   repeat' first | refine hF ?_ ?_<;>intros | refine hI ?_
   refine xdg [0] c1 rfl (by decide) rfl rfl rfl ?_;refine hg2 @decide_true @decide_false ?_
   repeat' first | refine hF ?_ ?_<;>intros | refine hI ?_
   refine xdg [0] c2 rfl (by decide) rfl rfl rfl ?_;refine hg2 @decide_true @decide_false ?_
   repeat' first | refine hF ?_ ?_<;>intros | refine hI ?_
   refine xdg [0] c3 rfl (by decide) rfl rfl rfl ?_;refine hg2 @decide_true @decide_false ?_
   repeat' first | refine hF ?_ ?_<;>intros | refine hI ?_
   refine xdg [0] c5 rfl (by decide) rfl rfl rfl ?_;refine hg2 @decide_true @decide_false ?_
   repeat' first | refine hF ?_ ?_<;>intros | refine hI ?_
   exact StH.trans (StH.done 1 rfl (by kernel_rfl) rfl rfl) (StH.same (.cons (stLe _ _ _ _ _ _ (.refl _) (.zcSl _) (.zcSl _)) .nil) rfl)
 . try dsimp only at h
   obtain ⟨⟨m,i2⟩,h1,h⟩:=Option.bind_eq_some_iff.1 h
   try dsimp only at h1 h
   obtain ⟨i3,h2,h⟩:=Option.bind_eq_some_iff.1 h
   try dsimp only at h2 h
   obtain ⟨⟨o,i4⟩,h3,h⟩:=Option.bind_eq_some_iff.1 h
   try dsimp only at h3 h
   obtain ⟨⟨a,i5⟩,h4,h⟩:=Option.bind_eq_some_iff.1 h
   try dsimp only at h4 h
   obtain ⟨i6,h5,h⟩:=Option.map_eq_some_iff.1 h
   try dsimp only at h5 h
   have c4:=vku (Γ:=Γ) hl h4;have c1:=xq8 (Γ:=Γ) hl h1;have c2:=wlh (Γ:=Γ) (t:=wTo) hl h2;have c3:=xq8 (Γ:=Γ) hl h3;have c5:=wlh (Γ:=Γ) hl h5
   try simp only [Prod.mk.injEq] at h
   obtain ⟨rfl,rfl⟩:=h
   try clear h1
   try clear h2
   try clear h3
   try clear h4
   try clear h5
   refine xjs [0] (cw 6 rfl) rfl rfl rfl (by decide) rfl rfl rfl ?_;clear cw;refine hg4 @dzB.eq_def @dzS.eq_def @decide_true @decide_false ?_
   repeat' first | refine hF ?_ ?_<;>intros | refine hI ?_
   refine xdg [0] c1 rfl (by decide) rfl rfl rfl ?_;refine hg2 @decide_true @decide_false ?_
   repeat' first | refine hF ?_ ?_<;>intros | refine hI ?_
   refine xdg [0] c2 rfl (by decide) rfl rfl rfl ?_;refine hg2 @decide_true @decide_false ?_
   repeat' first | refine hF ?_ ?_<;>intros | refine hI ?_
   refine xdg [0] c3 rfl (by decide) rfl rfl rfl ?_;refine hg2 @decide_true @decide_false ?_
   repeat' first | refine hF ?_ ?_<;>intros | refine hI ?_
   refine xdg [0] c4 rfl (by decide) rfl rfl rfl ?_;refine hg2 @decide_true @decide_false ?_
   repeat' first | refine hF ?_ ?_<;>intros | refine hI ?_
   refine xdg [0] c5 rfl (by decide) rfl rfl rfl ?_;refine hg2 @decide_true @decide_false ?_
   repeat' first | refine hF ?_ ?_<;>intros | refine hI ?_
   exact StH.trans (StH.done 1 rfl (by kernel_rfl) rfl rfl) (StH.same (.cons (stLe _ _ _ _ _ _ (.refl _) (.zcSl _) (.zcSl _)) .nil) rfl)
 . try dsimp only at h
   obtain ⟨⟨m,i2⟩,h1,h⟩:=Option.bind_eq_some_iff.1 h
   try dsimp only at h1 h
   obtain ⟨i3,h2,h⟩:=Option.bind_eq_some_iff.1 h
   try dsimp only at h2 h
   obtain ⟨⟨o,i4⟩,h3,h⟩:=Option.bind_eq_some_iff.1 h
   try dsimp only at h3 h
   obtain ⟨i6,h5,h⟩:=Option.map_eq_some_iff.1 h
   try dsimp only at h5 h
   have c1:=xq8 (Γ:=Γ) hl h1;have c2:=wlh (Γ:=Γ) (t:=wAs) hl h2;have c3:=xq8 (Γ:=Γ) hl h3;have c5:=wlh (Γ:=Γ) hl h5
   try simp only [Prod.mk.injEq] at h
   obtain ⟨rfl,rfl⟩:=h
   try clear h1
   try clear h2
   try clear h3
   try clear h4
   try clear h5
   refine xjs [0] (cw 7 rfl) rfl rfl rfl (by decide) rfl rfl rfl ?_;clear cw;refine hg4 @dzB.eq_def @dzS.eq_def @decide_true @decide_false ?_
   repeat' first | refine hF ?_ ?_<;>intros | refine hI ?_
   refine xdg [0] c1 rfl (by decide) rfl rfl rfl ?_;refine hg2 @decide_true @decide_false ?_
   repeat' first | refine hF ?_ ?_<;>intros | refine hI ?_
   refine xdg [0] c2 rfl (by decide) rfl rfl rfl ?_;refine hg2 @decide_true @decide_false ?_
   repeat' first | refine hF ?_ ?_<;>intros | refine hI ?_
   refine xdg [0] c3 rfl (by decide) rfl rfl rfl ?_;refine hg2 @decide_true @decide_false ?_
   repeat' first | refine hF ?_ ?_<;>intros | refine hI ?_
   refine xdg [0] c5 rfl (by decide) rfl rfl rfl ?_;refine hg2 @decide_true @decide_false ?_
   repeat' first | refine hF ?_ ?_<;>intros | refine hI ?_
   exact StH.trans (StH.done 1 rfl (by kernel_rfl) rfl rfl) (StH.same (.cons (stLe _ _ _ _ _ _ (.refl _) (.zcSl _) (.zcSl _)) .nil) rfl)
 . try dsimp only at h
   obtain ⟨⟨m,i2⟩,h1,h⟩:=Option.bind_eq_some_iff.1 h
   try dsimp only at h1 h
   obtain ⟨i6,h5,h⟩:=Option.map_eq_some_iff.1 h
   try dsimp only at h5 h
   have c1:=xq8 (Γ:=Γ) hl h1;have c5:=wlh (Γ:=Γ) hl h5
   try simp only [Prod.mk.injEq] at h
   obtain ⟨rfl,rfl⟩:=h
   try clear h1
   try clear h5
   refine xjs [0] (cw 8 rfl) rfl rfl rfl (by decide) rfl rfl rfl ?_;clear cw;refine hg4 @dzB.eq_def @dzS.eq_def @decide_true @decide_false ?_
   repeat' first | refine hF ?_ ?_<;>intros | refine hI ?_
   refine xdg [0] c1 rfl (by decide) rfl rfl rfl ?_;refine hg2 @decide_true @decide_false ?_
   repeat' first | refine hF ?_ ?_<;>intros | refine hI ?_
   refine xdg [0] c5 rfl (by decide) rfl rfl rfl ?_;refine hg2 @decide_true @decide_false ?_
   repeat' first | refine hF ?_ ?_<;>intros | refine hI ?_
   exact StH.trans (StH.done 1 rfl (by kernel_rfl) rfl rfl) (StH.same (.cons (stLe _ _ _ _ _ _ (.refl _) (.zcSl _) (.zcSl _)) .nil) rfl)
end Go.Hp.T
