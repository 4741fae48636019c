/- The proof, part Q26: Px, Py, Ne, 5a, Is, 5b, Nf. -/
import Derived.Test.YtkbkjjahlafhoaaGreatDoorQ17
import Derived.Test.YtkbkjjahlafhoaaGreatDoorQ25
import Derived.Test.YtkbkjjahlafhoaaGreatDoorQ23
import Derived.Test.YtkbkjjahlafhoaaGreatDoorQ21
namespace Go.Hp
open Go Go.RowKit Go.Slot
variable {P:Program} {Γ:List (Nat×List Cell)}
theorem xty.ofRH {G:List (Nat×List GhH)} {e:List SB} {c:Code} {J σ0:List SV} {η η0:List SB} (h:RH Γ P e G c true (fun ex _ J' η'=>ex=.normal/\J'=σ0/\η'=η0) (vxk J) η):xty Γ P e c (fun ex J η'=>ex=.normal/\J=σ0/\η'=η0) J η:=by
 rw [wwh] at h;exact (RH.sound c true _ _ _ h).mono (fun ex J η1 ⟨_,h⟩=>h)
end Go.Hp
namespace Go.Hp.T
open Go Go.RowKit Go.Slot Go.Hp Go.Slot.T
open Go.Proofs.Tryz
variable {L:List Tk}
attribute [local irreducible] hide RH
set_option maxRecDepth 10000
set_option maxHeartbeats 8000000
variable {Γ:List (Nat×List Cell)}
def Sht.C (s:Sht):List Cell:=[cS s.name,.sl 6 (s.imports.map Imp.C),.sl 3 (s.inputs.map Inp.C),.sl 3 (s.tables.map Tb.C),.sl 7 (s.funcs.map Fnc.C),.sl 7 (s.cells.map Cel.C),.sl 3 (s.ports.map Por.C),.sl 3 (s.stores.map Sto.C),.sl 2 (s.recipes.map Rcp.C)]
abbrev shtC (s:Sht):List Cell:=[cS s.name,.sl 6 (s.imports.map Imp.C),.sl 3 (s.inputs.map Inp.C),.sl 3 (s.tables.map Tb.C),.sl 7 (s.funcs.map Fnc.C),.sl 7 (s.cells.map Cel.C),.sl 3 (s.ports.map Por.C),.sl 3 (s.stores.map Sto.C),.sl 2 (s.recipes.map Rcp.C)]
theorem Sht.C_eq (s:Sht):s.C=shtC s:=rfl
attribute [go_sem] Sht.C_eq
def Sht.sz (s:Sht):Nat:=s.imports.length+s.inputs.length+s.tables.length+s.funcs.length+s.cells.length+s.ports.length+s.stores.length+s.recipes.length
theorem vfn {e η η':List SB} {l sl:List SV} {avs:List AV} {bs:List Nat} {J':List SV} (m:Nat) (h:y7w η l=some (avs,bs)) (hs:xo6 avs=some sl) (hm:Nat.ble e.length m=true) (hc:wd9 m [SV.tup sl] (appL (frzE η bs) η)=true) (hσ:[SV.tup sl]=J') (hη:(appL (frzE η bs) η).take m=η') :
 StH Γ e [.tup l] η J' η':=
 StH.trans (StH.frzT h hs) (StH.done m hm hc hσ hη)
def vdy (L:List Tk):Prop:=∀ i k j,yvd L i v69=some (k,j)->k≠2/\k≠3
abbrev wr0:SB:=.box [.dat (cI 0),.dat (cI 0)] (some 195)
abbrev rdBs (L:List Tk) (s:Sht) (j:Nat):List SB:=[rdS L j,shB s.name 3 4 5 6 7 8 9 10 s.imports.length s.inputs.length s.tables.length s.funcs.length s.cells.length s.ports.length s.stores.length s.recipes.length,wr0,shA1 (s.imports.map Imp.C),shA2 (s.inputs.map Inp.C),shA3 (s.tables.map Tb.C),shA4 (s.funcs.map Fnc.C),shA5 (s.cells.map Cel.C),shA6 (s.ports.map Por.C),shA7 (s.stores.map Sto.C),shA8 (s.recipes.map Rcp.C)]
theorem zck {s:Sht} {j:Nat}:y7w (rdBs L s j) [.agg [.dat (cS s.name),.sl 3 6 0 s.imports.length,.sl 4 3 0 s.inputs.length,.sl 5 3 0 s.tables.length,.sl 6 7 0 s.funcs.length,.sl 7 7 0 s.cells.length,.sl 8 3 0 s.ports.length,.sl 9 3 0 s.stores.length,.sl 10 2 0 s.recipes.length],.agg [.dat (cI 0),.dat (cI 0)]]=some ([.agg s.C,.agg [cI 0,cI 0]],[3,4,5,6,7,8,9,10]):=by
 simp [y7w,argD,xs7,xf6,gB,rdBs,Cell.esz,Cell.cnt,subC,Sht.C]
theorem zsk {s:Sht} (hl:L.length<=1048576) (ht:∀ a,(L.getD a default).t.size<=1048576) (hp:vdy L) (h:x6j L=some s):xbh Γ prog 111 [rdS L 0] [.one (.ptr 0 0)] [rdS L L.length] (.tup [.agg (s.C.map .dat),.agg [.dat (cI 0),.dat (cI 0)]]):=by
 unfold x6j at h;obtain ⟨i1,h1,h⟩:=Option.bind_eq_some_iff.1 h;obtain ⟨⟨nm,i2⟩,h2,h⟩:=Option.bind_eq_some_iff.1 h;dsimp only at h;obtain ⟨i3,h3,h⟩:=Option.bind_eq_some_iff.1 h;obtain ⟨⟨s',i4⟩,h4,h⟩:=Option.bind_eq_some_iff.1 h;dsimp only at h
 obtain ⟨rfl,rfl⟩:L.length=i4/\s'=s:=by
  by_cases he:i4=L.length
  . rw [decide_eq_true he,cond_true] at h;exact ⟨he.symm,Option.some.inj h⟩
  . rw [decide_eq_false he] at h;cases h
 have c1:=xpq (Γ:=Γ) hl h1;have c2:=xk5 (Γ:=Γ) hl h2;have c3:=xpq (Γ:=Γ) hl h3;clear h h1 h2 h3;refine xbh.ytv [] (σ0:=[.one (.ptr 0 0),.undef,.one (.ptr 1 0),.one (.ptr 2 0)]++List.replicate 29 .undef) (η0:=[rdS L 0,.box [.dat (cS ⟨#[]⟩),.dat .zc,.dat .zc,.dat .zc,.dat .zc,.dat .zc,.dat .zc,.dat .zc,.dat .zc] (some 31),wr0]) Go.Proofs.Tryz.func111 rfl rfl (xty.ofRH (G:=[]) ?_) (w3n (by decide) rfl rfl rfl rfl rfl rfl (fun p q=>wfo p q)) ?_
 . refine hgR ?_;exact rfl
 refine hgR ?_;refine hca [0] c1 ?_;refine hca [0] c2 ?_;refine hca [0] c3 ?_;refine wf5 [0,2,3] (fun _:Sht×Nat×Nat=>[]) (fun x=>rdBs L x.1 x.2.1)
  (fun x=>x.1.sz+x.2.2<=L.length/\xvx L x.2.2 x.1 x.2.1=some (s',L.length)) (fun x=>x.2.2) (⟨nm,[],[],[],[],[],[],[],[]⟩,i3,L.length) ⟨by simp [Sht.sz],h4⟩ ?_ ?_
 . refine hg ?_;refine StH.trans (StH.vhe 1 1 (es:=6) (c:=.sl 6 []) (T:=some 172) rfl rfl rfl (fun r hr=>by cases hr) rfl) ?_;refine hg ?_;refine StH.trans (StH.vhe 1 2 (es:=3) (c:=.sl 3 []) (T:=some 64) rfl rfl rfl (fun r hr=>by cases hr) rfl) ?_;refine hg ?_;refine StH.trans (StH.vhe 1 3 (es:=3) (c:=.sl 3 []) (T:=some 122) rfl rfl rfl (fun r hr=>by cases hr) rfl) ?_;refine hg ?_;refine StH.trans (StH.vhe 1 4 (es:=7) (c:=.sl 7 []) (T:=some 129) rfl rfl rfl (fun r hr=>by cases hr) rfl) ?_;refine hg ?_;refine StH.trans (StH.vhe 1 5 (es:=7) (c:=.sl 7 []) (T:=some 131) rfl rfl rfl (fun r hr=>by cases hr) rfl) ?_;refine hg ?_;refine StH.trans (StH.vhe 1 6 (es:=3) (c:=.sl 3 []) (T:=some 175) rfl rfl rfl (fun r hr=>by cases hr) rfl) ?_;refine hg ?_;refine StH.trans (StH.vhe 1 7 (es:=3) (c:=.sl 3 []) (T:=some 177) rfl rfl rfl (fun r hr=>by cases hr) rfl) ?_;refine hg ?_;refine StH.trans (StH.vhe 1 8 (es:=2) (c:=.sl 2 []) (T:=some 67) rfl rfl rfl (fun r hr=>by cases hr) rfl) ?_;refine hg ?_;exact sS
 rintro ⟨s,k,f⟩ ⟨k1,hf⟩;dsimp only at k1 hf;clear h4
 cases f with
 | zero=>cases hf
 | succ f=>
  rw [xvx] at hf;have ce:=xxk (Γ:=Γ) L k ⟨#[125]⟩ hl;unfold etA at ce
  cases he:etS L k ⟨#[125]⟩ with
  | true=>
   rw [he,cond_true] at hf ce;simp only [Option.some.injEq,Prod.mk.injEq] at hf;obtain ⟨rfl,hk⟩:=hf;rw [hk] at ce;clear he;refine hg ?_;refine hca [0] ce ?_
   repeat' first|refine hF ?_ ?_<;>intros|refine hI ?_
   all_goals try (exfalso;omega)
   exact vfn 1 zck rfl rfl (by kernel_rfl) rfl rfl
  | false=>
   rw [he,cond_false] at hf ce;obtain ⟨⟨s2,k'⟩,hs,hf⟩:=Option.bind_eq_some_iff.1 hf;dsimp only at hf;unfold xa2 at hs;obtain ⟨⟨w,k2⟩,hw,hs⟩:=Option.bind_eq_some_iff.1 hs;have hw8:w<8:=yls hw;have hw23:=hp _ _ _ hw;clear he;unfold Sht.sz at k1
   obtain rfl | rfl | rfl | rfl | rfl | rfl:w=0\/w=1\/w=4\/w=5\/w=6\/w=7:=by omega
   . try dsimp only at hs
     obtain ⟨⟨x,k3⟩,hx,hs⟩:=Option.map_eq_some_iff.1 hs;simp only [Prod.mk.injEq] at hs;obtain ⟨rfl,rfl⟩:=hs;have ci:=vj8 (Γ:=Γ) (s:=s) hl ht (by omega) hw hx;refine hg ?_;refine hca [0] ce ?_;refine hca [0,1,3,4,5,6,7,8,9,10] ci ?_;refine ⟨(_,_,f),⟨?_,hf⟩,by dsimp only;omega,?_⟩
     . unfold Sht.sz;simp only [List.length_append,List.length_singleton];omega
     refine StH.back [0,2,3] 3 11 11 rfl rfl rfl rfl rfl (by kernel_rfl) ?_;refine hg ?_;exact sS
   . try dsimp only at hs
     obtain ⟨⟨x,k3⟩,hx,hs⟩:=Option.map_eq_some_iff.1 hs;simp only [Prod.mk.injEq] at hs;obtain ⟨rfl,rfl⟩:=hs;have ci:=xef (Γ:=Γ) (s:=s) hl ht (by omega) hw hx;refine hg ?_;refine hca [0] ce ?_;refine hca [0,1,3,4,5,6,7,8,9,10] ci ?_;refine ⟨(_,_,f),⟨?_,hf⟩,by dsimp only;omega,?_⟩
     . unfold Sht.sz;simp only [List.length_append,List.length_singleton];omega
     refine StH.back [0,2,3] 4 11 11 rfl rfl rfl rfl rfl (by kernel_rfl) ?_;refine hg ?_;exact sS
   . try dsimp only at hs
     obtain ⟨⟨n,q2⟩,x1,hs⟩:=Option.bind_eq_some_iff.1 hs;obtain ⟨⟨u,q3⟩,x2,hs⟩:=Option.bind_eq_some_iff.1 hs;obtain ⟨⟨y,q4⟩,x3,hs⟩:=Option.map_eq_some_iff.1 hs;simp only [Prod.mk.injEq] at hs;obtain ⟨rfl,rfl⟩:=hs;have ci:=xee (Γ:=Γ) (s:=s) (x:=⟨n,u,y⟩) (j:=q4) hl ht (by omega) hw (by rw [x1];dsimp only [Option.bind_some];rw [x2];dsimp only [Option.bind_some];rw [x3];rfl);refine hg ?_;refine hca [0] ce ?_;refine hca [0,1,3,4,5,6,7,8,9,10] ci ?_;refine ⟨(_,_,f),⟨?_,hf⟩,by dsimp only;omega,?_⟩
     . unfold Sht.sz;simp only [List.length_append,List.length_singleton];omega
     refine StH.back [0,2,3] 7 11 11 rfl rfl rfl rfl rfl (by kernel_rfl) ?_;refine hg ?_;exact sS
   . try dsimp only at hs
     obtain ⟨⟨n,q2⟩,x1,hs⟩:=Option.bind_eq_some_iff.1 hs;obtain ⟨⟨u,q3⟩,x2,hs⟩:=Option.bind_eq_some_iff.1 hs;obtain ⟨⟨y,q4⟩,x3,hs⟩:=Option.bind_eq_some_iff.1 hs;obtain ⟨q5,x4,hs⟩:=Option.map_eq_some_iff.1 hs;simp only [Prod.mk.injEq] at hs;obtain ⟨rfl,rfl⟩:=hs;have ci:=xlk (Γ:=Γ) (s:=s) (x:=⟨n,u,y⟩) (j:=q5) hl ht (by omega) hw (by rw [x1];dsimp only [Option.bind_some];rw [x2];dsimp only [Option.bind_some];rw [x3];dsimp only [Option.bind_some];rw [x4];rfl);refine hg ?_;refine hca [0] ce ?_;refine hca [0,1,3,4,5,6,7,8,9,10] ci ?_;refine ⟨(_,_,f),⟨?_,hf⟩,by dsimp only;omega,?_⟩
     . unfold Sht.sz;simp only [List.length_append,List.length_singleton];omega
     refine StH.back [0,2,3] 8 11 11 rfl rfl rfl rfl rfl (by kernel_rfl) ?_;refine hg ?_;exact sS
   . try dsimp only at hs
     obtain ⟨⟨n,q2⟩,x1,hs⟩:=Option.bind_eq_some_iff.1 hs;obtain ⟨⟨u,q3⟩,x2,hs⟩:=Option.bind_eq_some_iff.1 hs;obtain ⟨⟨y,q4⟩,x3,hs⟩:=Option.bind_eq_some_iff.1 hs;obtain ⟨q5,x4,hs⟩:=Option.map_eq_some_iff.1 hs;simp only [Prod.mk.injEq] at hs;obtain ⟨rfl,rfl⟩:=hs;have ci:=wpq (Γ:=Γ) (s:=s) (x:=⟨n,u,y⟩) (j:=q5) hl ht (by omega) hw (by rw [x1];dsimp only [Option.bind_some];rw [x2];dsimp only [Option.bind_some];rw [x3];dsimp only [Option.bind_some];rw [x4];rfl);refine hg ?_;refine hca [0] ce ?_;refine hca [0,1,3,4,5,6,7,8,9,10] ci ?_;refine ⟨(_,_,f),⟨?_,hf⟩,by dsimp only;omega,?_⟩
     . unfold Sht.sz;simp only [List.length_append,List.length_singleton];omega
     refine StH.back [0,2,3] 9 11 11 rfl rfl rfl rfl rfl (by kernel_rfl) ?_;refine hg ?_;exact sS
   . try dsimp only at hs
     obtain ⟨⟨x,k3⟩,hx,hs⟩:=Option.map_eq_some_iff.1 hs;simp only [Prod.mk.injEq] at hs;obtain ⟨rfl,rfl⟩:=hs;have ci:=y3w (Γ:=Γ) (s:=s) hl ht (by omega) hw hx;refine hg ?_;refine hca [0] ce ?_;refine hca [0,1,3,4,5,6,7,8,9,10] ci ?_;refine ⟨(_,_,f),⟨?_,hf⟩,by dsimp only;omega,?_⟩
     . unfold Sht.sz;simp only [List.length_append,List.length_singleton];omega
     refine StH.back [0,2,3] 10 11 11 rfl rfl rfl rfl rfl (by kernel_rfl) ?_;refine hg ?_;exact sS
end Go.Hp.T
namespace Go.Hp.T
open Go Go.RowKit Go.Slot Go.Hp Go.Slot.T
open Go.Proofs.Tryz
variable {L:List Tk}
attribute [local irreducible] hide RH
set_option maxRecDepth 10000
set_option maxHeartbeats 8000000
variable {Γ:List (Nat×List Cell)}
theorem zaw (s:ByteArray):match yjj s with
 | .inl ts=>ts.length<=4001/\∀ x∈ts,x.t.size<=4401
 | .inr x=>x.2≠0:=by
 unfold yjj;by_cases h4:4000<(s.size:Int)
 . rw [decide_eq_true h4];show (6:Int)≠0;decide
 . rw [decide_eq_false h4,cond_false];have h:=zld (s.size+1) (zcd s) 0;rw [yjp] at h;generalize v8f (s.size+1) (zcd s) 0=r at *
   cases r with
   | inr x=>exact h
   | inl ts=>exact ⟨by have:=h.1;omega,fun x hx=>by have:=h.2 x hx;omega⟩
theorem vzs (L:List Tk):CallsD Γ prog 110 [.one (.sl 4 (L.map Tk.C))] (.one (.sl 4 (L.map Tk.C))):=by
 refine ⟨⟨_,Go.Proofs.Tryz.func110,rfl,rfl⟩,fun M w vs hb _ hr=>?_⟩
 match vs,hr with
 | [v],⟨hv,_⟩=>
 have hv:RdC M w v (.sl 4 (L.map Tk.C)):=hv
 have hu:prog.underlying 191=some (.slice 200):=by kernel_rfl
 have hi:prog.info? 200=some (yd5 prog 200):=by kernel_rfl
 obtain ⟨ad,n,cap,rfl,hn,hc⟩:∃(ad:Option Addr) (n cap:Nat),v=.slice ad n cap/\n<=cap/\∀ ad',(ad'=ad\/ad'=ad.map (·.add 0))->RdC M w (.slice ad' n n) (.sl 4 (L.map Tk.C)):=by
  cases hv with
  | sl b off u hl hc ha hn hm hr=>
   refine ⟨_,_,_,rfl,hc,fun ad' had=>.sl b off u hl (Nat.le_refl _) (fun h=>?_) hn hm hr⟩
   have:=ha h
   subst this
   rcases had with rfl | rfl
   . rfl
   . rfl
 refine calls_of_wp Go.Proofs.Tryz.func110 rfl ?_;apply wp_seq;apply wp_region;simp [wpOps,Region.wanted,Oper.wp,Oper.upon,execOp,Act.put,Act.eval];refine .inl ?_;apply wp_seq;apply wp_region;simp [wpOps,Region.wanted,Oper.wp,Oper.upon,execOp,Act.put,Act.eval,go_sem,hn];refine .inl (.inl (.inl (.inl (.inl (.inl (.inl ?_))))));apply wp_ret;refine ⟨rfl,.slice ad n n,by simp [results,go_sem],.slice ad n n,rfl,xr1 w,hc ad (.inl rfl),fun h=>by cases h⟩
def vst (L:List Tk):Bool:=(List.range L.length).all fun i=>match yvd L i v69 with
 | some (k,_)=>!(k==2)&&!(k==3)
 | none=>true
theorem xfx {i:Nat} {l:List ByteArray} {r:Nat×Nat} (h:yvd L i l=some r):i<L.length:=by
 unfold yvd at h;obtain ⟨k,hf,rfl⟩:=Option.map_eq_some_iff.1 h;rw [List.find?_range_eq_some,Bool.and_eq_true] at hf;exact zh9 hf.1.1
theorem y9o (h:vst L=true):vdy L:=fun i k j hw=>by
 have:=List.all_eq_true.1 h i (List.mem_range.2 (xfx hw))
 rw [hw] at this;simp at this;exact this
def ztg (t:ByteArray) (s:Sht):Prop:=∃ L,yjj t=.inl L/\vst L=true/\x6j L=some s
theorem z8q {t:ByteArray} {s:Sht} (hG:vjd Γ 0=.elt sgC) (hs:t.size<=1073741824) (h:ztg t s) (cr:CallsD Γ prog 22 [.agg (shtC s)] (.one (cB true))):CallsD Γ prog 58 [.one (cS t)] (.tup [.agg (shtC s),.one (cI 0),.one (cI 0)]):=by
 obtain ⟨L,h1,h2,h3⟩:=h;have c:=wqt (Γ:=Γ) t hG hs;have hk:=zaw t;rw [h1] at c hk;unfold snR at c;dsimp only at c hk
 have r:=zsk (Γ:=Γ) (s:=s) (by omega) (fun a=>by
  by_cases h:a<L.length
  . have:=hk.2 _ (z1y h);omega
  . rw [List.getD_eq_getElem?_getD,List.getElem?_eq_none (by omega)];decide) (y9o h2) h3
 have hl:=hk.1;have c2:=vzs (Γ:=Γ) L;clear h1 h2 h3 hk;refine hE [] func58 f58.eq_1 ?_
 repeat' ((with_reducible first|refine wdy c ?_|refine wdy c2 ?_)<;>refine hgS ?_)
 refine hca [1] r ?_
 (with_reducible refine wdy cr ?_)<;>refine hgS ?_
 all_goals try (exfalso;omega)
 exact RLe.ofEq rfl
end Go.Hp.T
namespace Go.Hp.T
open Go Go.RowKit Go.Slot Go.Hp Go.Slot.T
open Go.Proofs.Tryz
attribute [local irreducible] hide RH
set_option maxRecDepth 10000
set_option maxHeartbeats 4000000
variable {Γ:List (Nat×List Cell)}
theorem cTIn (n:Int):CallsD Γ prog 152 [.one (cI n)] (.one (cB (inT n))):=by
 refine hE [] func152 f152.eq_1 ?_
 refine hF ?_ ?_<;>intros
 all_goals refine lf1 @inT.eq_def ?_;first | exact trivial | rfl
theorem w3y (s:ByteArray) (hs:s.size<=1073741824):CallsD Γ prog 151 [.one (cS s)] (.tup [.agg (unX (vup s).1),.one (cI (vup s).2)]):=by
 have:=zb1 (Γ:=Γ) s hs
 rw [yoj] at this;exact this
theorem xlv:(zl7 prog 9 233=some 6)=True:=eq_true (by kernel_rfl)
theorem yve:aggT prog 233=true:=by kernel_rfl
theorem yr7:prog.eqGuardType prog.depth 233=false:=by kernel_rfl
theorem yk5 (a b c d e f:Int):fitT prog 9 233 [.int .i64 a,.int .i64 b,.int .i64 c,.int .i64 d,.int .i64 e,.int .i64 f]=true:=by kernel_rfl
attribute [go_sem] xlv yve yr7 yk5
theorem v1q (t:Tb) (h1:t.name.size<=1073741824) (h2:t.unit.size<=1073741824) (h3:t.rows.length<=1073741824):CallsD Γ prog 102 [.agg (tbC t)] (.one (cB (wzd (fun s=>(vup s).2) t))):=by
 refine hE [] func102 f102.eq_1 ?_
 repeat' first|refine hF ?_ ?_<;>intros|(with_reducible first|refine wdy (w3y t.unit h2) ?_|refine wdy (zhs t.name (by omega)) ?_)<;>refine hgS ?_
 . refine lf1 @wzd.eq_def ?_;first | exact trivial | rfl
 . refine wf5 [1,28,29] (fun i:Nat=>[(30,.one (.dat (cI i)))]) (fun _=>[.box ((tbC t).map .dat) (some 122),.box ((unX (vup t.unit).1).map .dat) (some 235)]) (fun i=>i<=t.rows.length/\∀ j,j<i->rowAt t.rows j=true) (fun i=>t.rows.length-i) 0 ⟨Nat.zero_le _,fun j hj=>by omega⟩ ?_ ?_
   . refine hg ?_;exact sS
   rintro i ⟨hi,hj⟩
   have hbad:rowAt t.rows i=false->i<t.rows.length->wzd (fun s=>(vup s).2) t=false:=fun h h'=>by
    unfold wzd ylr;rw [xds h' h,Bool.and_false]
   refine hg ?_
   repeat' first|refine hF ?_ ?_<;>intros|refine hI ?_|(with_reducible refine y04 (cTIn _) ?_)<;>refine hgS ?_
   all_goals first
    | (rw [hbad (by (refine bs1 @rowAt.eq_def ?_;try exact trivial)) (by omega)];exact RLe.ofEq rfl)
    | (refine ⟨i+1,⟨by omega,yas hj (by (refine bs1 @rowAt.eq_def ?_;try exact trivial))⟩,by omega,StH.back [1,28,29,30] 2 2 2 rfl rfl rfl rfl rfl (by kernel_rfl) (sS)⟩)
    | (refine RLe.ofEq ?_;rw [show wzd (fun s=>(vup s).2) t=true from by unfold wzd ylr;rw [wb0 (fun j hj'=>hj j (by omega))];(refine bsE ?_;try exact trivial)])
 . refine lf1 @wzd.eq_def ?_;first | exact trivial | rfl
 . refine lf1 @wzd.eq_def ?_;first | exact trivial | rfl
theorem vgc {x:Dm}:(decide (x.a=0)&&(decide (x.b=0)&&(decide (x.c=0)&&(decide (x.d=0)&&(decide (x.e=0)&&decide (x.f=0))))))=decide (x=Dm.zero):=v8z (y:=Dm.zero)
attribute [go_sem] vgc
end Go.Hp.T
namespace Go.Hp.T
open Go Go.RowKit Go.Slot Go.Hp Go.Slot.T
open Go.Proofs.Tryz
attribute [local irreducible] hide RH
set_option maxRecDepth 10000
set_option maxHeartbeats 8000000
variable {Γ:List (Nat×List Cell)}
def wtn (s:ByteArray):Bool:=isName s&&!isWord s
def vn0 (s:ByteArray):Bool:=decide ((vup s).2=0)
def amtS (n:Int):Bool:=decide (1<=n)&&decide (n<=1099511627776)
theorem vun (s:ByteArray) (hs:s.size<=1073741824):CallsD Γ prog 51 [.one (cS s)] (.one (cB (wtn s))):=by
 have h1:=zhs (Γ:=Γ) s (by omega);have h2:=ylp (Γ:=Γ) s;unfold wtn;generalize isName s=a at *;generalize isWord s=b at *;refine hE [] func51 f51.eq_1 ?_
 repeat' first|refine hF ?_ ?_<;>intros|(with_reducible first|refine wdy h1 ?_|refine wdy h2 ?_)<;>refine hgS ?_
 all_goals refine lfE ?_;first | exact trivial | rfl
theorem xv5 (s:ByteArray) (hs:s.size<=1073741824):CallsD Γ prog 100 [.one (cS s)] (.one (cB (vn0 s))):=by
 have h1:=w3y (Γ:=Γ) s hs;unfold vn0;generalize vup s=r at *;refine hE [] func100 f100.eq_1 ?_
 (with_reducible refine wdy h1 ?_)<;>refine hgS ?_
 all_goals refine lfE ?_;first | exact trivial | rfl
theorem wlx (n:Int):CallsD Γ prog 101 [.one (cI n)] (.one (cB (amtS n))):=by
 unfold amtS;refine hE [] func101 f101.eq_1 ?_
 refine hF ?_ ?_<;>intros
 all_goals refine lfE ?_;first | exact trivial | rfl
theorem zy3 (l:List ByteArray) (f:FuncId) (p:ByteArray->Bool) (hl:l.length<=1073741824) (h:∀ y∈l,CallsD Γ prog f [.one (cS y)] (.one (cB (p y)))) :
 CallsD Γ prog 166 [.one (.sl 1 (l.map fun s=>[cS s])),fN f] (.one (cI (idxF p l))):=by
 refine hE [] func166 f166.eq_1 ?_;refine wf5 [0,1,7] (fun i:Nat=>[(8,.one (.dat (cI i)))]) (fun _=>[]) (fun i=>i<=l.length/\∀ j,j<i->p (l.getD j default)=false) (fun i=>l.length-i) 0 ⟨Nat.zero_le _,fun j hj=>by omega⟩ ?_ ?_
 . refine hg ?_;exact sS
 intro i hi;obtain ⟨hi,hj⟩:=hi;refine hg ?_
 repeat' first|refine hF ?_ ?_<;>intros|(with_reducible refine wdy (h _ (z1y (show i<l.length by omega))) ?_)<;>refine hgS ?_
 . rename_i hp;rw [(wu8 hi hj).2 (by omega) hp];exact RLe.ofEq rfl
 . rename_i hp;exact ⟨i+1,⟨by omega,yas hj hp⟩,by omega,sS⟩
 . rw [(wu8 hi hj).1 (by omega)];exact RLe.ofEq rfl
theorem vls (l:List ByteArray) (f:FuncId) (p:ByteArray->Bool) (hl:l.length<=1073741824) (h:∀ y∈l,CallsD Γ prog f [.one (cS y)] (.one (cB (p y)))) :
 CallsD Γ prog 128 [.one (.sl 1 (l.map fun s=>[cS s])),fN f] (.one (cB (l.any p))):=by
 refine hE [] func128 f128.eq_1 ?_
 (with_reducible refine wdy (zy3 l f p hl h) ?_)<;>refine hgS ?_
 exact RLe.ofEq (by rw [<-vrj])
theorem zd7 (l:List Stp) (f:FuncId) (p:Stp->Bool) (hl:l.length<=1073741824) (h:∀ y∈l,CallsD Γ prog f [.agg (stpC y)] (.one (cB (p y)))) :
 CallsD Γ prog 106 [.one (.sl 6 (l.map Stp.C)),fN f] (.one (cI (idxF p l))):=by
 refine hE [] func106 f106.eq_1 ?_;refine wf5 [0,1,7] (fun i:Nat=>[(8,.one (.dat (cI i)))]) (fun _=>[]) (fun i=>i<=l.length/\∀ j,j<i->p (l.getD j default)=false) (fun i=>l.length-i) 0 ⟨Nat.zero_le _,fun j hj=>by omega⟩ ?_ ?_
 . refine hg ?_;exact sS
 intro i hi;obtain ⟨hi,hj⟩:=hi;refine hg ?_
 repeat' first|refine hF ?_ ?_<;>intros|(with_reducible refine wdy (h _ (z1y (show i<l.length by omega))) ?_)<;>refine hgS ?_
 . rename_i hp;rw [(wu8 hi hj).2 (by omega) hp];exact RLe.ofEq rfl
 . rename_i hp;exact ⟨i+1,⟨by omega,yas hj hp⟩,by omega,sS⟩
 . rw [(wu8 hi hj).1 (by omega)];exact RLe.ofEq rfl
theorem wzw (l:List Stp) (f:FuncId) (p:Stp->Bool) (hl:l.length<=1073741824) (h:∀ y∈l,CallsD Γ prog f [.agg (stpC y)] (.one (cB (p y)))) :
 CallsD Γ prog 55 [.one (.sl 6 (l.map Stp.C)),fN f] (.one (cB (l.any p))):=by
 refine hE [] func55 f55.eq_1 ?_
 (with_reducible refine wdy (zd7 l f p hl h) ?_)<;>refine hgS ?_
 exact RLe.ofEq (by rw [<-vrj])
theorem zb9 (l:List Prm) (f:FuncId) (p:Prm->Bool) (hl:l.length<=1073741824) (h:∀ y∈l,CallsD Γ prog f [.agg (prmC y)] (.one (cB (p y)))) :
 CallsD Γ prog 153 [.one (.sl 2 (l.map Prm.C)),fN f] (.one (cI (idxF p l))):=by
 refine hE [] func153 f153.eq_1 ?_;refine wf5 [0,1,7] (fun i:Nat=>[(8,.one (.dat (cI i)))]) (fun _=>[]) (fun i=>i<=l.length/\∀ j,j<i->p (l.getD j default)=false) (fun i=>l.length-i) 0 ⟨Nat.zero_le _,fun j hj=>by omega⟩ ?_ ?_
 . refine hg ?_;exact sS
 intro i hi;obtain ⟨hi,hj⟩:=hi;refine hg ?_
 repeat' first|refine hF ?_ ?_<;>intros|(with_reducible refine wdy (h _ (z1y (show i<l.length by omega))) ?_)<;>refine hgS ?_
 . rename_i hp;rw [(wu8 hi hj).2 (by omega) hp];exact RLe.ofEq rfl
 . rename_i hp;exact ⟨i+1,⟨by omega,yas hj hp⟩,by omega,sS⟩
 . rw [(wu8 hi hj).1 (by omega)];exact RLe.ofEq rfl
theorem woj (l:List Prm) (f:FuncId) (p:Prm->Bool) (hl:l.length<=1073741824) (h:∀ y∈l,CallsD Γ prog f [.agg (prmC y)] (.one (cB (p y)))) :
 CallsD Γ prog 103 [.one (.sl 2 (l.map Prm.C)),fN f] (.one (cB (l.any p))):=by
 refine hE [] func103 f103.eq_1 ?_
 (with_reducible refine wdy (zb9 l f p hl h) ?_)<;>refine hgS ?_
 exact RLe.ofEq (by rw [<-vrj])
def wg4 (l:List ByteArray) (lo hi:Int):Bool:=decide (lo<=l.length)&&decide ((l.length:Int)<=hi)&&!l.any fun s=>!wtn s
theorem yrm (s:ByteArray) (hs:s.size<=1073741824):CallsD Γ prog 156 [.one (cS s)] (.one (cB (!wtn s))):=by
 have h1:=vun (Γ:=Γ) s hs;refine hE [] func156 f156.eq_1 ?_
 (with_reducible refine wdy h1 ?_)<;>refine hgS ?_
 all_goals refine lfE ?_;first | exact trivial | rfl
theorem x9c (l:List ByteArray) (lo hi:Int) (hl:l.length<=1073741824) (hs:∀ y∈l,y.size<=1073741824):CallsD Γ prog 108 [.one (zjy l),.one (cI lo),.one (cI hi)] (.one (cB (wg4 l lo hi))):=by
 have h1:=vls (Γ:=Γ) l 156 (fun s=>!wtn s) hl (fun y hy=>yrm y (hs y hy));unfold wg4;generalize (l.any fun s=>!wtn s)=b at *;refine hE [] func108 f108.eq_1 ?_
 repeat' first|refine hF ?_ ?_<;>intros|(with_reducible refine wdy h1 ?_)<;>refine hgS ?_
 all_goals refine lfE ?_;first | exact trivial | rfl
structure Shp where
 i0:Int
 i1:Int
 o0:Int
 o1:Int
 n:Bool
 c:Bool
 a:Bool
def x2z (k:Int):Shp:=
 bif decide (k=0)||decide (k=1) then ⟨0,0,1,1,true,false,false⟩ else
 bif decide (k=2) then ⟨0,0,1,1,true,false,true⟩ else
 bif decide (k=3) then ⟨1,1,1,100,false,true,false⟩ else
 bif decide (k=4) then ⟨1,100,1,1,false,false,false⟩ else
 bif decide (k=5)||decide (k=7) then ⟨1,1,0,0,true,false,false⟩ else
 bif decide (k=6) then ⟨1,1,0,0,true,false,true⟩ else ⟨1,1,0,0,false,false,false⟩
def y96 (s:Shp) (x:Stp):Bool:=wg4 x.inn s.i0 s.i1&&(wg4 x.out s.o0 s.o1&&(bif s.c then wg4 x.cells x.out.length x.out.length else wg4 x.cells 0 0))&&
 (bif s.n then wtn x.name else seq x.name ⟨#[]⟩)&&(bif s.a then amtS x.amount else decide (x.amount=0))
def xn0 (x:Stp):Bool:=decide (0<=x.kind)&&decide (x.kind<9)&&y96 (x2z x.kind) x
structure Stp.Sm (x:Stp):Prop where
 il:x.inn.length<=1073741824
 ol:x.out.length<=1073741824
 cl:x.cells.length<=1073741824
 i:∀ y∈x.inn,y.size<=1073741824
 o:∀ y∈x.out,y.size<=1073741824
 c:∀ y∈x.cells,y.size<=1073741824
 n:x.name.size<=1073741824
theorem y5o (x:Stp) (hx:x.Sm):CallsD Γ prog 57 [.agg (stpC x)] (.one (cB (xn0 x))):=by
 obtain ⟨k,inn,out,nm,cells,amt⟩:=x
 have hi:=fun a b=>x9c (Γ:=Γ) inn a b hx.il hx.i
 have ho:=fun a b=>x9c (Γ:=Γ) out a b hx.ol hx.o
 have hc:=fun a b=>x9c (Γ:=Γ) cells a b hx.cl hx.c
 have hn:=vun (Γ:=Γ) nm hx.n;have ha:=wlx (Γ:=Γ) amt;have hol:=hx.ol;have hz:((0:Nat):Int)=0:=rfl;clear hx;dsimp only at *;by_cases hk:0<=k/\k<9
 . obtain rfl | rfl | rfl | rfl | rfl | rfl | rfl | rfl | rfl:k=0\/k=1\/k=2\/k=3\/k=4\/k=5\/k=6\/k=7\/k=8:=by omega
   . have h1:=hi 0 0;have h2:=ho 1 1;have h3:=hc 0 0;have e:xn0 ⟨0,inn,out,nm,cells,amt⟩=(wg4 inn 0 0&&(wg4 out 1 1&&wg4 cells 0 0)&&wtn nm&&decide (amt=0)):=rfl;rw [e];clear e hi ho hc hk;generalize wg4 inn 0 0=b1 at *;generalize wg4 out 1 1=b2 at *;generalize wg4 cells 0 0=b3 at *;generalize wtn nm=b4 at *;clear ha;refine hE [] func57 f57.eq_1 ?_
     repeat' first|refine hF ?_ ?_<;>intros|refine hI ?_|(with_reducible first|refine y04 v85 ?_|refine wdy h1 ?_|refine wdy h2 ?_|refine wdy h3 ?_|refine wdy hn ?_)<;>refine hgS ?_
     all_goals refine lfE ?_;first | exact trivial | rfl
   . have h1:=hi 0 0;have h2:=ho 1 1;have h3:=hc 0 0;have e:xn0 ⟨1,inn,out,nm,cells,amt⟩=(wg4 inn 0 0&&(wg4 out 1 1&&wg4 cells 0 0)&&wtn nm&&decide (amt=0)):=rfl;rw [e];clear e hi ho hc hk;generalize wg4 inn 0 0=b1 at *;generalize wg4 out 1 1=b2 at *;generalize wg4 cells 0 0=b3 at *;generalize wtn nm=b4 at *;clear ha;refine hE [] func57 f57.eq_1 ?_
     repeat' first|refine hF ?_ ?_<;>intros|refine hI ?_|(with_reducible first|refine y04 v85 ?_|refine wdy h1 ?_|refine wdy h2 ?_|refine wdy h3 ?_|refine wdy hn ?_)<;>refine hgS ?_
     all_goals refine lfE ?_;first | exact trivial | rfl
   . have h1:=hi 0 0;have h2:=ho 1 1;have h3:=hc 0 0;have e:xn0 ⟨2,inn,out,nm,cells,amt⟩=(wg4 inn 0 0&&(wg4 out 1 1&&wg4 cells 0 0)&&wtn nm&&amtS amt):=rfl;rw [e];clear e hi ho hc hk;generalize wg4 inn 0 0=b1 at *;generalize wg4 out 1 1=b2 at *;generalize wg4 cells 0 0=b3 at *;generalize wtn nm=b4 at *;generalize amtS amt=b5 at *;refine hE [] func57 f57.eq_1 ?_
     repeat' first|refine hF ?_ ?_<;>intros|refine hI ?_|(with_reducible first|refine y04 v85 ?_|refine wdy h1 ?_|refine wdy h2 ?_|refine wdy h3 ?_|refine wdy hn ?_|refine wdy ha ?_)<;>refine hgS ?_
     all_goals refine lfE ?_;first | exact trivial | rfl
   . have h1:=hi 1 1;have h2:=ho 1 100;have h3:=hc out.length out.length;have e:xn0 ⟨3,inn,out,nm,cells,amt⟩=(wg4 inn 1 1&&(wg4 out 1 100&&wg4 cells out.length out.length)&&seq nm ⟨#[]⟩&&decide (amt=0)):=rfl;rw [e];clear e hi ho hc hk;generalize wg4 inn 1 1=b1 at *;generalize wg4 out 1 100=b2 at *;generalize wg4 cells out.length out.length=b3 at *;clear hn;clear ha;refine hE [] func57 f57.eq_1 ?_
     repeat' first|refine hF ?_ ?_<;>intros|refine hI ?_|(with_reducible first|refine y04 v85 ?_|refine wdy h1 ?_|refine wdy h2 ?_|refine wdy h3 ?_)<;>refine hgS ?_
     all_goals try simp only [Decidable.not_not] at *
     all_goals refine lfE ?_;first | exact trivial | rfl
   . have h1:=hi 1 100;have h2:=ho 1 1;have h3:=hc 0 0;have e:xn0 ⟨4,inn,out,nm,cells,amt⟩=(wg4 inn 1 100&&(wg4 out 1 1&&wg4 cells 0 0)&&seq nm ⟨#[]⟩&&decide (amt=0)):=rfl;rw [e];clear e hi ho hc hk;generalize wg4 inn 1 100=b1 at *;generalize wg4 out 1 1=b2 at *;generalize wg4 cells 0 0=b3 at *;clear hn;clear ha;refine hE [] func57 f57.eq_1 ?_
     repeat' first|refine hF ?_ ?_<;>intros|refine hI ?_|(with_reducible first|refine y04 v85 ?_|refine wdy h1 ?_|refine wdy h2 ?_|refine wdy h3 ?_)<;>refine hgS ?_
     all_goals try simp only [Decidable.not_not] at *
     all_goals refine lfE ?_;first | exact trivial | rfl
   . have h1:=hi 1 1;have h2:=ho 0 0;have h3:=hc 0 0;have e:xn0 ⟨5,inn,out,nm,cells,amt⟩=(wg4 inn 1 1&&(wg4 out 0 0&&wg4 cells 0 0)&&wtn nm&&decide (amt=0)):=rfl;rw [e];clear e hi ho hc hk;generalize wg4 inn 1 1=b1 at *;generalize wg4 out 0 0=b2 at *;generalize wg4 cells 0 0=b3 at *;generalize wtn nm=b4 at *;clear ha;refine hE [] func57 f57.eq_1 ?_
     repeat' first|refine hF ?_ ?_<;>intros|refine hI ?_|(with_reducible first|refine y04 v85 ?_|refine wdy h1 ?_|refine wdy h2 ?_|refine wdy h3 ?_|refine wdy hn ?_)<;>refine hgS ?_
     all_goals refine lfE ?_;first | exact trivial | rfl
   . have h1:=hi 1 1;have h2:=ho 0 0;have h3:=hc 0 0;have e:xn0 ⟨6,inn,out,nm,cells,amt⟩=(wg4 inn 1 1&&(wg4 out 0 0&&wg4 cells 0 0)&&wtn nm&&amtS amt):=rfl;rw [e];clear e hi ho hc hk;generalize wg4 inn 1 1=b1 at *;generalize wg4 out 0 0=b2 at *;generalize wg4 cells 0 0=b3 at *;generalize wtn nm=b4 at *;generalize amtS amt=b5 at *;refine hE [] func57 f57.eq_1 ?_
     repeat' first|refine hF ?_ ?_<;>intros|refine hI ?_|(with_reducible first|refine y04 v85 ?_|refine wdy h1 ?_|refine wdy h2 ?_|refine wdy h3 ?_|refine wdy hn ?_|refine wdy ha ?_)<;>refine hgS ?_
     all_goals refine lfE ?_;first | exact trivial | rfl
   . have h1:=hi 1 1;have h2:=ho 0 0;have h3:=hc 0 0;have e:xn0 ⟨7,inn,out,nm,cells,amt⟩=(wg4 inn 1 1&&(wg4 out 0 0&&wg4 cells 0 0)&&wtn nm&&decide (amt=0)):=rfl;rw [e];clear e hi ho hc hk;generalize wg4 inn 1 1=b1 at *;generalize wg4 out 0 0=b2 at *;generalize wg4 cells 0 0=b3 at *;generalize wtn nm=b4 at *;clear ha;refine hE [] func57 f57.eq_1 ?_
     repeat' first|refine hF ?_ ?_<;>intros|refine hI ?_|(with_reducible first|refine y04 v85 ?_|refine wdy h1 ?_|refine wdy h2 ?_|refine wdy h3 ?_|refine wdy hn ?_)<;>refine hgS ?_
     all_goals refine lfE ?_;first | exact trivial | rfl
   . have h1:=hi 1 1;have h2:=ho 0 0;have h3:=hc 0 0;have e:xn0 ⟨8,inn,out,nm,cells,amt⟩=(wg4 inn 1 1&&(wg4 out 0 0&&wg4 cells 0 0)&&seq nm ⟨#[]⟩&&decide (amt=0)):=rfl;rw [e];clear e hi ho hc hk;generalize wg4 inn 1 1=b1 at *;generalize wg4 out 0 0=b2 at *;generalize wg4 cells 0 0=b3 at *;clear hn;clear ha;refine hE [] func57 f57.eq_1 ?_
     repeat' first|refine hF ?_ ?_<;>intros|refine hI ?_|(with_reducible first|refine y04 v85 ?_|refine wdy h1 ?_|refine wdy h2 ?_|refine wdy h3 ?_)<;>refine hgS ?_
     all_goals try simp only [Decidable.not_not] at *
     all_goals refine lfE ?_;first | exact trivial | rfl
 . have e:xn0 ⟨k,inn,out,nm,cells,amt⟩=false:=by
    unfold xn0;by_cases h1:0<=k
    . rw [decide_eq_false (show ¬k<9 by omega)];simp
    . rw [decide_eq_false h1];simp
   rw [e];clear e hi ho hc hn ha;refine hE [] func57 f57.eq_1 ?_
   repeat' first|refine hF ?_ ?_<;>intros|refine hI ?_|(with_reducible refine y04 v85 ?_)<;>refine hgS ?_
   all_goals try (exfalso;omega)
   all_goals exact RLe.ofEq rfl
end Go.Hp.T
namespace Go.Hp.T
open Go Go.RowKit Go.Slot Go.Hp Go.Slot.T
set_option maxRecDepth 10000
variable {α:Type}
theorem wyn {C:α->SV} (h:∀ r a,xbb r (C a)=C a) (r:Nat->Nat) (l:List (ByteArray×α)):rnSB r (.map (envM C l))=.map (envM C l):=by
 have:(envM C l).map (fun p=>(p.1,xbb r p.2))=envM C l:=by
  induction l with
  | nil=>rfl
  | cons p l ih=>
   show (Value.string p.1,xbb r (C p.2))::(envM C l).map _=_;rw [ih,h];rfl
 show SB.map _=_;rw [this]
theorem w7l {C:α->SV} (h:∀ i j a,vwa i j (C a)=C a) (i j:Nat) (l:List (ByteArray×α)):swSB i j (.map (envM C l))=.map (envM C l):=by
 have:(envM C l).map (fun p=>(p.1,vwa i j p.2))=envM C l:=by
  induction l with
  | nil=>rfl
  | cons p l ih=>
   show (Value.string p.1,vwa i j (C p.2))::(envM C l).map _=_;rw [ih,h];rfl
 show SB.map _=_;rw [this]
theorem x5t {C:α->SV} (h:∀ a,x3b (C a)=[]) (l:List (ByteArray×α)):ze4 (.map (envM C l))=[]:=by
 show (envM C l).flatMap (fun p=>x3b p.2)=[]
 induction l with
 | nil=>rfl
 | cons p l ih=>show x3b (C p.2)++(envM C l).flatMap _=[];rw [ih,h];rfl
section
variable {κ α:Type}
def entG (K:κ->Value) (C:α->SV):List (κ×α)->List (Value×SV)
 | []=>[]
 | p::l=>(K p.1,C p.2)::entG K C l
def ypi (eq:κ->κ->Bool):List (κ×α)->κ->Option α
 | [],_=>none
 | p::l,s=>bif eq s p.1 then some p.2 else ypi eq l s
def updG (eq:κ->κ->Bool):List (κ×α)->κ->α->List (κ×α)
 | [],s,v=>[(s,v)]
 | p::l,s,v=>bif eq s p.1 then (s,v)::l else p::updG eq l s v
theorem yth {K:κ->Value} {C:α->SV} {eq:κ->κ->Bool} (h:∀ a b,kEq (K a) (K b)=some (eq a b)) {s:κ}:∀{l:List (κ×α)},y6f (entG K C l) (K s)=some ((ypi eq l s).map C)
 | []=>rfl
 | p::l=>by
  have ih:=yth h (C:=C) (s:=s) (l:=l);simp only [entG,y6f,h,ypi];rw [ih]
  cases eq s p.1<;>rfl
theorem vwk {K:κ->Value} {C:α->SV} {eq:κ->κ->Bool} (h:∀ a b,kEq (K a) (K b)=some (eq a b)) {s:κ} {v:α}:∀{l:List (κ×α)},updM (entG K C l) (K s) (C v)=some (entG K C (updG eq l s v))
 | []=>rfl
 | p::l=>by
  have ih:=vwk h (C:=C) (s:=s) (v:=v) (l:=l);simp only [entG,updM,h,updG];rw [ih]
  cases eq s p.1<;>rfl
theorem vo0 {K:κ->Value} {C:α->SV} (h:∀ r a,xbb r (C a)=C a) (r:Nat->Nat) (l:List (κ×α)):rnSB r (.map (entG K C l))=.map (entG K C l):=by
 have:(entG K C l).map (fun p=>(p.1,xbb r p.2))=entG K C l:=by
  induction l with
  | nil=>rfl
  | cons p l ih=>
   show (K p.1,xbb r (C p.2))::(entG K C l).map _=_;rw [ih,h];rfl
 show SB.map _=_;rw [this]
theorem z8x {K:κ->Value} {C:α->SV} (h:∀ a,x3b (C a)=[]) (l:List (κ×α)):ze4 (.map (entG K C l))=[]:=by
 show (entG K C l).flatMap (fun p=>x3b p.2)=[]
 induction l with
 | nil=>rfl
 | cons p l ih=>show x3b (C p.2)++(entG K C l).flatMap _=[];rw [ih,h];rfl
end
end Go.Hp.T
namespace Go.Hp.T
open Go Go.RowKit Go.Slot Go.Hp Go.Slot.T
open Go.Proofs.Tryz
attribute [local irreducible] hide RH
set_option maxRecDepth 10000
set_option maxHeartbeats 8000000
variable {Γ:List (Nat×List Cell)}
abbrev Vu:=List (ByteArray×Unit)
def envU (l:Vu):List (Value×SV):=envM (fun _=>.one (.dat (cB true))) l
theorem zgu {T:Vu} {s:ByteArray}:y6f (envU T) (.string s)=some ((v7b T s).map fun _=>.one (.dat (.raw (.bool true)))):=xz2
theorem y1u {T:Vu} {s:ByteArray}:updM (envU T) (.string s) (.one (.dat (.raw (.bool true))))=some (envU (updF T s ())):=v9l (C:=fun _:Unit=>.one (.dat (cB true))) (l:=T) (s:=s) (v:=())
theorem wyc {r:Nat->Nat} {l:Vu}:rnSB r (.map (envU l))=.map (envU l):=wyn (fun _ _=>rfl) r l
theorem xju (l:Vu):ze4 (.map (envU l))=[]:=x5t (fun _=>rfl) l
theorem wyo (l:Vu):(envU l).length=l.length:=xan _ l
attribute [go_sem] xju zgu y1u wyo
attribute [go_sem 20000] wyc
abbrev scB (ok:Bool):SB:=.box [.mp 1,.dat (cB ok)] (some 112)
abbrev mU (l:Vu):SB:=.map (envU l)
abbrev Scu:=Bool×Vu
abbrev scBs (c:Scu):List SB:=[scB c.1,mU c.2]
abbrev Us:=ByteArray×Bool×Bool
def useM (c:Scu) (u:Us):Scu:=(c.1&&(u.2.1&&(u.2.2&&(wtn u.1&&!(v7b c.2 u.1).isSome))),updF c.2 u.1 ())
theorem cUse (c:Scu) (s:ByteArray) (u m:Bool) (hs:s.size<=1073741824):xbh Γ prog 54 (scBs c) [.one (.ptr 0 0),.one (.dat (cS s)),.one (.dat (cB u)),.one (.dat (cB m))] (scBs (useM c (s,u,m))) (.tup []):=by
 obtain ⟨ok,T⟩:=c;have hf:=vun (Γ:=Γ) s hs;unfold useM;dsimp only;generalize wtn s=f at *
 cases hl:v7b T s with
 | none=>
  simp only [Option.isSome_none,Bool.not_false,Bool.and_true];refine hEh [] func54 f54.eq_1 ?_
  repeat' first|refine hF ?_ ?_<;>intros|(with_reducible refine wdy hf ?_)<;>refine hgS ?_
  all_goals
   refine hg1 @hl ?_
  all_goals exact StH.same svl (by simp [*])
 | some x=>
  simp only [Option.isSome_some,Bool.not_true,Bool.and_false];refine hEh [] func54 f54.eq_1 ?_
  repeat' first|refine hF ?_ ?_<;>intros|(with_reducible refine wdy hf ?_)<;>refine hgS ?_
  all_goals
   refine hg1 @hl ?_
  all_goals exact StH.same svl (by simp [*])
end Go.Hp.T
namespace Go.Hp
open Go Go.RowKit Go.Slot
variable {P:Program} {Γ:List (Nat×List Cell)} {e:List SB}
theorem xyg {a b:Nat}:Nat.blt a b=decide (a<b):=by
 by_cases h:a<b
 . rw [decide_eq_true h];simpa using h
 . rw [decide_eq_false h]
   cases hh:Nat.blt a b with
   | false=>rfl
   | true=>exact absurd (by simpa using hh) h
end Go.Hp
namespace Go.Hp.T
open Go Go.RowKit Go.Slot Go.Hp Go.Slot.T
open Go.Proofs.Tryz (prog)
set_option maxRecDepth 10000
set_option maxHeartbeats 4000000
variable {Γ:List (Nat×List Cell)}
theorem y0n (l:List HC) (T:Option TypeId):ze4 (.box l T)=l.flatMap v79:=rfl
theorem wyy (c:Cell) (k:Nat) (T:Option TypeId):ze4 (.arr c k T)=[]:=rfl
theorem ydo:ze4 .dead=[]:=rfl
attribute [go_sem] wd9 x3b v79 y0n wyy ydo xyg List.flatMap_cons List.flatMap_nil List.all_append
structure Tb.Sm (t:Tb):Prop where
 n:t.name.size<=1073741824
 u:t.unit.size<=1073741824
 r:t.rows.length<=1073741824
end Go.Hp.T
