/- The proof, part Y33: V7, V6. -/
import Derived.Test.YtocdljjhobaabaaGreatDoorY32
import Derived.Test.YtocdljjhobaabaaGreatDoorRows
import Derived.Deep.DeepHandedRow
import Derived.LaidMore
import Derived.MakeChecks
import Derived.ProofKit
namespace Go.Slot
open Go Go.RowKit Go.ChangeShapes Go.WideShapes
section
variable {P:Program} {H:Type} {enc:TypeId×Value->H} {w:World} {spare:Nat->Bool} {held:Bool} {bk:DataW H->Nat} {N:Nat} {r:Reach} {b0:Nat}
theorem yrl (hB:Bulk bk) {L:List TypeId} (hL:von P L=true) {t:TypeId} (htL:t∈L) {v:Value} {d:DataW H} {p:List MemPlace} (hv:v.cells=#[v])
 (hd:DataW.Trod enc P w 0 spare held t v d p) (hb:bk d<=N):∃ c,FitT P N t [c]/\RdB M0 w v (.one c):=by
 obtain ⟨fuel,hf⟩:=hd;obtain ⟨cells,h1,h2⟩:=v61 hB hL fuel t htL _ (d,p) hf hb;rw [hv] at h1
 match cells,h1,h2 with
 | [c],h1,h2=>exact ⟨c,h2,h1.1⟩
theorem ygz (hB:Bulk bk) {L:List TypeId} (hL:von P L=true) {t e:TypeId} (htL:t∈L) {v:Value} {d:DataW H} {p:List MemPlace} (ht:P.underlying t=some (.slice e))
 (hval:Value.okWide P w r b0 t v) (hd:DataW.Trod enc P w 0 spare held t v d p) (hb:bk d<=N):∃ c,FitT P N t [c]/\RdB M0 w v (.one c):=by
 obtain ⟨a,len,cap,rfl⟩:=okWide_slice ht hval;exact yrl hB hL htL rfl hd hb
theorem vtp (hB:Bulk bk) {L:List TypeId} (hL:von P L=true) {t:TypeId} (htL:t∈L) {k:IntKind} {v:Value} {d:DataW H} {p:List MemPlace} (ht:P.underlying t=some (.int k))
 (hval:Value.okWide P w r b0 t v) (hd:DataW.Trod enc P w 0 spare held t v d p) (hb:bk d<=N):∃ n:Int,k.min<=n/\n<=k.max/\RdB M0 w v (.one (.raw (.int k n))):=by
 obtain ⟨m,rfl⟩:=okWide_int ht hval;obtain ⟨c,h1,h2⟩:=yrl hB hL htL rfl hd hb;obtain ⟨n,e,h3⟩:=h1.zpx ht
 cases e;exact ⟨n,h3.1,h3.2,h2⟩
end
theorem yim {P:Program} {H:Type} {enc:TypeId×Value->H} {w:World} {sp:Nat->Bool} {held:Bool} {fuel:Nat} {t e:TypeId} {n:Nat} {k:IntKind} {l:List Int} {cs:List Value} {p:List MemPlace}
 (ht:P.underlying t=some (.array n e)) (he:P.underlying e=some (.int k)) (hc:P.cellsOf e=1) (hct:P.cellsOf t=n)
 (h:DataW.trod enc P w 0 sp held fuel t cs=some (.agg (l.map fun z=>.lit (.int k z)),p)):cs=l.map (fun z=>Value.int k z):=by
 obtain ⟨xs,m,rfl,hx1,hlen,hn,hel⟩:=DataW.trod_array ht h;simp only [Prod.mk.injEq,DataW.agg.injEq] at hx1
 have hl:l.length=n:=by
  have:=congrArg List.length hx1.1
  simp at this;omega
 apply List.ext_getElem
 . rw [hlen,hct,List.length_map,hl]
 intro i h1 h2
 have hi:i<n:=by rw [hlen,hct] at h1;exact h1
 have h3:=hel i hi
 have hix:i<xs.length:=by omega
 rw [hc,Nat.mul_one,List.getElem?_eq_getElem hix] at h3
 have e1:(cs.drop i).take 1=[cs[i]]:=by
  rw [List.drop_eq_getElem_cons h1];rfl
 rw [e1] at h3;obtain ⟨z,e2,e3,_⟩:=DataW.trod_int he h3
 have e4:(l.map fun z=>(DataW.lit (.int k z):DataW H))[i]? = (xs.map (·.1))[i]?:=by rw [hx1.1]
 rw [List.getElem?_map,List.getElem?_map,List.getElem?_eq_getElem hix,List.getElem?_eq_getElem (by omega),e3] at e4;simp only [Option.map_some,Option.some.injEq,DataW.lit.injEq,Lit.int.injEq,true_and] at e4;rw [List.cons.injEq] at e2;rw [e2.1,List.getElem_map,e4]
end Go.Slot
namespace Go.Proofs.YtocdljjhobaabaaGreatDoor
set_option maxRecDepth 100000
open Go Go.Slot Go.Hp Go.Hp.T Go.ChangeShapes Go.WideShapes Go.RowKit
def Gs:List (Nat×List Cell):=[(0,sgC)]
theorem xsk:ownKnob Tryz.prog.godebug=none:=by kernel_rfl
theorem xjr:laidOutB Tryz.prog=true:=by kernel_rfl
theorem wjn {H:Type} (d:DataW H):1<=Rows.uptoBulk d:=by
 cases d with
 | lit l=>cases l<;>simp [Rows.uptoBulk]
 | nil=>simp [Rows.uptoBulk]
 | ptr d=>simp [Rows.uptoBulk]
 | slice elems spare=>simp [Rows.uptoBulk]
 | agg parts=>simp [Rows.uptoBulk]
 | iface t d=>simp [Rows.uptoBulk]
 | map entries=>simp [Rows.uptoBulk]
 | held h=>simp [Rows.uptoBulk]
theorem wm2 {H:Type} {d:DataW H} {l:List (DataW H)} (h:d∈l):Rows.uptoBulk d<=Rows.uptoBulkAll l:=by
 induction l with
 | nil=>cases h
 | cons x r ih=>
  simp only [Rows.uptoBulkAll]
  cases List.mem_cons.1 h with
  | inl e=>subst e;omega
  | inr e=>have:=ih e;omega
theorem xf4 {H:Type} (l:List (DataW H)):l.length<=Rows.uptoBulkAll l:=by
 induction l with
 | nil=>simp [Rows.uptoBulkAll]
 | cons x r ih=>have:=wjn x;simp only [Rows.uptoBulkAll,List.length_cons];omega
theorem bulk {H:Type}:Bulk (H:=H) Rows.uptoBulk where
 str b:=by simp [Rows.uptoBulk]
 elems l r:=by
  have:=xf4 l
  simp only [Rows.uptoBulk];omega
 elem l r d h:=by
  have:=wm2 h
  simp only [Rows.uptoBulk];omega
 part l d h:=by
  have:=wm2 h
  simp only [Rows.uptoBulk];omega
theorem vft {H:Type} {l:List (DataW H)} (hk:Rows.uptoSmall H l=true):∀ d∈l,Rows.uptoBulk d<=1048576:=fun d hd=>by
 have h:=wm2 hd;have h2:Rows.uptoBulkAll l<=1048576:=of_decide_eq_true hk;omega
def argTypes:List TypeId:=[25,23,50,45,156,48,3,9,5,93,36,38,22]
theorem xa8:von Tryz.prog argTypes=true:=by kernel_rfl
theorem y0j:Tryz.prog.cellsOf 25=5:=by kernel_rfl
theorem yv9:Tryz.prog.cellsOf 50=3:=by kernel_rfl
theorem xmd:Tryz.prog.cellsOf 156=2:=by kernel_rfl
theorem wmm {t:TypeId} {d:TypeDesc} (h:Tryz.prog.underlying t=some d) (hd:∀ k,d≠.int k):∀ k,Tryz.prog.underlying t≠some (.int k):=fun k hk=>by
 rw [h] at hk;cases hk;exact hd k rfl
theorem xhq {α:Type} {C:α->List Cell} {Q:α->Prop}:∀ rows:List (List Cell),(∀ r∈rows,∃ x,r=C x/\Q x)->∃ xs:List α,rows=xs.map C/\∀ x∈xs,Q x
 | [],_=>⟨[],rfl,fun x hx=>by cases hx⟩
 | r::rows,h=>by
  obtain ⟨x,hx,hq⟩:=h r (by simp);obtain ⟨xs,hxs,hqs⟩:=xhq rows (fun r' hr'=>h r' (by simp [hr']))
  exact ⟨x::xs,by rw [hx,hxs];rfl,fun y hy=>by
   rcases List.mem_cons.1 hy with rfl | hy
   . exact hq
   . exact hqs y hy⟩
theorem len2 {α:Type} {l:List α} (h:l.length=2):∃ a b,l=[a,b]:=by
 match l,h with
 | [a,b],_=>exact ⟨a,b,rfl⟩
theorem len3 {α:Type} {l:List α} (h:l.length=3):∃ a b c,l=[a,b,c]:=by
 match l,h with
 | [a,b,c],_=>exact ⟨a,b,c,rfl⟩
theorem len5 {α:Type} {l:List α} (h:l.length=5):∃ a b c d e,l=[a,b,c,d,e]:=by
 match l,h with
 | [a,b,c,d,e],_=>exact ⟨a,b,c,d,e,rfl⟩
theorem w5j:∀(t:TypeId) (cs:List Cell),FitT Tryz.prog 1048576 t cs->(t=25->∃ x:Ex,cs=exC x/\x.Sm)/\(t=23->∃ l:List Ex,cs=[.sl 5 (l.map Ex.cells)]/\l.length<=1048576/\∀ y∈l,y.Sm):=by
 intro t cs h
 induction h with
 | int ht=>exact ⟨fun e=>(by subst e;rw [Tryz.underlying25] at ht;cases ht),fun e=>(by subst e;rw [Tryz.underlying23] at ht;cases ht)⟩
 | bool ht=>exact ⟨fun e=>(by subst e;rw [Tryz.underlying25] at ht;cases ht),fun e=>(by subst e;rw [Tryz.underlying23] at ht;cases ht)⟩
 | str ht=>exact ⟨fun e=>(by subst e;rw [Tryz.underlying25] at ht;cases ht),fun e=>(by subst e;rw [Tryz.underlying23] at ht;cases ht)⟩
 | ints ht he=>exact ⟨fun e=>(by subst e;rw [Tryz.underlying25] at ht;cases ht),fun e=>(by subst e;rw [Tryz.underlying23] at ht;cases ht;rw [Tryz.underlying25] at he;cases he)⟩
 | array ht=>exact ⟨fun e=>(by subst e;rw [Tryz.underlying25] at ht;cases ht),fun e=>(by subst e;rw [Tryz.underlying23] at ht;cases ht)⟩
 | sl ht he hl h ih=>
  refine ⟨fun e=>(by subst e;rw [Tryz.underlying25] at ht;cases ht),fun e=>?_⟩;subst e;rw [Tryz.underlying23] at ht
  cases ht
  obtain ⟨xs,rfl,hxs⟩:=xhq (C:=Ex.cells) (Q:=Ex.Sm) _ (fun r hr=>by
   obtain ⟨x,h1,h2⟩:=(ih r hr).1 rfl
   exact ⟨x,by rw [h1,Ex.wrj],h2⟩)
  exact ⟨xs,by rw [y0j],by simpa using hl,hxs⟩
 | struct ht hl h ih=>
  refine ⟨fun e=>?_,fun e=>(by subst e;rw [Tryz.underlying23] at ht;cases ht)⟩;subst e;rw [Tryz.underlying25] at ht
  cases ht;obtain ⟨r0,r1,r2,r3,r4,rfl⟩:=len5 hl;obtain ⟨o,rfl,_⟩:=(h 0 _ r0 rfl rfl).zpx (Tryz.underlying3);obtain ⟨n,rfl,_⟩:=(h 1 _ r1 rfl rfl).zpx (Tryz.underlying3);obtain ⟨u,rfl,hu⟩:=(h 2 _ r2 rfl rfl).v2u (Tryz.underlying9);obtain ⟨s,rfl,hs⟩:=(h 3 _ r3 rfl rfl).v2u (Tryz.underlying9);obtain ⟨l,rfl,hll,hls⟩:=(ih 4 _ r4 rfl rfl).2 rfl;exact ⟨.mk o n u s l,rfl,.mk _ (Nat.le_trans hll (by decide)) (Nat.le_trans hu (by decide)) (Nat.le_trans hs (by decide)) hls⟩
theorem v8o {cs:List Cell} (h:FitT Tryz.prog 1048576 156 cs):∃ x:Rw,cs=x.C/\True:=by
 obtain ⟨rows,rfl,hl,hr⟩:=h.x6z Tryz.underlying156;obtain ⟨r0,r1,rfl⟩:=len2 hl;obtain ⟨a,rfl,_⟩:=(hr 0 _ r0 rfl rfl).zpx (Tryz.underlying3);obtain ⟨b,rfl,_⟩:=(hr 1 _ r1 rfl rfl).zpx (Tryz.underlying3);exact ⟨⟨a,b⟩,rfl,trivial⟩
theorem whg {cs:List Cell} (h:FitT Tryz.prog 1048576 50 cs):∃ x:Tb,cs=x.C/\x.Sm:=by
 obtain ⟨rows,rfl,hl,hr⟩:=h.x6z Tryz.underlying50;obtain ⟨r0,r1,r2,rfl⟩:=len3 hl;obtain ⟨s,rfl,hs⟩:=(hr 0 _ r0 rfl rfl).v2u (Tryz.underlying9);obtain ⟨u,rfl,hu⟩:=(hr 1 _ r1 rfl rfl).v2u (Tryz.underlying9);obtain ⟨rs,rfl,hrl,hrr⟩:=(hr 2 _ r2 rfl rfl).wkk (Tryz.underlying48) (wmm Tryz.underlying156 (fun k h=>by cases h));obtain ⟨xs,rfl,_⟩:=xhq (C:=Rw.C) (Q:=fun _=>True) _ (fun r hr'=>v8o (hrr r hr'));refine ⟨⟨s,u,xs⟩,by rw [xmd];try rfl,⟨Nat.le_trans hs (by decide),Nat.le_trans hu (by decide),?_⟩⟩
 have:xs.length<=1048576:=by simpa using hrl
 exact Nat.le_trans this (by decide)
section
variable {H:Type} {enc:TypeId×Value->H} {W:World} {v:Value} {d:DataW H} {p:List MemPlace} {b:Nat}
end
theorem w5c {α:Type} {l:List α} (h:l.length=6):∃ a b c d e f,l=[a,b,c,d,e,f]:=by
 match l,h with
 | [a,b,c,d,e,f],_=>exact ⟨a,b,c,d,e,f,rfl⟩
theorem x0g:Tryz.prog.cellsOf 93=2:=by kernel_rfl
theorem zc5:Tryz.prog.cellsOf 38=7:=by kernel_rfl
theorem v57 {cs:List Cell} (h:FitT Tryz.prog 1048576 93 cs):∃ x:Prm,cs=x.C/\(x.name.size<=1073741824/\x.unit.size<=1073741824):=by
 obtain ⟨rows,rfl,hl,hr⟩:=h.x6z Tryz.underlying93;obtain ⟨r0,r1,rfl⟩:=len2 hl;obtain ⟨s0,rfl,q0⟩:=(hr 0 _ r0 rfl rfl).v2u (Tryz.underlying9);obtain ⟨s1,rfl,q1⟩:=(hr 1 _ r1 rfl rfl).v2u (Tryz.underlying9);exact ⟨⟨s0,s1⟩,rfl,Nat.le_trans q0 (by decide),Nat.le_trans q1 (by decide)⟩
theorem w8k {cs:List Cell} (h:FitT Tryz.prog 1048576 38 cs):∃ x:Fnc,cs=x.C/\(x.name.size<=1073741824/\x.params.length<=1073741824/\(∀ y∈x.params,y.name.size<=1073741824/\y.unit.size<=1073741824)/\x.body.Sm):=by
 obtain ⟨rows,rfl,hl,hr⟩:=h.x6z Tryz.underlying38;obtain ⟨r0,r1,r2,rfl⟩:=len3 hl;obtain ⟨s0,rfl,q0⟩:=(hr 0 _ r0 rfl rfl).v2u (Tryz.underlying9);obtain ⟨t1,rfl,q1,e1⟩:=(hr 1 _ r1 rfl rfl).wkk (Tryz.underlying36) (wmm Tryz.underlying93 (fun k h=>by cases h));obtain ⟨s1,rfl,y1⟩:=xhq (C:=Prm.C) (Q:=fun x=>x.name.size<=1073741824/\x.unit.size<=1073741824) _ (fun r hr'=>v57 (e1 r hr'));rw [List.length_map] at q1;obtain ⟨s2,rfl,q2⟩:=(w5j _ _ (hr 2 _ r2 rfl rfl)).1 rfl;exact ⟨⟨s0,s1,s2⟩,by rw [x0g];rfl,Nat.le_trans q0 (by decide),Nat.le_trans q1 (by decide),y1,q2⟩
theorem xcw {H:Type} {enc:TypeId×Value->H} {W:World} {v:Value} {d:DataW H} {p:List MemPlace} {b:Nat} (hval:Value.okWide Tryz.prog W .any b 5 v) (hd:DataW.Trod enc Tryz.prog W 0 (fun _=>true) true 5 v d p) (hb:Rows.uptoBulk d<=1048576) :
 ∃ n:Int,RdB M0 W v (.one (.raw (.int .u8 n)))/\0<=n/\n<=255:=by
 obtain ⟨n,h0,h1,h⟩:=vtp bulk xa8 (by decide) Tryz.underlying5 hval hd hb;exact ⟨n,h,h0,h1⟩
noncomputable def zcr:List (String×DataW Unit):=Rows.callGoneUptoRow.laid
noncomputable def zlx:String:=(zcr.getD 3 (Tryz.f0.name,.nil)).1
theorem wg8:Tryz.prog.globalNamed zlx=some 0:=by kernel_rfl
theorem y8s:(Tryz.prog.globals[0]?).map (·.type)=some 190:=by kernel_rfl
theorem wat {x:Fnc} (h:x.name.size<=1073741824/\x.params.length<=1073741824/\(∀ y∈x.params,y.name.size<=1073741824/\y.unit.size<=1073741824)/\x.body.Sm):x.Sm:=⟨h.1,h.2.1,h.2.2.1,h.2.2.2⟩
theorem ys2 {H:Type} {enc:TypeId×Value->H} {W:World} {v:Value} {d:DataW H} {p:List MemPlace} {b:Nat} (hval:Value.okWide Tryz.prog W .any b 22 v) (hd:DataW.Trod enc Tryz.prog W 0 (fun _=>true) true 22 v d p) (hb:Rows.uptoBulk d<=1048576) :
 ∃ l:List Fnc,RdB M0 W v (.one (.sl 7 (l.map Fnc.C)))/\l.length<=1048576/\∀ f∈l,f.Sm:=by
 obtain ⟨c,h1,h2⟩:=ygz bulk xa8 (by decide) Tryz.underlying22 hval hd hb;obtain ⟨rows,e,hl,hr⟩:=h1.wkk (Tryz.underlying22) (wmm Tryz.underlying38 (fun k h=>by cases h))
 cases e
 obtain ⟨xs,rfl,hx⟩:=xhq (C:=Fnc.C) (Q:=Fnc.Sm) _ (fun r hr'=>by
  obtain ⟨x,h3,h4⟩:=w8k (hr r hr')
  exact ⟨x,h3,wat h4⟩)
 rw [zc5] at h2;exact ⟨xs,h2,by simpa using hl,hx⟩
theorem x64 {W:World} (h:laidMetH Tryz.prog zcr W):yqe Gs M0 W:=by
 rw [MakeChecks.laidMetH_plain _ _ _ (by kernel_rfl)] at h;obtain ⟨ps,⟨_,_,_,_,_,_,_,_,_,_,h,_⟩,_,_⟩:=h;obtain ⟨_,_,_,_,_,_,_,_,_,_,h,_⟩:=h;obtain ⟨_,_,_,_,_,_,_,_,_,_,h,_⟩:=h;obtain ⟨g0,t0,cs0,f0,p0,q0,hg0,ht0,hv0,hd0,_,_⟩:=h;obtain rfl:=Option.some.inj (wg8.symm.trans hg0);obtain rfl:=Option.some.inj (y8s.symm.trans ht0);have e:=yim (l:=[40,41,44,59,58,61,60,43,45,42,47,123,125]) Tryz.underlying190 Tryz.underlying5 (by kernel_rfl) (by kernel_rfl) hd0;intro g cs hg;have hg':=List.mem_singleton.1 hg
 cases hg';refine ⟨cs0.toList,fun j u hu=>⟨fun h=>h,?_⟩,?_⟩
 . rw [World.var?_cell hg0 hv0 j,<-Array.getElem?_toList];exact hu
 . rw [e];exact ⟨.raw rfl,.raw rfl,.raw rfl,.raw rfl,.raw rfl,.raw rfl,.raw rfl,.raw rfl,.raw rfl,.raw rfl,.raw rfl,.raw rfl,.raw rfl,trivial⟩
theorem zof (os:Os) (args:Array Value):laidMetH Tryz.prog zcr ((World.doorLaid Tryz.prog 140 os).forCall (fun _ _=>0) ⟨#[],args,[]⟩).memory:=
 laidMetH_of_parts3 (fuel:=8) (laidMet_of_run' 8 (by kernel_rfl) (by kernel_rfl)) (by kernel_rfl) (by kernel_rfl)
theorem x4m {C:Checked} {os:Os} {f:FuncId} {fn:Func} {H:Type} {enc:TypeId×Value->H} {s:OpenSpec} {k:(H:Type)->List (DataW H)->Bool} (hk:s.cond=some k) {conds:List PathCond} {apart:Bool} {laid:List (String×DataW Unit)} (modest:Bool) (n:Nat) (args:Array Value) (fuel:Nat)
 (hsh:((World.doorLaid C.prog n os).forCall (fun _ _=>0) ⟨#[],args,[]⟩).Shaped C.prog)
 (hok:Input.okWideB C.prog ((World.doorLaid C.prog n os).forCall (fun _ _=>0) ⟨#[],args,[]⟩) f ⟨#[],args,[]⟩=true)
 {x:List (DataW H)×List (DataW H)×List MemPlace} (hx:DataW.whole enc C.prog ((World.doorLaid C.prog n os).forCall (fun _ _=>0) ⟨#[],args,[]⟩).memory fn.params.toList s.vars apart args.toList fuel=some x)
 (hconds:conds.all (PathCond.test C.prog ⟨fn.params.toList,x.1,s.bare.plain.varTypes C.prog,x.2.1⟩)=true) (hkk:k H (x.1++x.2.1)=true)
 (hsz:s.bare.sizedB enc C.prog fn apart ((World.doorLaid C.prog n os).forCall (fun _ _=>0) ⟨#[],args,[]⟩).memory args fuel=true)
 (hl:laidMetH C.prog laid ((World.doorLaid C.prog n os).forCall (fun _ _=>0) ⟨#[],args,[]⟩).memory) :
 ∃(w:World) (tape:Tape) (i:Input),w.os=os/\(w.forCall tape i).Shaped C.prog/\i.vars=[]/\Input.okWide C.prog (w.forCall tape i) .any w.heap.size f i/\
  s.preRow enc C.prog fn conds apart laid (w.forCall tape i).memory i.args/\({ modest:=modest }:Assume).holds C.prog (lone (Frame.enter C.prog f i.args .normal) [] (w.forCall tape i)):=
 ⟨World.doorLaid C.prog n os,fun _ _=>0,⟨#[],args,[]⟩,rfl,hsh,(Input.okWide_of_okWideB (base:=0) hok).1,(Input.okWide_of_okWideB hok).2,
  ⟨⟨(OpenSpec.pre_some hk conds apart _ _).2 ⟨x.1,x.2.1,x.2.2,DataW.Whole_of_whole hx,hconds,hkk⟩,hl⟩,sizedMet_of_sizedB hsz⟩,by
  simp only [Assume.holds]
  exact ⟨by simp,by simp,fun _=>Modest.zero,by simp,by simp⟩⟩
theorem ended {f:FuncId} {args:List AV} {vs:List Value} {W:World} (hc:Go.Hp.CallsD Gs Tryz.prog f args (.one (cB true))) (hg:yqe Gs M0 W) (hr:RdBL M0 W vs args):Calls Tryz.prog f vs.toArray W fun e W'=>e=.returned (.bool true)/\Below W.heap.size W W':=
 (hc.2 M0 W vs (fun b o h=>h.elim) hg hr).mono (fun e W' ⟨v,he,hb,hr',_⟩=>by
   have hv:v=.bool true:=RdC.xcn hr';rw [hv] at he
   exact ⟨he,hb⟩)
end Go.Proofs.YtocdljjhobaabaaGreatDoor
namespace Go.Proofs.YtocdljjhobaabaaGreatDoor
set_option maxRecDepth 100000
open Go Go.Slot Go.Hp Go.Hp.T Go.ChangeShapes Go.WideShapes Go.RowKit
def wcw:List TypeId:=[25,23,58,44,50,45,156,48,52,3,9]
theorem v7p:von Tryz.prog wcw=true:=by kernel_rfl
theorem vmm:Tryz.prog.cellsOf 58=7:=by kernel_rfl
theorem v71 {cs:List Cell} (h:FitT Tryz.prog 1048576 52 cs):∃ d:Dm,cs=dmC d:=by
 obtain ⟨rows,rfl,hl,hr⟩:=h.yh0 Tryz.underlying52;obtain ⟨r0,r1,r2,r3,r4,r5,rfl⟩:=w5c hl;obtain ⟨a,rfl,_⟩:=(hr r0 (by simp)).zpx (Tryz.underlying3);obtain ⟨b,rfl,_⟩:=(hr r1 (by simp)).zpx (Tryz.underlying3);obtain ⟨c,rfl,_⟩:=(hr r2 (by simp)).zpx (Tryz.underlying3);obtain ⟨d,rfl,_⟩:=(hr r3 (by simp)).zpx (Tryz.underlying3);obtain ⟨e,rfl,_⟩:=(hr r4 (by simp)).zpx (Tryz.underlying3);obtain ⟨f,rfl,_⟩:=(hr r5 (by simp)).zpx (Tryz.underlying3);exact ⟨⟨a,b,c,d,e,f⟩,rfl⟩
theorem zby {cs:List Cell} (h:FitT Tryz.prog 1048576 58 cs):∃ x:Vr,cs=x.C/\x.name.size<=1073741824:=by
 obtain ⟨rows,rfl,hl,hr⟩:=h.x6z Tryz.underlying58;obtain ⟨r0,r1,rfl⟩:=len2 hl;obtain ⟨s,rfl,hs⟩:=(hr 0 _ r0 rfl rfl).v2u (Tryz.underlying9);obtain ⟨d,rfl⟩:=v71 (hr 1 _ r1 rfl rfl);exact ⟨⟨s,d⟩,rfl,Nat.le_trans hs (by decide)⟩
section
variable {H:Type} {enc:TypeId×Value->H} {W:World} {v:Value} {d:DataW H} {p:List MemPlace} {b:Nat}
theorem z4t (hval:Value.okWide Tryz.prog W .any b 44 v) (hd:DataW.Trod enc Tryz.prog W 0 (fun _=>true) true 44 v d p) (hb:Rows.uptoBulk d<=1048576) :
 ∃ l:List Vr,RdB M0 W v (.one (.sl 7 (l.map Vr.C)))/\l.length<=1048576/\∀ x∈l,x.name.size<=1073741824:=by
 obtain ⟨c,h1,h2⟩:=ygz bulk v7p (by decide) Tryz.underlying44 hval hd hb;obtain ⟨rows,e,hl,hr⟩:=h1.wkk (Tryz.underlying44) (wmm Tryz.underlying58 (fun k h=>by cases h));obtain ⟨xs,rfl,hx⟩:=xhq (C:=Vr.C) (Q:=fun x=>x.name.size<=1073741824) _ (fun r hr'=>zby (hr r hr'))
 cases e;rw [vmm] at h2;exact ⟨xs,h2,by simpa using hl,hx⟩
theorem v6k (hval:Value.okWide Tryz.prog W .any b 45 v) (hd:DataW.Trod enc Tryz.prog W 0 (fun _=>true) true 45 v d p) (hb:Rows.uptoBulk d<=1048576) :
 ∃ l:List Tb,RdB M0 W v (.one (.sl 3 (l.map Tb.C)))/\l.length<=1048576/\∀ x∈l,x.Sm:=by
 obtain ⟨c,h1,h2⟩:=ygz bulk v7p (by decide) Tryz.underlying45 hval hd hb;obtain ⟨rows,e,hl,hr⟩:=h1.wkk (Tryz.underlying45) (wmm Tryz.underlying50 (fun k h=>by cases h));obtain ⟨xs,rfl,hx⟩:=xhq (C:=Tb.C) (Q:=Tb.Sm) _ (fun r hr'=>whg (hr r hr'))
 cases e;rw [yv9] at h2;exact ⟨xs,h2,by simpa using hl,hx⟩
theorem yne (hval:Value.okWide Tryz.prog W .any b 23 v) (hd:DataW.Trod enc Tryz.prog W 0 (fun _=>true) true 23 v d p) (hb:Rows.uptoBulk d<=1048576) :
 ∃ l:List Ex,RdB M0 W v (.one (.sl 5 (l.map Ex.cells)))/\l.length<=1048576/\∀ x∈l,x.Sm:=by
 obtain ⟨c,h1,h2⟩:=ygz bulk v7p (by decide) Tryz.underlying23 hval hd hb;obtain ⟨l,e,hl,hs⟩:=(w5j _ _ h1).2 rfl
 cases e;exact ⟨l,h2,hl,hs⟩
end
theorem xm1 {H:Type} {enc:TypeId×Value->H} {P:Program} {W:World} {b:Nat} {sp:Nat->Bool} {hd:Bool} {t0 t1 t2 t3 t4:TypeId} {args:Array Value} {ds:List (DataW H)} {ps:List MemPlace} (h:DataW.TrodAll enc P W b sp hd [t0,t1,t2,t3,t4] args.toList ds ps) :
 ∃ v0 v1 v2 v3 v4 d0 d1 d2 d3 d4 p0 p1 p2 p3 p4,args=#[v0,v1,v2,v3,v4]/\ds=[d0,d1,d2,d3,d4]/\ps=p0++(p1++(p2++(p3++(p4++[]))))/\DataW.Trod enc P W b sp hd t0 v0 d0 p0/\DataW.Trod enc P W b sp hd t1 v1 d1 p1/\DataW.Trod enc P W b sp hd t2 v2 d2 p2/\DataW.Trod enc P W b sp hd t3 v3 d3 p3/\DataW.Trod enc P W b sp hd t4 v4 d4 p4:=by
 obtain ⟨v0,_,d0,_,p0,_,ha,rfl,rfl,h0,h⟩:=trodAll_cons h;obtain ⟨v1,_,d1,_,p1,_,rfl,rfl,rfl,h1,h⟩:=trodAll_cons h;obtain ⟨v2,_,d2,_,p2,_,rfl,rfl,rfl,h2,h⟩:=trodAll_cons h;obtain ⟨v3,_,d3,_,p3,_,rfl,rfl,rfl,h3,h⟩:=trodAll_cons h;obtain ⟨v4,_,d4,_,p4,_,rfl,rfl,rfl,h4,h⟩:=trodAll_cons h;obtain ⟨rfl,rfl,rfl⟩:=trodAll_nil h;exact ⟨v0,v1,v2,v3,v4,d0,d1,d2,d3,d4,p0,p1,p2,p3,p4,by cases args;simp_all,rfl,rfl,h0,h1,h2,h3,h4⟩
end Go.Proofs.YtocdljjhobaabaaGreatDoor
