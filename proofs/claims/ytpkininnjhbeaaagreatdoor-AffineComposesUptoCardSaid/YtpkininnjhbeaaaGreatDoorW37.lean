/- The proof, part W37: V9. -/
import Derived.Test.YtpkininnjhbeaaaGreatDoorW36
import Derived.Test.YtpkininnjhbeaaaGreatDoorW35
import Derived.Test.YtpkininnjhbeaaaGreatDoorW32
import Derived.Test.YtpkininnjhbeaaaGreatDoorRows
import Derived.Deep.DeepHandedRow
import Derived.LaidMore
import Derived.MakeChecks
import Derived.ProofKit
namespace Go.Slot
open Go Go.RowKit Go.ChangeShapes Go.WideShapes
variable {L:List TypeId} {t e:TypeId} {v:Value}
section
variable {P:Program} {H:Type} {enc:TypeId×Value->H} {w:World} {spare:Nat->Bool} {held:Bool} {bk:DataW H->Nat} {N:Nat} {r:Reach} {b0:Nat}
theorem v7e (hB:Bulk bk) (hL:vj2 P L=true) (htL:t∈L) {d:DataW H} {p:List MemPlace} {fs:Array Field} (ht:P.underlying t=some (.struct fs))
 (hval:Value.okWide P w r b0 t v) (hd:DataW.Trod enc P w 0 spare held t v d p) (hb:bk d<=N):∃ cells,FitT P N t cells/\RdB M0 w v (.agg cells):=by
 obtain ⟨cs,rfl,_⟩:=okWide_struct ht hval;obtain ⟨fuel,hf⟩:=hd;obtain ⟨cells,h1,h2⟩:=xlu hB hL fuel t htL _ (d,p) hf hb;exact ⟨cells,h2,⟨cs.toList,by simp,h1⟩⟩
theorem vh2 (hB:Bulk bk) (hL:vj2 P L=true) (htL:t∈L) {d:DataW H} {p:List MemPlace} (hv:v.cells=#[v])
 (hd:DataW.Trod enc P w 0 spare held t v d p) (hb:bk d<=N):∃ c,FitT P N t [c]/\RdB M0 w v (.one c):=by
 obtain ⟨fuel,hf⟩:=hd;obtain ⟨cells,h1,h2⟩:=xlu hB hL fuel t htL _ (d,p) hf hb;rw [hv] at h1
 match cells,h1,h2 with
 | [c],h1,h2=>exact ⟨c,h2,h1.1⟩
theorem vjt (hB:Bulk bk) (hL:vj2 P L=true) (htL:t∈L) {d:DataW H} {p:List MemPlace} (ht:P.underlying t=some (.slice e))
 (hval:Value.okWide P w r b0 t v) (hd:DataW.Trod enc P w 0 spare held t v d p) (hb:bk d<=N):∃ c,FitT P N t [c]/\RdB M0 w v (.one c):=by
 obtain ⟨a,len,cap,rfl⟩:=okWide_slice ht hval;exact vh2 hB hL htL rfl hd hb
end
theorem zfx {P:Program} {H:Type} {enc:TypeId×Value->H} {w:World} {sp:Nat->Bool} {held:Bool} {fuel:Nat} {n:Nat} {k:IntKind} {l:List Int} {cs:List Value} {p:List MemPlace}
 (ht:P.underlying t=some (.array n e)) (he:P.underlying e=some (.int k)) (hc:P.cellsOf e=1) (hct:P.cellsOf t=n)
 (h:DataW.trod enc P w 0 sp held fuel t cs=some (.agg (l.map fun z=>.lit (.int k z)),p)):cs=l.map (fun z=>Value.int k z):=by
 obtain ⟨xs,m,rfl,hx1,hlen,hn,hel⟩:=DataW.trod_array ht h;simp only [Prod.mk.injEq,DataW.agg.injEq] at hx1
 have hl:l.length=n:=by
  have:=congrArg List.length hx1.1
  simp at this;omega
 apply List.ext_getElem
 . rw [hlen,hct,List.length_map,hl]
 intro i h1 h2
 have hi:i<n:=by rw [hlen,hct] at h1;exact h1
 have h3:=hel i hi
 have hix:i<xs.length:=by omega
 rw [hc,Nat.mul_one,List.getElem?_eq_getElem hix] at h3
 have e1:(cs.drop i).take 1=[cs[i]]:=by
  rw [List.drop_eq_getElem_cons h1];rfl
 rw [e1] at h3;obtain ⟨z,e2,e3,_⟩:=DataW.trod_int he h3
 have e4:(l.map fun z=>(DataW.lit (.int k z):DataW H))[i]? = (xs.map (·.1))[i]?:=by rw [hx1.1]
 rw [List.getElem?_map,List.getElem?_map,List.getElem?_eq_getElem hix,List.getElem?_eq_getElem (by omega),e3] at e4;simp only [Option.map_some,Option.some.injEq,DataW.lit.injEq,Lit.int.injEq,true_and] at e4;rw [List.cons.injEq] at e2;rw [e2.1,List.getElem_map,e4]
end Go.Slot
namespace Go.Proofs.YtpkininnjhbeaaaGreatDoor
set_option maxRecDepth 100000
open Go Go.Slot Go.Hp Go.Hp.T Go.ChangeShapes Go.WideShapes Go.RowKit
variable {H α:Type} {W:World} {f:FuncId}
theorem x5g:ownKnob Tryz.prog.godebug=none:=by kernel_rfl
theorem wwh:laidOutB Tryz.prog=true:=by kernel_rfl
theorem zj4 (d:DataW H):1<=Rows.uptoBulk d:=by
 cases d with
 | lit l=>cases l<;>simp [Rows.uptoBulk]
 | nil=>simp [Rows.uptoBulk]
 | ptr d=>simp [Rows.uptoBulk]
 | slice elems spare=>simp [Rows.uptoBulk]
 | agg parts=>simp [Rows.uptoBulk]
 | iface t d=>simp [Rows.uptoBulk]
 | map entries=>simp [Rows.uptoBulk]
 | held h=>simp [Rows.uptoBulk]
theorem ytj {d:DataW H} {l:List (DataW H)} (h:d∈l):Rows.uptoBulk d<=Rows.uptoBulkAll l:=by
 induction l with
 | nil=>cases h
 | cons x r ih=>
  simp only [Rows.uptoBulkAll]
  cases List.mem_cons.1 h with
  | inl e=>subst e;omega
  | inr e=>have:=ih e;omega
theorem wpp (l:List (DataW H)):l.length<=Rows.uptoBulkAll l:=by
 induction l with
 | nil=>simp [Rows.uptoBulkAll]
 | cons x r ih=>have:=zj4 x;simp only [Rows.uptoBulkAll,List.length_cons];omega
theorem bulk:Bulk (H:=H) Rows.uptoBulk where
 str b:=by simp [Rows.uptoBulk]
 elems l r:=by
  have:=wpp l
  simp only [Rows.uptoBulk];omega
 elem l r d h:=by
  have:=ytj h
  simp only [Rows.uptoBulk];omega
 part l d h:=by
  have:=ytj h
  simp only [Rows.uptoBulk];omega
theorem vq1 {l:List (DataW H)} (hk:Rows.uptoSmall H l=true):∀ d∈l,Rows.uptoBulk d<=1048576:=fun d hd=>by
 have h:=ytj hd;have h2:Rows.uptoBulkAll l<=1048576:=of_decide_eq_true hk;omega
def argTypes:List TypeId:=[24,22,115,26,112,113,3,9,33,34,31,29,36,42,25]
theorem xv9:vj2 Tryz.prog argTypes=true:=by kernel_rfl
theorem w6z:Tryz.prog.cellsOf 24=5:=by kernel_rfl
theorem zdd:Tryz.prog.cellsOf 115=3:=by kernel_rfl
theorem wbd:Tryz.prog.cellsOf 42=6:=by kernel_rfl
theorem wtp:Tryz.prog.cellsOf 33=4:=by kernel_rfl
theorem x7i:Tryz.prog.cellsOf 112=2:=by kernel_rfl
theorem x7w {t:TypeId} {d:TypeDesc} (h:Tryz.prog.underlying t=some d) (hd:∀ k,d≠.int k):∀ k,Tryz.prog.underlying t≠some (.int k):=fun k hk=>by
 rw [h] at hk;cases hk;exact hd k rfl
theorem vw0 {α:Type} {C:α->List Cell} {Q:α->Prop}:∀ rows:List (List Cell),(∀ r∈rows,∃ x,r=C x/\Q x)->∃ xs:List α,rows=xs.map C/\∀ x∈xs,Q x
 | [],_=>⟨[],rfl,fun x hx=>by cases hx⟩
 | r::rows,h=>by
  obtain ⟨x,hx,hq⟩:=h r (by simp);obtain ⟨xs,hxs,hqs⟩:=vw0 rows (fun r' hr'=>h r' (by simp [hr']))
  exact ⟨x::xs,by rw [hx,hxs];rfl,fun y hy=>by
   rcases List.mem_cons.1 hy with rfl | hy
   . exact hq
   . exact hqs y hy⟩
theorem len2 {l:List α} (h:l.length=2):∃ a b,l=[a,b]:=by
 match l,h with
 | [a,b],_=>exact ⟨a,b,rfl⟩
theorem len3 {l:List α} (h:l.length=3):∃ a b c,l=[a,b,c]:=by
 match l,h with
 | [a,b,c],_=>exact ⟨a,b,c,rfl⟩
theorem len5 {l:List α} (h:l.length=5):∃ a b c d e,l=[a,b,c,d,e]:=by
 match l,h with
 | [a,b,c,d,e],_=>exact ⟨a,b,c,d,e,rfl⟩
theorem xd9:∀(t:TypeId) (cs:List Cell),FitT Tryz.prog 1048576 t cs->(t=24->∃ x:Ex,cs=exC x/\x.Sm)/\(t=22->∃ l:List Ex,cs=[.sl 5 (l.map Ex.cells)]/\l.length<=1048576/\∀ y∈l,y.Sm):=by
 intro t cs h
 induction h with
 | int ht=>exact ⟨fun e=>(by subst e;rw [Tryz.underlying24] at ht;cases ht),fun e=>(by subst e;rw [Tryz.underlying22] at ht;cases ht)⟩
 | bool ht=>exact ⟨fun e=>(by subst e;rw [Tryz.underlying24] at ht;cases ht),fun e=>(by subst e;rw [Tryz.underlying22] at ht;cases ht)⟩
 | str ht=>exact ⟨fun e=>(by subst e;rw [Tryz.underlying24] at ht;cases ht),fun e=>(by subst e;rw [Tryz.underlying22] at ht;cases ht)⟩
 | ints ht he=>exact ⟨fun e=>(by subst e;rw [Tryz.underlying24] at ht;cases ht),fun e=>(by subst e;rw [Tryz.underlying22] at ht;cases ht;rw [Tryz.underlying24] at he;cases he)⟩
 | array ht=>exact ⟨fun e=>(by subst e;rw [Tryz.underlying24] at ht;cases ht),fun e=>(by subst e;rw [Tryz.underlying22] at ht;cases ht)⟩
 | sl ht he hl h ih=>
  refine ⟨fun e=>(by subst e;rw [Tryz.underlying24] at ht;cases ht),fun e=>?_⟩;subst e;rw [Tryz.underlying22] at ht
  cases ht
  obtain ⟨xs,rfl,hxs⟩:=vw0 (C:=Ex.cells) (Q:=Ex.Sm) _ (fun r hr=>by
   obtain ⟨x,h1,h2⟩:=(ih r hr).1 rfl
   exact ⟨x,by rw [h1,Ex.wbs],h2⟩)
  exact ⟨xs,by rw [w6z],by simpa using hl,hxs⟩
 | struct ht hl h ih=>
  refine ⟨fun e=>?_,fun e=>(by subst e;rw [Tryz.underlying22] at ht;cases ht)⟩;subst e;rw [Tryz.underlying24] at ht
  cases ht;obtain ⟨r0,r1,r2,r3,r4,rfl⟩:=len5 hl;obtain ⟨o,rfl,_⟩:=(h 0 _ r0 rfl rfl).y1i (Tryz.underlying3);obtain ⟨n,rfl,_⟩:=(h 1 _ r1 rfl rfl).y1i (Tryz.underlying3);obtain ⟨u,rfl,hu⟩:=(h 2 _ r2 rfl rfl).wkk (Tryz.underlying9);obtain ⟨s,rfl,hs⟩:=(h 3 _ r3 rfl rfl).wkk (Tryz.underlying9);obtain ⟨l,rfl,hll,hls⟩:=(ih 4 _ r4 rfl rfl).2 rfl;exact ⟨.mk o n u s l,rfl,.mk _ (Nat.le_trans hll (by decide)) (Nat.le_trans hu (by decide)) (Nat.le_trans hs (by decide)) hls⟩
theorem y53 {cs:List Cell} (h:FitT Tryz.prog 1048576 31 cs):∃(s:Int) (L:List Int),cs=[.raw (.int .i64 s),.ints .i64 L]/\L.length<=1048576:=by
 obtain ⟨rows,rfl,hl,hr⟩:=h.ytp Tryz.underlying31;obtain ⟨r0,r1,rfl⟩:=len2 hl;obtain ⟨s,rfl,_⟩:=(hr 0 _ r0 rfl rfl).y1i (Tryz.underlying3);obtain ⟨L,rfl,hL,_⟩:=(hr 1 _ r1 rfl rfl).zsh (Tryz.underlying29) (Tryz.underlying3);exact ⟨s,L,rfl,hL⟩
theorem v8s {cs:List Cell} (h:FitT Tryz.prog 1048576 33 cs):∃ f:Fc,cs=f.C/\f.sz<=1048576:=by
 obtain ⟨rows,rfl,hl,hr⟩:=h.ytp Tryz.underlying33;obtain ⟨r0,r1,rfl⟩:=len2 hl;obtain ⟨s,L,rfl,hL⟩:=y53 (hr 0 _ r0 rfl rfl);obtain ⟨t,M,rfl,hM⟩:=y53 (hr 1 _ r1 rfl rfl);exact ⟨⟨s,L,t,M⟩,rfl,Nat.max_le.2 ⟨hL,hM⟩⟩
theorem v0z {cs:List Cell} (h:FitT Tryz.prog 1048576 36 cs):∃ a:Af,cs=a.C/\AfS a:=by
 obtain ⟨rows,rfl,hl,hr⟩:=h.ytp Tryz.underlying36;obtain ⟨r0,r1,rfl⟩:=len2 hl;obtain ⟨f,rfl,hf⟩:=v8s (hr 0 _ r0 rfl rfl);obtain ⟨rs,rfl,hrl,hrr⟩:=(hr 1 _ r1 rfl rfl).wl9 (Tryz.underlying34) (x7w Tryz.underlying33 (fun k h=>by cases h));obtain ⟨xs,rfl,hx⟩:=vw0 (C:=Fc.C) (Q:=fun x=>x.sz<=1048576) _ (fun r hr'=>v8s (hrr r hr'));exact ⟨⟨f,xs⟩,by rw [wtp];try rfl,by simpa using hrl,hf,hx⟩
theorem x7u {cs:List Cell} (h:FitT Tryz.prog 1048576 42 cs):∃ x:Sl,cs=x.C/\(x.name.size<=1073741824/\AfS x.f):=by
 obtain ⟨rows,rfl,hl,hr⟩:=h.ytp Tryz.underlying42;obtain ⟨r0,r1,rfl⟩:=len2 hl;obtain ⟨s,rfl,hs⟩:=(hr 0 _ r0 rfl rfl).wkk (Tryz.underlying9);obtain ⟨a,rfl,ha⟩:=v0z (hr 1 _ r1 rfl rfl);exact ⟨⟨s,a⟩,rfl,Nat.le_trans hs (by decide),ha⟩
theorem y35 {cs:List Cell} (h:FitT Tryz.prog 1048576 112 cs):∃ x:Rw,cs=x.C/\True:=by
 obtain ⟨rows,rfl,hl,hr⟩:=h.ytp Tryz.underlying112;obtain ⟨r0,r1,rfl⟩:=len2 hl;obtain ⟨a,rfl,_⟩:=(hr 0 _ r0 rfl rfl).y1i (Tryz.underlying3);obtain ⟨b,rfl,_⟩:=(hr 1 _ r1 rfl rfl).y1i (Tryz.underlying3);exact ⟨⟨a,b⟩,rfl,trivial⟩
theorem vc1 {cs:List Cell} (h:FitT Tryz.prog 1048576 115 cs):∃ x:Tb,cs=x.C/\x.Sm:=by
 obtain ⟨rows,rfl,hl,hr⟩:=h.ytp Tryz.underlying115;obtain ⟨r0,r1,r2,rfl⟩:=len3 hl;obtain ⟨s,rfl,hs⟩:=(hr 0 _ r0 rfl rfl).wkk (Tryz.underlying9);obtain ⟨u,rfl,hu⟩:=(hr 1 _ r1 rfl rfl).wkk (Tryz.underlying9);obtain ⟨rs,rfl,hrl,hrr⟩:=(hr 2 _ r2 rfl rfl).wl9 (Tryz.underlying113) (x7w Tryz.underlying112 (fun k h=>by cases h));obtain ⟨xs,rfl,_⟩:=vw0 (C:=Rw.C) (Q:=fun _=>True) _ (fun r hr'=>y35 (hrr r hr'));refine ⟨⟨s,u,xs⟩,by rw [x7i];try rfl,⟨Nat.le_trans hs (by decide),Nat.le_trans hu (by decide),?_⟩⟩
 have:xs.length<=1048576:=by simpa using hrl
 exact Nat.le_trans this (by decide)
section
variable {H:Type} {enc:TypeId×Value->H} {W:World} {v:Value} {d:DataW H} {p:List MemPlace} {b:Nat}
theorem xky (hval:Value.okWide Tryz.prog W .any b 24 v) (hd:DataW.Trod enc Tryz.prog W 0 (fun _=>true) true 24 v d p) (hb:Rows.uptoBulk d<=1048576) :
 ∃ x:Ex,RdB M0 W v (.agg (exC x))/\x.Sm:=by
 obtain ⟨cells,h1,h2⟩:=v7e bulk xv9 (by decide) Tryz.underlying24 hval hd hb;obtain ⟨x,rfl,h3⟩:=(xd9 _ _ h1).1 rfl;exact ⟨x,h2,h3⟩
theorem vee (hval:Value.okWide Tryz.prog W .any b 26 v) (hd:DataW.Trod enc Tryz.prog W 0 (fun _=>true) true 26 v d p) (hb:Rows.uptoBulk d<=1048576) :
 ∃ l:List Tb,RdB M0 W v (.one (.sl 3 (l.map Tb.C)))/\l.length<=1048576/\∀ x∈l,x.Sm:=by
 obtain ⟨c,h1,h2⟩:=vjt bulk xv9 (by decide) Tryz.underlying26 hval hd hb;obtain ⟨rows,e,hl,hr⟩:=h1.wl9 (Tryz.underlying26) (x7w Tryz.underlying115 (fun k h=>by cases h));obtain ⟨xs,rfl,hx⟩:=vw0 (C:=Tb.C) (Q:=Tb.Sm) _ (fun r hr'=>vc1 (hr r hr'))
 cases e;rw [zdd] at h2;exact ⟨xs,h2,by simpa using hl,hx⟩
theorem yor (hval:Value.okWide Tryz.prog W .any b 25 v) (hd:DataW.Trod enc Tryz.prog W 0 (fun _=>true) true 25 v d p) (hb:Rows.uptoBulk d<=1048576) :
 ∃ l:List Sl,RdB M0 W v (.one (.sl 6 (l.map Sl.C)))/\l.length<=1048576/\∀ x∈l,x.name.size<=1073741824/\AfS x.f:=by
 obtain ⟨c,h1,h2⟩:=vjt bulk xv9 (by decide) Tryz.underlying25 hval hd hb;obtain ⟨rows,e,hl,hr⟩:=h1.wl9 (Tryz.underlying25) (x7w Tryz.underlying42 (fun k h=>by cases h));obtain ⟨xs,rfl,hx⟩:=vw0 (C:=Sl.C) (Q:=fun x=>x.name.size<=1073741824/\AfS x.f) _ (fun r hr'=>x7u (hr r hr'))
 cases e;rw [wbd] at h2;exact ⟨xs,h2,by simpa using hl,hx⟩
end
def z8o:List (String×DataW Unit):=Rows.affineAddsUptoRow.laid
def vw8:String:=(z8o.headD (Tryz.f0.name,.nil)).1
theorem xf0:Tryz.prog.globalNamed vw8=some 0:=by kernel_rfl
theorem zev:(Tryz.prog.globals[0]?).map (·.type)=some 259:=by kernel_rfl
theorem v5u (h:laidMetH Tryz.prog z8o W):y72 Gs M0 W:=by
 rw [MakeChecks.laidMetH_plain _ _ _ (by kernel_rfl)] at h;obtain ⟨ps,⟨g0,t0,cs0,f0,p0,q0,hg0,ht0,hv0,hd0,_,_⟩,_,_⟩:=h;obtain rfl:=Option.some.inj (xf0.symm.trans hg0);obtain rfl:=Option.some.inj (zev.symm.trans ht0);have e:=zfx (l:=[40,41,44,59,58,61,60,43,45,42,47,123,125]) Tryz.underlying259 Tryz.underlying5 (by kernel_rfl) (by kernel_rfl) hd0;intro g cs hg;have hg':=List.mem_singleton.1 hg
 cases hg';refine ⟨cs0.toList,fun j u hu=>⟨fun h=>h,?_⟩,?_⟩
 . rw [World.var?_cell hg0 hv0 j,<-Array.getElem?_toList];exact hu
 . rw [e];exact ⟨.raw rfl,.raw rfl,.raw rfl,.raw rfl,.raw rfl,.raw rfl,.raw rfl,.raw rfl,.raw rfl,.raw rfl,.raw rfl,.raw rfl,.raw rfl,trivial⟩
theorem zsu (os:Os) (args:Array Value):laidMetH Tryz.prog z8o ((World.doorLaid Tryz.prog 140 os).forCall (fun _ _=>0) ⟨#[],args,[]⟩).memory:=
 laidMetH_of_parts3 (fuel:=8) (laidMet_of_run' 8 (by kernel_rfl) (by kernel_rfl)) (by kernel_rfl) (by kernel_rfl)
theorem wyu {C:Checked} {os:Os} {fn:Func} {enc:TypeId×Value->H} {s:OpenSpec} {k:(H:Type)->List (DataW H)->Bool} (hk:s.cond=some k) {conds:List PathCond} {apart:Bool} {laid:List (String×DataW Unit)} (modest:Bool) (n:Nat) (args:Array Value) (fuel:Nat)
 (hsh:((World.doorLaid C.prog n os).forCall (fun _ _=>0) ⟨#[],args,[]⟩).Shaped C.prog)
 (hok:Input.okWideB C.prog ((World.doorLaid C.prog n os).forCall (fun _ _=>0) ⟨#[],args,[]⟩) f ⟨#[],args,[]⟩=true)
 {x:List (DataW H)×List (DataW H)×List MemPlace} (hx:DataW.whole enc C.prog ((World.doorLaid C.prog n os).forCall (fun _ _=>0) ⟨#[],args,[]⟩).memory fn.params.toList s.vars apart args.toList fuel=some x)
 (hconds:conds.all (PathCond.test C.prog ⟨fn.params.toList,x.1,s.bare.plain.varTypes C.prog,x.2.1⟩)=true) (hkk:k H (x.1++x.2.1)=true)
 (hsz:s.bare.sizedB enc C.prog fn apart ((World.doorLaid C.prog n os).forCall (fun _ _=>0) ⟨#[],args,[]⟩).memory args fuel=true)
 (hl:laidMetH C.prog laid ((World.doorLaid C.prog n os).forCall (fun _ _=>0) ⟨#[],args,[]⟩).memory) :
 ∃(w:World) (tape:Tape) (i:Input),w.os=os/\(w.forCall tape i).Shaped C.prog/\i.vars=[]/\Input.okWide C.prog (w.forCall tape i) .any w.heap.size f i/\
  s.preRow enc C.prog fn conds apart laid (w.forCall tape i).memory i.args/\({ modest:=modest }:Assume).holds C.prog (lone (Frame.enter C.prog f i.args .normal) [] (w.forCall tape i)):=
 ⟨World.doorLaid C.prog n os,fun _ _=>0,⟨#[],args,[]⟩,rfl,hsh,(Input.okWide_of_okWideB (base:=0) hok).1,(Input.okWide_of_okWideB hok).2,
  ⟨⟨(OpenSpec.pre_some hk conds apart _ _).2 ⟨x.1,x.2.1,x.2.2,DataW.Whole_of_whole hx,hconds,hkk⟩,hl⟩,sizedMet_of_sizedB hsz⟩,by
  simp only [Assume.holds]
  exact ⟨by simp,by simp,fun _=>Modest.zero,by simp,by simp⟩⟩
theorem ended {args:List AV} {vs:List Value} (hc:Go.Hp.CallsD Gs Tryz.prog f args (.one (cB true))) (hg:y72 Gs M0 W) (hr:RdBL M0 W vs args):Calls Tryz.prog f vs.toArray W fun e W'=>e=.returned (.bool true)/\Below W.heap.size W W':=
 (hc.2 M0 W vs (fun b o h=>h.elim) hg hr).mono (fun e W' ⟨v,he,hb,hr',_⟩=>by
   have hv:v=.bool true:=RdC.x18 hr';rw [hv] at he
   exact ⟨he,hb⟩)
def zE:Value:=.agg #[.int .i64 0,.int .i64 0,.string ⟨#[]⟩,.string ⟨#[]⟩,.slice none 0 0]
def dI {H:Type}:DataW H:=.lit (.int .i64 0)
def dS {H:Type}:DataW H:=.lit (.string [])
def dE {H:Type}:DataW H:=.agg [dI,dI,dS,dS,.nil]
end Go.Proofs.YtpkininnjhbeaaaGreatDoor
