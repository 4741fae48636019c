/- The proof, part W36: V8. -/
import Derived.Test.YtbdoipfmafbhoaaGreatDoorW35
import Derived.Test.YtbdoipfmafbhoaaGreatDoorW31
import Derived.Test.YtbdoipfmafbhoaaGreatDoorW34
import Derived.Test.YtbdoipfmafbhoaaGreatDoorRows
import Derived.Deep.DeepHandedRow
import Derived.LaidMore
import Derived.MakeChecks
import Derived.ProofKit
namespace Go.Slot
open Go Go.RowKit Go.ChangeShapes Go.WideShapes
section
variable {P:Program} {H:Type} {enc:TypeId×Value->H} {w:World} {spare:Nat->Bool} {held:Bool} {bk:DataW H->Nat} {N:Nat} {r:Reach} {b0:Nat}
theorem vsy (hB:Bulk bk) {L:List TypeId} (hL:wwn P L=true) {t:TypeId} (htL:t∈L) {v:Value} {d:DataW H} {p:List MemPlace} {fs:Array Field} (ht:P.underlying t=some (.struct fs))
 (hval:Value.okWide P w r b0 t v) (hd:DataW.Trod enc P w 0 spare held t v d p) (hb:bk d<=N):∃ cells,FitT P N t cells/\RdB M0 w v (.agg cells):=by
 obtain ⟨cs,rfl,_⟩:=okWide_struct ht hval;obtain ⟨fuel,hf⟩:=hd;obtain ⟨cells,h1,h2⟩:=vqd hB hL fuel t htL _ (d,p) hf hb;exact ⟨cells,h2,⟨cs.toList,by simp,h1⟩⟩
theorem vem (hB:Bulk bk) {L:List TypeId} (hL:wwn P L=true) {t:TypeId} (htL:t∈L) {v:Value} {d:DataW H} {p:List MemPlace} (hv:v.cells=#[v])
 (hd:DataW.Trod enc P w 0 spare held t v d p) (hb:bk d<=N):∃ c,FitT P N t [c]/\RdB M0 w v (.one c):=by
 obtain ⟨fuel,hf⟩:=hd;obtain ⟨cells,h1,h2⟩:=vqd hB hL fuel t htL _ (d,p) hf hb;rw [hv] at h1
 match cells,h1,h2 with
 | [c],h1,h2=>exact ⟨c,h2,h1.1⟩
theorem x5u (hB:Bulk bk) {L:List TypeId} (hL:wwn P L=true) {t:TypeId} (htL:t∈L) {k:IntKind} {v:Value} {d:DataW H} {p:List MemPlace} (ht:P.underlying t=some (.int k))
 (hval:Value.okWide P w r b0 t v) (hd:DataW.Trod enc P w 0 spare held t v d p) (hb:bk d<=N):∃ n:Int,k.min<=n/\n<=k.max/\RdB M0 w v (.one (.raw (.int k n))):=by
 obtain ⟨m,rfl⟩:=okWide_int ht hval;obtain ⟨c,h1,h2⟩:=vem hB hL htL rfl hd hb;obtain ⟨n,e,h3⟩:=h1.xf8 ht
 cases e;exact ⟨n,h3.1,h3.2,h2⟩
end
theorem z8b {P:Program} {H:Type} {enc:TypeId×Value->H} {w:World} {sp:Nat->Bool} {held:Bool} {fuel:Nat} {t e:TypeId} {n:Nat} {k:IntKind} {l:List Int} {cs:List Value} {p:List MemPlace}
 (ht:P.underlying t=some (.array n e)) (he:P.underlying e=some (.int k)) (hc:P.cellsOf e=1) (hct:P.cellsOf t=n)
 (h:DataW.trod enc P w 0 sp held fuel t cs=some (.agg (l.map fun z=>.lit (.int k z)),p)):cs=l.map (fun z=>Value.int k z):=by
 obtain ⟨xs,m,rfl,hx1,hlen,hn,hel⟩:=DataW.trod_array ht h;simp only [Prod.mk.injEq,DataW.agg.injEq] at hx1
 have hl:l.length=n:=by
  have:=congrArg List.length hx1.1
  simp at this;omega
 apply List.ext_getElem
 . rw [hlen,hct,List.length_map,hl]
 intro i h1 h2
 have hi:i<n:=by rw [hlen,hct] at h1;exact h1
 have h3:=hel i hi
 have hix:i<xs.length:=by omega
 rw [hc,Nat.mul_one,List.getElem?_eq_getElem hix] at h3
 have e1:(cs.drop i).take 1=[cs[i]]:=by
  rw [List.drop_eq_getElem_cons h1];rfl
 rw [e1] at h3;obtain ⟨z,e2,e3,_⟩:=DataW.trod_int he h3
 have e4:(l.map fun z=>(DataW.lit (.int k z):DataW H))[i]? = (xs.map (·.1))[i]?:=by rw [hx1.1]
 rw [List.getElem?_map,List.getElem?_map,List.getElem?_eq_getElem hix,List.getElem?_eq_getElem (by omega),e3] at e4;simp only [Option.map_some,Option.some.injEq,DataW.lit.injEq,Lit.int.injEq,true_and] at e4;rw [List.cons.injEq] at e2;rw [e2.1,List.getElem_map,e4]
end Go.Slot
namespace Go.Proofs.YtbdoipfmafbhoaaGreatDoor
set_option maxRecDepth 100000
open Go Go.Slot Go.Hp Go.Hp.T Go.ChangeShapes Go.WideShapes Go.RowKit
def Gs:List (Nat×List Cell):=[(0,sgC)]
theorem ygm:ownKnob Tryz.prog.godebug=none:=by kernel_rfl
theorem zmy:laidOutB Tryz.prog=true:=by kernel_rfl
theorem xdl {H:Type} (d:DataW H):1<=Rows.uptoBulk d:=by
 cases d with
 | lit l=>cases l<;>simp [Rows.uptoBulk]
 | nil=>simp [Rows.uptoBulk]
 | ptr d=>simp [Rows.uptoBulk]
 | slice elems spare=>simp [Rows.uptoBulk]
 | agg parts=>simp [Rows.uptoBulk]
 | iface t d=>simp [Rows.uptoBulk]
 | map entries=>simp [Rows.uptoBulk]
 | held h=>simp [Rows.uptoBulk]
theorem wfa {H:Type} {d:DataW H} {l:List (DataW H)} (h:d∈l):Rows.uptoBulk d<=Rows.uptoBulkAll l:=by
 induction l with
 | nil=>cases h
 | cons x r ih=>
  simp only [Rows.uptoBulkAll]
  cases List.mem_cons.1 h with
  | inl e=>subst e;omega
  | inr e=>have:=ih e;omega
theorem zm6 {H:Type} (l:List (DataW H)):l.length<=Rows.uptoBulkAll l:=by
 induction l with
 | nil=>simp [Rows.uptoBulkAll]
 | cons x r ih=>have:=xdl x;simp only [Rows.uptoBulkAll,List.length_cons];omega
theorem bulk {H:Type}:Bulk (H:=H) Rows.uptoBulk where
 str b:=by simp [Rows.uptoBulk]
 elems l r:=by
  have:=zm6 l
  simp only [Rows.uptoBulk];omega
 elem l r d h:=by
  have:=wfa h
  simp only [Rows.uptoBulk];omega
 part l d h:=by
  have:=wfa h
  simp only [Rows.uptoBulk];omega
theorem yq1 {H:Type} {l:List (DataW H)} (hk:Rows.uptoSmall H l=true):∀ d∈l,Rows.uptoBulk d<=1048576:=fun d hd=>by
 have h:=wfa hd;have h2:Rows.uptoBulkAll l<=1048576:=of_decide_eq_true hk;omega
def argTypes:List TypeId:=[69,67,65,24,156,63,3,9,48,92,22,58,23,74,66,71,25,76,26,94,27,100,28,50,41,43,29,31,5]
theorem xqr:wwn Tryz.prog argTypes=true:=by kernel_rfl
theorem wmi:Tryz.prog.cellsOf 69=5:=by kernel_rfl
theorem xwv:Tryz.prog.cellsOf 65=3:=by kernel_rfl
theorem v3z:Tryz.prog.cellsOf 156=2:=by kernel_rfl
theorem vy4 {t:TypeId} {d:TypeDesc} (h:Tryz.prog.underlying t=some d) (hd:∀ k,d≠.int k):∀ k,Tryz.prog.underlying t≠some (.int k):=fun k hk=>by
 rw [h] at hk;cases hk;exact hd k rfl
theorem zbm {α:Type} {C:α->List Cell} {Q:α->Prop}:∀ rows:List (List Cell),(∀ r∈rows,∃ x,r=C x/\Q x)->∃ xs:List α,rows=xs.map C/\∀ x∈xs,Q x
 | [],_=>⟨[],rfl,fun x hx=>by cases hx⟩
 | r::rows,h=>by
  obtain ⟨x,hx,hq⟩:=h r (by simp);obtain ⟨xs,hxs,hqs⟩:=zbm rows (fun r' hr'=>h r' (by simp [hr']))
  exact ⟨x::xs,by rw [hx,hxs];rfl,fun y hy=>by
   rcases List.mem_cons.1 hy with rfl | hy
   . exact hq
   . exact hqs y hy⟩
theorem len2 {α:Type} {l:List α} (h:l.length=2):∃ a b,l=[a,b]:=by
 match l,h with
 | [a,b],_=>exact ⟨a,b,rfl⟩
theorem len3 {α:Type} {l:List α} (h:l.length=3):∃ a b c,l=[a,b,c]:=by
 match l,h with
 | [a,b,c],_=>exact ⟨a,b,c,rfl⟩
theorem len5 {α:Type} {l:List α} (h:l.length=5):∃ a b c d e,l=[a,b,c,d,e]:=by
 match l,h with
 | [a,b,c,d,e],_=>exact ⟨a,b,c,d,e,rfl⟩
theorem xox:∀(t:TypeId) (cs:List Cell),FitT Tryz.prog 1048576 t cs->(t=69->∃ x:Ex,cs=exC x/\x.Sm)/\(t=67->∃ l:List Ex,cs=[.sl 5 (l.map Ex.cells)]/\l.length<=1048576/\∀ y∈l,y.Sm):=by
 intro t cs h
 induction h with
 | int ht=>exact ⟨fun e=>(by subst e;rw [Tryz.underlying69] at ht;cases ht),fun e=>(by subst e;rw [Tryz.underlying67] at ht;cases ht)⟩
 | bool ht=>exact ⟨fun e=>(by subst e;rw [Tryz.underlying69] at ht;cases ht),fun e=>(by subst e;rw [Tryz.underlying67] at ht;cases ht)⟩
 | str ht=>exact ⟨fun e=>(by subst e;rw [Tryz.underlying69] at ht;cases ht),fun e=>(by subst e;rw [Tryz.underlying67] at ht;cases ht)⟩
 | ints ht he=>exact ⟨fun e=>(by subst e;rw [Tryz.underlying69] at ht;cases ht),fun e=>(by subst e;rw [Tryz.underlying67] at ht;cases ht;rw [Tryz.underlying69] at he;cases he)⟩
 | array ht=>exact ⟨fun e=>(by subst e;rw [Tryz.underlying69] at ht;cases ht),fun e=>(by subst e;rw [Tryz.underlying67] at ht;cases ht)⟩
 | sl ht he hl h ih=>
  refine ⟨fun e=>(by subst e;rw [Tryz.underlying69] at ht;cases ht),fun e=>?_⟩;subst e;rw [Tryz.underlying67] at ht
  cases ht
  obtain ⟨xs,rfl,hxs⟩:=zbm (C:=Ex.cells) (Q:=Ex.Sm) _ (fun r hr=>by
   obtain ⟨x,h1,h2⟩:=(ih r hr).1 rfl
   exact ⟨x,by rw [h1,Ex.wzy],h2⟩)
  exact ⟨xs,by rw [wmi],by simpa using hl,hxs⟩
 | struct ht hl h ih=>
  refine ⟨fun e=>?_,fun e=>(by subst e;rw [Tryz.underlying67] at ht;cases ht)⟩;subst e;rw [Tryz.underlying69] at ht
  cases ht;obtain ⟨r0,r1,r2,r3,r4,rfl⟩:=len5 hl;obtain ⟨o,rfl,_⟩:=(h 0 _ r0 rfl rfl).xf8 (Tryz.underlying3);obtain ⟨n,rfl,_⟩:=(h 1 _ r1 rfl rfl).xf8 (Tryz.underlying3);obtain ⟨u,rfl,hu⟩:=(h 2 _ r2 rfl rfl).zle (Tryz.underlying9);obtain ⟨s,rfl,hs⟩:=(h 3 _ r3 rfl rfl).zle (Tryz.underlying9);obtain ⟨l,rfl,hll,hls⟩:=(ih 4 _ r4 rfl rfl).2 rfl;exact ⟨.mk o n u s l,rfl,.mk _ (Nat.le_trans hll (by decide)) (Nat.le_trans hu (by decide)) (Nat.le_trans hs (by decide)) hls⟩
theorem wa0 {cs:List Cell} (h:FitT Tryz.prog 1048576 156 cs):∃ x:Rw,cs=x.C/\True:=by
 obtain ⟨rows,rfl,hl,hr⟩:=h.yce Tryz.underlying156;obtain ⟨r0,r1,rfl⟩:=len2 hl;obtain ⟨a,rfl,_⟩:=(hr 0 _ r0 rfl rfl).xf8 (Tryz.underlying3);obtain ⟨b,rfl,_⟩:=(hr 1 _ r1 rfl rfl).xf8 (Tryz.underlying3);exact ⟨⟨a,b⟩,rfl,trivial⟩
theorem vrd {cs:List Cell} (h:FitT Tryz.prog 1048576 65 cs):∃ x:Tb,cs=x.C/\x.Sm:=by
 obtain ⟨rows,rfl,hl,hr⟩:=h.yce Tryz.underlying65;obtain ⟨r0,r1,r2,rfl⟩:=len3 hl;obtain ⟨s,rfl,hs⟩:=(hr 0 _ r0 rfl rfl).zle (Tryz.underlying9);obtain ⟨u,rfl,hu⟩:=(hr 1 _ r1 rfl rfl).zle (Tryz.underlying9);obtain ⟨rs,rfl,hrl,hrr⟩:=(hr 2 _ r2 rfl rfl).v01 (Tryz.underlying63) (vy4 Tryz.underlying156 (fun k h=>by cases h));obtain ⟨xs,rfl,_⟩:=zbm (C:=Rw.C) (Q:=fun _=>True) _ (fun r hr'=>wa0 (hrr r hr'));refine ⟨⟨s,u,xs⟩,by rw [v3z];try rfl,⟨Nat.le_trans hs (by decide),Nat.le_trans hu (by decide),?_⟩⟩
 have:xs.length<=1048576:=by simpa using hrl
 exact Nat.le_trans this (by decide)
section
variable {H:Type} {enc:TypeId×Value->H} {W:World} {v:Value} {d:DataW H} {p:List MemPlace} {b:Nat}
end
theorem wpr {α:Type} {l:List α} (h:l.length=9):∃ a b c d e f g h i,l=[a,b,c,d,e,f,g,h,i]:=by
 match l,h with
 | [a,b,c,d,e,f,g,h,i],_=>exact ⟨a,b,c,d,e,f,g,h,i,rfl⟩
theorem y6d {α:Type} {l:List α} (h:l.length=6):∃ a b c d e f,l=[a,b,c,d,e,f]:=by
 match l,h with
 | [a,b,c,d,e,f],_=>exact ⟨a,b,c,d,e,f,rfl⟩
theorem ywn:Tryz.prog.cellsOf 92=6:=by kernel_rfl
theorem vax:Tryz.prog.cellsOf 58=3:=by kernel_rfl
theorem yyo:Tryz.prog.cellsOf 74=2:=by kernel_rfl
theorem zme:Tryz.prog.cellsOf 94=3:=by kernel_rfl
theorem x82:Tryz.prog.cellsOf 100=3:=by kernel_rfl
theorem znb:Tryz.prog.cellsOf 71=7:=by kernel_rfl
theorem w2f:Tryz.prog.cellsOf 76=7:=by kernel_rfl
theorem xxe:Tryz.prog.cellsOf 50=6:=by kernel_rfl
theorem zey:Tryz.prog.cellsOf 43=2:=by kernel_rfl
theorem y4y:Tryz.prog.cellsOf 9=1:=by kernel_rfl
theorem zjb {cs:List Cell} (h:FitT Tryz.prog 1048576 9 cs):∃ s:ByteArray,cs=[cS s]/\s.size<=1073741824:=by
 obtain ⟨s,rfl,q⟩:=h.zle Tryz.underlying9;exact ⟨s,rfl,Nat.le_trans q (by decide)⟩
theorem wqz {cs:List Cell} (h:FitT Tryz.prog 1048576 92 cs):∃ x:Imp,cs=x.C/\(x.name.size<=1073741824/\x.unit.size<=1073741824/\x.port.size<=1073741824):=by
 obtain ⟨rows,rfl,hl,hr⟩:=h.yce Tryz.underlying92;obtain ⟨r0,r1,r2,r3,r4,r5,rfl⟩:=y6d hl;obtain ⟨s0,rfl,q0⟩:=(hr 0 _ r0 rfl rfl).zle (Tryz.underlying9);obtain ⟨s1,rfl,q1⟩:=(hr 1 _ r1 rfl rfl).zle (Tryz.underlying9);obtain ⟨s2,rfl,_⟩:=(hr 2 _ r2 rfl rfl).xf8 (Tryz.underlying3);obtain ⟨s3,rfl,_⟩:=(hr 3 _ r3 rfl rfl).xf8 (Tryz.underlying3);obtain ⟨s4,rfl,q4⟩:=(hr 4 _ r4 rfl rfl).zle (Tryz.underlying9);obtain ⟨s5,rfl,_⟩:=(hr 5 _ r5 rfl rfl).xf8 (Tryz.underlying3);exact ⟨⟨s0,s1,s2,s3,s4,s5⟩,rfl,Nat.le_trans q0 (by decide),Nat.le_trans q1 (by decide),Nat.le_trans q4 (by decide)⟩
theorem v5q {cs:List Cell} (h:FitT Tryz.prog 1048576 58 cs):∃ x:Inp,cs=x.C/\(x.name.size<=1073741824/\x.unit.size<=1073741824/\x.kind.size<=1073741824):=by
 obtain ⟨rows,rfl,hl,hr⟩:=h.yce Tryz.underlying58;obtain ⟨r0,r1,r2,rfl⟩:=len3 hl;obtain ⟨s0,rfl,q0⟩:=(hr 0 _ r0 rfl rfl).zle (Tryz.underlying9);obtain ⟨s1,rfl,q1⟩:=(hr 1 _ r1 rfl rfl).zle (Tryz.underlying9);obtain ⟨s2,rfl,q2⟩:=(hr 2 _ r2 rfl rfl).zle (Tryz.underlying9);exact ⟨⟨s0,s1,s2⟩,rfl,Nat.le_trans q0 (by decide),Nat.le_trans q1 (by decide),Nat.le_trans q2 (by decide)⟩
theorem ydu {cs:List Cell} (h:FitT Tryz.prog 1048576 74 cs):∃ x:Prm,cs=x.C/\(x.name.size<=1073741824/\x.unit.size<=1073741824):=by
 obtain ⟨rows,rfl,hl,hr⟩:=h.yce Tryz.underlying74;obtain ⟨r0,r1,rfl⟩:=len2 hl;obtain ⟨s0,rfl,q0⟩:=(hr 0 _ r0 rfl rfl).zle (Tryz.underlying9);obtain ⟨s1,rfl,q1⟩:=(hr 1 _ r1 rfl rfl).zle (Tryz.underlying9);exact ⟨⟨s0,s1⟩,rfl,Nat.le_trans q0 (by decide),Nat.le_trans q1 (by decide)⟩
theorem zjn {cs:List Cell} (h:FitT Tryz.prog 1048576 94 cs):∃ x:Por,cs=x.C/\(x.name.size<=1073741824/\x.unit.size<=1073741824):=by
 obtain ⟨rows,rfl,hl,hr⟩:=h.yce Tryz.underlying94;obtain ⟨r0,r1,r2,rfl⟩:=len3 hl;obtain ⟨s0,rfl,q0⟩:=(hr 0 _ r0 rfl rfl).zle (Tryz.underlying9);obtain ⟨s1,rfl,q1⟩:=(hr 1 _ r1 rfl rfl).zle (Tryz.underlying9);obtain ⟨s2,rfl,_⟩:=(hr 2 _ r2 rfl rfl).xf8 (Tryz.underlying3);exact ⟨⟨s0,s1,s2⟩,rfl,Nat.le_trans q0 (by decide),Nat.le_trans q1 (by decide)⟩
theorem zmr {cs:List Cell} (h:FitT Tryz.prog 1048576 100 cs):∃ x:Sto,cs=x.C/\(x.name.size<=1073741824/\x.unit.size<=1073741824):=by
 obtain ⟨rows,rfl,hl,hr⟩:=h.yce Tryz.underlying100;obtain ⟨r0,r1,r2,rfl⟩:=len3 hl;obtain ⟨s0,rfl,q0⟩:=(hr 0 _ r0 rfl rfl).zle (Tryz.underlying9);obtain ⟨s1,rfl,q1⟩:=(hr 1 _ r1 rfl rfl).zle (Tryz.underlying9);obtain ⟨s2,rfl,_⟩:=(hr 2 _ r2 rfl rfl).xf8 (Tryz.underlying3);exact ⟨⟨s0,s1,s2⟩,rfl,Nat.le_trans q0 (by decide),Nat.le_trans q1 (by decide)⟩
theorem z8e {cs:List Cell} (h:FitT Tryz.prog 1048576 71 cs):∃ x:Fnc,cs=x.C/\(x.name.size<=1073741824/\x.params.length<=1073741824/\(∀ y∈x.params,y.name.size<=1073741824/\y.unit.size<=1073741824)/\x.body.Sm):=by
 obtain ⟨rows,rfl,hl,hr⟩:=h.yce Tryz.underlying71;obtain ⟨r0,r1,r2,rfl⟩:=len3 hl;obtain ⟨s0,rfl,q0⟩:=(hr 0 _ r0 rfl rfl).zle (Tryz.underlying9);obtain ⟨t1,rfl,q1,e1⟩:=(hr 1 _ r1 rfl rfl).v01 (Tryz.underlying66) (vy4 Tryz.underlying74 (fun k h=>by cases h));obtain ⟨s1,rfl,y1⟩:=zbm (C:=Prm.C) (Q:=fun x=>x.name.size<=1073741824/\x.unit.size<=1073741824) _ (fun r hr'=>ydu (e1 r hr'));rw [List.length_map] at q1;obtain ⟨s2,rfl,q2⟩:=(xox _ _ (hr 2 _ r2 rfl rfl)).1 rfl;exact ⟨⟨s0,s1,s2⟩,by rw [yyo];rfl,Nat.le_trans q0 (by decide),Nat.le_trans q1 (by decide),y1,q2⟩
theorem xpi {cs:List Cell} (h:FitT Tryz.prog 1048576 76 cs):∃ x:Cel,cs=x.C/\(x.name.size<=1073741824/\x.unit.size<=1073741824/\x.x.Sm):=by
 obtain ⟨rows,rfl,hl,hr⟩:=h.yce Tryz.underlying76;obtain ⟨r0,r1,r2,rfl⟩:=len3 hl;obtain ⟨s0,rfl,q0⟩:=(hr 0 _ r0 rfl rfl).zle (Tryz.underlying9);obtain ⟨s1,rfl,q1⟩:=(hr 1 _ r1 rfl rfl).zle (Tryz.underlying9);obtain ⟨s2,rfl,q2⟩:=(xox _ _ (hr 2 _ r2 rfl rfl)).1 rfl;exact ⟨⟨s0,s1,s2⟩,rfl,Nat.le_trans q0 (by decide),Nat.le_trans q1 (by decide),q2⟩
theorem xj7 {cs:List Cell} (h:FitT Tryz.prog 1048576 50 cs):∃ x:Stp,cs=x.C/\(x.Sm):=by
 obtain ⟨rows,rfl,hl,hr⟩:=h.yce Tryz.underlying50;obtain ⟨r0,r1,r2,r3,r4,r5,rfl⟩:=y6d hl;obtain ⟨s0,rfl,_⟩:=(hr 0 _ r0 rfl rfl).xf8 (Tryz.underlying3);obtain ⟨t1,rfl,q1,e1⟩:=(hr 1 _ r1 rfl rfl).v01 (Tryz.underlying48) (vy4 Tryz.underlying9 (fun k h=>by cases h));obtain ⟨s1,rfl,y1⟩:=zbm (C:=fun s=>[cS s]) (Q:=fun s=>s.size<=1073741824) _ (fun r hr'=>zjb (e1 r hr'));rw [List.length_map] at q1;obtain ⟨t2,rfl,q2,e2⟩:=(hr 2 _ r2 rfl rfl).v01 (Tryz.underlying48) (vy4 Tryz.underlying9 (fun k h=>by cases h));obtain ⟨s2,rfl,y2⟩:=zbm (C:=fun s=>[cS s]) (Q:=fun s=>s.size<=1073741824) _ (fun r hr'=>zjb (e2 r hr'));rw [List.length_map] at q2;obtain ⟨s3,rfl,q3⟩:=(hr 3 _ r3 rfl rfl).zle (Tryz.underlying9);obtain ⟨t4,rfl,q4,e4⟩:=(hr 4 _ r4 rfl rfl).v01 (Tryz.underlying48) (vy4 Tryz.underlying9 (fun k h=>by cases h));obtain ⟨s4,rfl,y4⟩:=zbm (C:=fun s=>[cS s]) (Q:=fun s=>s.size<=1073741824) _ (fun r hr'=>zjb (e4 r hr'));rw [List.length_map] at q4;obtain ⟨s5,rfl,_⟩:=(hr 5 _ r5 rfl rfl).xf8 (Tryz.underlying3);exact ⟨⟨s0,s1,s2,s3,s4,s5⟩,by rw [y4y];rfl,⟨Nat.le_trans q1 (by decide),Nat.le_trans q2 (by decide),Nat.le_trans q4 (by decide),y1,y2,y4,Nat.le_trans q3 (by decide)⟩⟩
theorem yqd {cs:List Cell} (h:FitT Tryz.prog 1048576 43 cs):∃ x:Rcp,cs=x.C/\(x.kind.size<=1073741824/\x.steps.length<=1073741824/\∀ y∈x.steps,y.Sm):=by
 obtain ⟨rows,rfl,hl,hr⟩:=h.yce Tryz.underlying43;obtain ⟨r0,r1,rfl⟩:=len2 hl;obtain ⟨s0,rfl,q0⟩:=(hr 0 _ r0 rfl rfl).zle (Tryz.underlying9);obtain ⟨t1,rfl,q1,e1⟩:=(hr 1 _ r1 rfl rfl).v01 (Tryz.underlying41) (vy4 Tryz.underlying50 (fun k h=>by cases h));obtain ⟨s1,rfl,y1⟩:=zbm (C:=Stp.C) (Q:=Stp.Sm) _ (fun r hr'=>xj7 (e1 r hr'));rw [List.length_map] at q1;exact ⟨⟨s0,s1⟩,by rw [xxe];rfl,Nat.le_trans q0 (by decide),Nat.le_trans q1 (by decide),y1⟩
theorem xit {cs:List Cell} (h:FitT Tryz.prog 1048576 31 cs):∃ x:Sht,cs=shtC x/\x.Sm:=by
 obtain ⟨rows,rfl,hl,hr⟩:=h.yce Tryz.underlying31;obtain ⟨r0,r1,r2,r3,r4,r5,r6,r7,r8,rfl⟩:=wpr hl;obtain ⟨s0,rfl,q0⟩:=(hr 0 _ r0 rfl rfl).zle (Tryz.underlying9);obtain ⟨t1,rfl,q1,e1⟩:=(hr 1 _ r1 rfl rfl).v01 (Tryz.underlying22) (vy4 Tryz.underlying92 (fun k h=>by cases h));obtain ⟨s1,rfl,y1⟩:=zbm (C:=Imp.C) (Q:=fun x=>x.name.size<=1073741824/\x.unit.size<=1073741824/\x.port.size<=1073741824) _ (fun r hr'=>wqz (e1 r hr'));rw [List.length_map] at q1;obtain ⟨t2,rfl,q2,e2⟩:=(hr 2 _ r2 rfl rfl).v01 (Tryz.underlying23) (vy4 Tryz.underlying58 (fun k h=>by cases h));obtain ⟨s2,rfl,y2⟩:=zbm (C:=Inp.C) (Q:=fun x=>x.name.size<=1073741824/\x.unit.size<=1073741824/\x.kind.size<=1073741824) _ (fun r hr'=>v5q (e2 r hr'));rw [List.length_map] at q2;obtain ⟨t3,rfl,q3,e3⟩:=(hr 3 _ r3 rfl rfl).v01 (Tryz.underlying24) (vy4 Tryz.underlying65 (fun k h=>by cases h));obtain ⟨s3,rfl,y3⟩:=zbm (C:=Tb.C) (Q:=Tb.Sm) _ (fun r hr'=>vrd (e3 r hr'));rw [List.length_map] at q3;obtain ⟨t4,rfl,q4,e4⟩:=(hr 4 _ r4 rfl rfl).v01 (Tryz.underlying25) (vy4 Tryz.underlying71 (fun k h=>by cases h));obtain ⟨s4,rfl,y4⟩:=zbm (C:=Fnc.C) (Q:=fun x=>x.name.size<=1073741824/\x.params.length<=1073741824/\(∀ y∈x.params,y.name.size<=1073741824/\y.unit.size<=1073741824)/\x.body.Sm) _ (fun r hr'=>z8e (e4 r hr'));rw [List.length_map] at q4;obtain ⟨t5,rfl,q5,e5⟩:=(hr 5 _ r5 rfl rfl).v01 (Tryz.underlying26) (vy4 Tryz.underlying76 (fun k h=>by cases h));obtain ⟨s5,rfl,y5⟩:=zbm (C:=Cel.C) (Q:=fun x=>x.name.size<=1073741824/\x.unit.size<=1073741824/\x.x.Sm) _ (fun r hr'=>xpi (e5 r hr'));rw [List.length_map] at q5;obtain ⟨t6,rfl,q6,e6⟩:=(hr 6 _ r6 rfl rfl).v01 (Tryz.underlying27) (vy4 Tryz.underlying94 (fun k h=>by cases h));obtain ⟨s6,rfl,y6⟩:=zbm (C:=Por.C) (Q:=fun x=>x.name.size<=1073741824/\x.unit.size<=1073741824) _ (fun r hr'=>zjn (e6 r hr'));rw [List.length_map] at q6;obtain ⟨t7,rfl,q7,e7⟩:=(hr 7 _ r7 rfl rfl).v01 (Tryz.underlying28) (vy4 Tryz.underlying100 (fun k h=>by cases h));obtain ⟨s7,rfl,y7⟩:=zbm (C:=Sto.C) (Q:=fun x=>x.name.size<=1073741824/\x.unit.size<=1073741824) _ (fun r hr'=>zmr (e7 r hr'));rw [List.length_map] at q7;obtain ⟨t8,rfl,q8,e8⟩:=(hr 8 _ r8 rfl rfl).v01 (Tryz.underlying29) (vy4 Tryz.underlying43 (fun k h=>by cases h));obtain ⟨s8,rfl,y8⟩:=zbm (C:=Rcp.C) (Q:=fun x=>x.kind.size<=1073741824/\x.steps.length<=1073741824/\∀ y∈x.steps,y.Sm) _ (fun r hr'=>yqd (e8 r hr'));rw [List.length_map] at q8;refine ⟨⟨s0,s1,s2,s3,s4,s5,s6,s7,s8⟩,?_,⟨Nat.le_trans q0 (by decide),Nat.le_trans q1 (by decide),Nat.le_trans q2 (by decide),Nat.le_trans q3 (by decide),Nat.le_trans q4 (by decide),Nat.le_trans q5 (by decide),Nat.le_trans q6 (by decide),Nat.le_trans q7 (by decide),Nat.le_trans q8 (by decide),y1,y2,y3,y4,y5,y6,y7,y8⟩⟩;rw [ywn,vax,xwv,znb,w2f,zme,x82,zey];rfl
theorem xzt {H:Type} {enc:TypeId×Value->H} {W:World} {v:Value} {d:DataW H} {p:List MemPlace} {b:Nat} (hval:Value.okWide Tryz.prog W .any b 31 v) (hd:DataW.Trod enc Tryz.prog W 0 (fun _=>true) true 31 v d p) (hb:Rows.uptoBulk d<=1048576) :
 ∃ x:Sht,RdB M0 W v (.agg (shtC x))/\x.Sm:=by
 obtain ⟨cells,h1,h2⟩:=vsy bulk xqr (by decide) Tryz.underlying31 hval hd hb;obtain ⟨x,rfl,h3⟩:=xit h1;exact ⟨x,h2,h3⟩
theorem xkn {H:Type} {enc:TypeId×Value->H} {W:World} {v:Value} {d:DataW H} {p:List MemPlace} {b:Nat} (hval:Value.okWide Tryz.prog W .any b 3 v) (hd:DataW.Trod enc Tryz.prog W 0 (fun _=>true) true 3 v d p) (hb:Rows.uptoBulk d<=1048576) :
 ∃ n:Int,RdB M0 W v (.one (cI n)):=by
 obtain ⟨n,_,_,h⟩:=x5u bulk xqr (by decide) Tryz.underlying3 hval hd hb;exact ⟨n,h⟩
def zH:Value:=.agg #[.string ⟨#[]⟩,.slice none 0 0,.slice none 0 0,.slice none 0 0,.slice none 0 0,.slice none 0 0,.slice none 0 0,.slice none 0 0,.slice none 0 0]
def dH {H:Type}:DataW H:=.agg [.lit (.string []),.nil,.nil,.nil,.nil,.nil,.nil,.nil,.nil]
def xtn:List (String×DataW Unit):=Rows.parcelBlameUptoRow.laid
def vev:String:=(xtn.headD (Tryz.f0.name,.nil)).1
theorem vxa:Tryz.prog.globalNamed vev=some 0:=by kernel_rfl
theorem w5o:(Tryz.prog.globals[0]?).map (·.type)=some 230:=by kernel_rfl
theorem x21 {W:World} (h:laidMetH Tryz.prog xtn W):yf2 Gs M0 W:=by
 rw [MakeChecks.laidMetH_plain _ _ _ (by kernel_rfl)] at h;obtain ⟨ps,⟨g0,t0,cs0,f0,p0,q0,hg0,ht0,hv0,hd0,_,_⟩,_,_⟩:=h;obtain rfl:=Option.some.inj (vxa.symm.trans hg0);obtain rfl:=Option.some.inj (w5o.symm.trans ht0);have e:=z8b (l:=[40,41,44,59,58,61,60,43,45,42,47,123,125]) Tryz.underlying230 Tryz.underlying5 (by kernel_rfl) (by kernel_rfl) hd0;intro g cs hg;have hg':=List.mem_singleton.1 hg
 cases hg';refine ⟨cs0.toList,fun j u hu=>⟨fun h=>h,?_⟩,?_⟩
 . rw [World.var?_cell hg0 hv0 j,<-Array.getElem?_toList];exact hu
 . rw [e];exact ⟨.raw rfl,.raw rfl,.raw rfl,.raw rfl,.raw rfl,.raw rfl,.raw rfl,.raw rfl,.raw rfl,.raw rfl,.raw rfl,.raw rfl,.raw rfl,trivial⟩
theorem x94 (os:Os) (args:Array Value):laidMetH Tryz.prog xtn ((World.doorLaid Tryz.prog 140 os).forCall (fun _ _=>0) ⟨#[],args,[]⟩).memory:=
 laidMetH_of_parts3 (fuel:=8) (laidMet_of_run' 8 (by kernel_rfl) (by kernel_rfl)) (by kernel_rfl) (by kernel_rfl)
theorem zsp {C:Checked} {os:Os} {f:FuncId} {fn:Func} {H:Type} {enc:TypeId×Value->H} {s:OpenSpec} {k:(H:Type)->List (DataW H)->Bool} (hk:s.cond=some k) {conds:List PathCond} {apart:Bool} {laid:List (String×DataW Unit)} (modest:Bool) (n:Nat) (args:Array Value) (fuel:Nat)
 (hsh:((World.doorLaid C.prog n os).forCall (fun _ _=>0) ⟨#[],args,[]⟩).Shaped C.prog)
 (hok:Input.okWideB C.prog ((World.doorLaid C.prog n os).forCall (fun _ _=>0) ⟨#[],args,[]⟩) f ⟨#[],args,[]⟩=true)
 {x:List (DataW H)×List (DataW H)×List MemPlace} (hx:DataW.whole enc C.prog ((World.doorLaid C.prog n os).forCall (fun _ _=>0) ⟨#[],args,[]⟩).memory fn.params.toList s.vars apart args.toList fuel=some x)
 (hconds:conds.all (PathCond.test C.prog ⟨fn.params.toList,x.1,s.bare.plain.varTypes C.prog,x.2.1⟩)=true) (hkk:k H (x.1++x.2.1)=true)
 (hsz:s.bare.sizedB enc C.prog fn apart ((World.doorLaid C.prog n os).forCall (fun _ _=>0) ⟨#[],args,[]⟩).memory args fuel=true)
 (hl:laidMetH C.prog laid ((World.doorLaid C.prog n os).forCall (fun _ _=>0) ⟨#[],args,[]⟩).memory) :
 ∃(w:World) (tape:Tape) (i:Input),w.os=os/\(w.forCall tape i).Shaped C.prog/\i.vars=[]/\Input.okWide C.prog (w.forCall tape i) .any w.heap.size f i/\
  s.preRow enc C.prog fn conds apart laid (w.forCall tape i).memory i.args/\({ modest:=modest }:Assume).holds C.prog (lone (Frame.enter C.prog f i.args .normal) [] (w.forCall tape i)):=
 ⟨World.doorLaid C.prog n os,fun _ _=>0,⟨#[],args,[]⟩,rfl,hsh,(Input.okWide_of_okWideB (base:=0) hok).1,(Input.okWide_of_okWideB hok).2,
  ⟨⟨(OpenSpec.pre_some hk conds apart _ _).2 ⟨x.1,x.2.1,x.2.2,DataW.Whole_of_whole hx,hconds,hkk⟩,hl⟩,sizedMet_of_sizedB hsz⟩,by
  simp only [Assume.holds]
  exact ⟨by simp,by simp,fun _=>Modest.zero,by simp,by simp⟩⟩
theorem ended {f:FuncId} {args:List AV} {vs:List Value} {W:World} (hc:Go.Hp.CallsD Gs Tryz.prog f args (.one (cB true))) (hg:yf2 Gs M0 W) (hr:RdBL M0 W vs args):Calls Tryz.prog f vs.toArray W fun e W'=>e=.returned (.bool true)/\Below W.heap.size W W':=
 (hc.2 M0 W vs (fun b o h=>h.elim) hg hr).mono (fun e W' ⟨v,he,hb,hr',_⟩=>by
   have hv:v=.bool true:=RdC.y6j hr';rw [hv] at he
   exact ⟨he,hb⟩)
def dI {H:Type}:DataW H:=.lit (.int .i64 0)
end Go.Proofs.YtbdoipfmafbhoaaGreatDoor
