/- The proof, part Q36: V5, 3q. -/
import Derived.Test.YtkbkjjahlafhoaaGreatDoorQ3
import Derived.Test.YtkbkjjahlafhoaaGreatDoorQ4
import Derived.Test.YtkbkjjahlafhoaaGreatDoorQ27
import Derived.Test.YtkbkjjahlafhoaaGreatDoorQ35
import Derived.Test.YtkbkjjahlafhoaaGreatDoorQ17
import Derived.Test.YtkbkjjahlafhoaaGreatDoorRows
import Derived.Deep.DeepHandedRow
import Derived.LaidMore
import Derived.MakeChecks
import Derived.ProofKit
namespace Go.Slot
open Go Go.RowKit Go.ChangeShapes Go.WideShapes
variable {L:List TypeId} {t e:TypeId} {v:Value} {k:IntKind}
section
variable {P:Program} {H:Type} {enc:TypeId×Value->H} {w:World} {spare:Nat->Bool} {held:Bool} {bk:DataW H->Nat} {N:Nat} {r:Reach} {b0:Nat}
theorem xay (hB:Bulk bk) (hL:x89 P L=true) (htL:t∈L) {d:DataW H} {p:List MemPlace} {fs:Array Field} (ht:P.underlying t=some (.struct fs))
 (hval:Value.okWide P w r b0 t v) (hd:DataW.Trod enc P w 0 spare held t v d p) (hb:bk d<=N):∃ cells,FitT P N t cells/\RdB M0 w v (.agg cells):=by
 obtain ⟨cs,rfl,_⟩:=okWide_struct ht hval;obtain ⟨fuel,hf⟩:=hd;obtain ⟨cells,h1,h2⟩:=xni hB hL fuel t htL _ (d,p) hf hb;exact ⟨cells,h2,⟨cs.toList,by simp,h1⟩⟩
theorem wr3 (hB:Bulk bk) (hL:x89 P L=true) (htL:t∈L) {d:DataW H} {p:List MemPlace} (hv:v.cells=#[v])
 (hd:DataW.Trod enc P w 0 spare held t v d p) (hb:bk d<=N):∃ c,FitT P N t [c]/\RdB M0 w v (.one c):=by
 obtain ⟨fuel,hf⟩:=hd;obtain ⟨cells,h1,h2⟩:=xni hB hL fuel t htL _ (d,p) hf hb;rw [hv] at h1
 match cells,h1,h2 with
 | [c],h1,h2=>exact ⟨c,h2,h1.1⟩
theorem vfc (hB:Bulk bk) (hL:x89 P L=true) (htL:t∈L) {d:DataW H} {p:List MemPlace} (ht:P.underlying t=some (.slice e))
 (hval:Value.okWide P w r b0 t v) (hd:DataW.Trod enc P w 0 spare held t v d p) (hb:bk d<=N):∃ c,FitT P N t [c]/\RdB M0 w v (.one c):=by
 obtain ⟨a,len,cap,rfl⟩:=okWide_slice ht hval;exact wr3 hB hL htL rfl hd hb
theorem vu4 (hB:Bulk bk) (hL:x89 P L=true) (htL:t∈L) {d:DataW H} {p:List MemPlace} (ht:P.underlying t=some (.int k))
 (hval:Value.okWide P w r b0 t v) (hd:DataW.Trod enc P w 0 spare held t v d p) (hb:bk d<=N):∃ n:Int,k.min<=n/\n<=k.max/\RdB M0 w v (.one (.raw (.int k n))):=by
 obtain ⟨m,rfl⟩:=okWide_int ht hval;obtain ⟨c,h1,h2⟩:=wr3 hB hL htL rfl hd hb;obtain ⟨n,e,h3⟩:=h1.x4k ht
 cases e;exact ⟨n,h3.1,h3.2,h2⟩
end
theorem xnt {P:Program} {H:Type} {enc:TypeId×Value->H} {w:World} {sp:Nat->Bool} {held:Bool} {fuel:Nat} {n:Nat} {l:List Int} {cs:List Value} {p:List MemPlace}
 (ht:P.underlying t=some (.array n e)) (he:P.underlying e=some (.int k)) (hc:P.cellsOf e=1) (hct:P.cellsOf t=n)
 (h:DataW.trod enc P w 0 sp held fuel t cs=some (.agg (l.map fun z=>.lit (.int k z)),p)):cs=l.map (fun z=>Value.int k z):=by
 obtain ⟨xs,m,rfl,hx1,hlen,hn,hel⟩:=DataW.trod_array ht h;simp only [Prod.mk.injEq,DataW.agg.injEq] at hx1
 have hl:l.length=n:=by
  have:=congrArg List.length hx1.1
  simp at this;omega
 apply List.ext_getElem
 . rw [hlen,hct,List.length_map,hl]
 intro i h1 h2
 have hi:i<n:=by rw [hlen,hct] at h1;exact h1
 have h3:=hel i hi
 have hix:i<xs.length:=by omega
 rw [hc,Nat.mul_one,List.getElem?_eq_getElem hix] at h3
 have e1:(cs.drop i).take 1=[cs[i]]:=by
  rw [List.drop_eq_getElem_cons h1];rfl
 rw [e1] at h3;obtain ⟨z,e2,e3,_⟩:=DataW.trod_int he h3
 have e4:(l.map fun z=>(DataW.lit (.int k z):DataW H))[i]? = (xs.map (·.1))[i]?:=by rw [hx1.1]
 rw [List.getElem?_map,List.getElem?_map,List.getElem?_eq_getElem hix,List.getElem?_eq_getElem (by omega),e3] at e4;simp only [Option.map_some,Option.some.injEq,DataW.lit.injEq,Lit.int.injEq,true_and] at e4;rw [List.cons.injEq] at e2;rw [e2.1,List.getElem_map,e4]
end Go.Slot
namespace Go.Proofs.YtkbkjjahlafhoaaGreatDoor
set_option maxRecDepth 100000
open Go Go.Slot Go.Hp Go.Hp.T Go.ChangeShapes Go.WideShapes Go.RowKit
variable {H α:Type} {cs:List Cell} {W:World} {v:Value} {b:Nat} {f:FuncId}
def Gs:List (Nat×List Cell):=[(0,sgC)]
theorem yp4:ownKnob Tryz.prog.godebug=none:=by kernel_rfl
theorem yx4:laidOutB Tryz.prog=true:=by kernel_rfl
theorem zb5 (d:DataW H):1<=Rows.uptoBulk d:=by
 cases d with
 | lit l=>cases l<;>simp [Rows.uptoBulk]
 | nil=>simp [Rows.uptoBulk]
 | ptr d=>simp [Rows.uptoBulk]
 | slice elems spare=>simp [Rows.uptoBulk]
 | agg parts=>simp [Rows.uptoBulk]
 | iface t d=>simp [Rows.uptoBulk]
 | map entries=>simp [Rows.uptoBulk]
 | held h=>simp [Rows.uptoBulk]
theorem vkf {d:DataW H} {l:List (DataW H)} (h:d∈l):Rows.uptoBulk d<=Rows.uptoBulkAll l:=by
 induction l with
 | nil=>cases h
 | cons x r ih=>
  simp only [Rows.uptoBulkAll]
  cases List.mem_cons.1 h with
  | inl e=>subst e;omega
  | inr e=>have:=ih e;omega
theorem w0x (l:List (DataW H)):l.length<=Rows.uptoBulkAll l:=by
 induction l with
 | nil=>simp [Rows.uptoBulkAll]
 | cons x r ih=>have:=zb5 x;simp only [Rows.uptoBulkAll,List.length_cons];omega
theorem bulk:Bulk (H:=H) Rows.uptoBulk where
 str b:=by simp [Rows.uptoBulk]
 elems l r:=by
  have:=w0x l
  simp only [Rows.uptoBulk];omega
 elem l r d h:=by
  have:=vkf h
  simp only [Rows.uptoBulk];omega
 part l d h:=by
  have:=vkf h
  simp only [Rows.uptoBulk];omega
theorem z8p {l:List (DataW H)} (hk:Rows.uptoSmall H l=true):∀ d∈l,Rows.uptoBulk d<=1048576:=fun d hd=>by
 have h:=vkf hd;have h2:Rows.uptoBulkAll l<=1048576:=of_decide_eq_true hk;omega
def argTypes:List TypeId:=[127,125,122,24,239,120,3,9,68,172,22,64,23,181,124,129,25,131,26,175,27,177,28,70,65,67,29,31,5,51,33,39,49,47,80,32,60,37,62,38,41]
theorem y1c:x89 Tryz.prog argTypes=true:=by kernel_rfl
theorem wrn:Tryz.prog.cellsOf 127=5:=by kernel_rfl
theorem x79:Tryz.prog.cellsOf 122=3:=by kernel_rfl
theorem vqh:Tryz.prog.cellsOf 239=2:=by kernel_rfl
theorem w1g {t:TypeId} {d:TypeDesc} (h:Tryz.prog.underlying t=some d) (hd:∀ k,d≠.int k):∀ k,Tryz.prog.underlying t≠some (.int k):=fun k hk=>by
 rw [h] at hk;cases hk;exact hd k rfl
theorem zlw {α:Type} {C:α->List Cell} {Q:α->Prop}:∀ rows:List (List Cell),(∀ r∈rows,∃ x,r=C x/\Q x)->∃ xs:List α,rows=xs.map C/\∀ x∈xs,Q x
 | [],_=>⟨[],rfl,fun x hx=>by cases hx⟩
 | r::rows,h=>by
  obtain ⟨x,hx,hq⟩:=h r (by simp);obtain ⟨xs,hxs,hqs⟩:=zlw rows (fun r' hr'=>h r' (by simp [hr']))
  exact ⟨x::xs,by rw [hx,hxs];rfl,fun y hy=>by
   rcases List.mem_cons.1 hy with rfl | hy
   . exact hq
   . exact hqs y hy⟩
theorem len2 {l:List α} (h:l.length=2):∃ a b,l=[a,b]:=by
 match l,h with
 | [a,b],_=>exact ⟨a,b,rfl⟩
theorem len3 {l:List α} (h:l.length=3):∃ a b c,l=[a,b,c]:=by
 match l,h with
 | [a,b,c],_=>exact ⟨a,b,c,rfl⟩
theorem len5 {l:List α} (h:l.length=5):∃ a b c d e,l=[a,b,c,d,e]:=by
 match l,h with
 | [a,b,c,d,e],_=>exact ⟨a,b,c,d,e,rfl⟩
theorem z8y:∀(t:TypeId) (cs:List Cell),FitT Tryz.prog 1048576 t cs->(t=127->∃ x:Ex,cs=exC x/\x.Sm)/\(t=125->∃ l:List Ex,cs=[.sl 5 (l.map Ex.cells)]/\l.length<=1048576/\∀ y∈l,y.Sm):=by
 intro t cs h
 induction h with
 | int ht=>exact ⟨fun e=>(by subst e;rw [Tryz.underlying127] at ht;cases ht),fun e=>(by subst e;rw [Tryz.underlying125] at ht;cases ht)⟩
 | bool ht=>exact ⟨fun e=>(by subst e;rw [Tryz.underlying127] at ht;cases ht),fun e=>(by subst e;rw [Tryz.underlying125] at ht;cases ht)⟩
 | str ht=>exact ⟨fun e=>(by subst e;rw [Tryz.underlying127] at ht;cases ht),fun e=>(by subst e;rw [Tryz.underlying125] at ht;cases ht)⟩
 | ints ht he=>exact ⟨fun e=>(by subst e;rw [Tryz.underlying127] at ht;cases ht),fun e=>(by subst e;rw [Tryz.underlying125] at ht;cases ht;rw [Tryz.underlying127] at he;cases he)⟩
 | array ht=>exact ⟨fun e=>(by subst e;rw [Tryz.underlying127] at ht;cases ht),fun e=>(by subst e;rw [Tryz.underlying125] at ht;cases ht)⟩
 | sl ht he hl h ih=>
  refine ⟨fun e=>(by subst e;rw [Tryz.underlying127] at ht;cases ht),fun e=>?_⟩;subst e;rw [Tryz.underlying125] at ht
  cases ht
  obtain ⟨xs,rfl,hxs⟩:=zlw (C:=Ex.cells) (Q:=Ex.Sm) _ (fun r hr=>by
   obtain ⟨x,h1,h2⟩:=(ih r hr).1 rfl
   exact ⟨x,by rw [h1,Ex.wrs],h2⟩)
  exact ⟨xs,by rw [wrn],by simpa using hl,hxs⟩
 | struct ht hl h ih=>
  refine ⟨fun e=>?_,fun e=>(by subst e;rw [Tryz.underlying125] at ht;cases ht)⟩;subst e;rw [Tryz.underlying127] at ht
  cases ht;obtain ⟨r0,r1,r2,r3,r4,rfl⟩:=len5 hl;obtain ⟨o,rfl,_⟩:=(h 0 _ r0 rfl rfl).x4k (Tryz.underlying3);obtain ⟨n,rfl,_⟩:=(h 1 _ r1 rfl rfl).x4k (Tryz.underlying3);obtain ⟨u,rfl,hu⟩:=(h 2 _ r2 rfl rfl).wx6 (Tryz.underlying9);obtain ⟨s,rfl,hs⟩:=(h 3 _ r3 rfl rfl).wx6 (Tryz.underlying9);obtain ⟨l,rfl,hll,hls⟩:=(ih 4 _ r4 rfl rfl).2 rfl;exact ⟨.mk o n u s l,rfl,.mk _ (Nat.le_trans hll (by decide)) (Nat.le_trans hu (by decide)) (Nat.le_trans hs (by decide)) hls⟩
theorem xxp (h:FitT Tryz.prog 1048576 239 cs):∃ x:Rw,cs=x.C/\True:=by
 obtain ⟨rows,rfl,hl,hr⟩:=h.yhr Tryz.underlying239;obtain ⟨r0,r1,rfl⟩:=len2 hl;obtain ⟨a,rfl,_⟩:=(hr 0 _ r0 rfl rfl).x4k (Tryz.underlying3);obtain ⟨b,rfl,_⟩:=(hr 1 _ r1 rfl rfl).x4k (Tryz.underlying3);exact ⟨⟨a,b⟩,rfl,trivial⟩
theorem vfl (h:FitT Tryz.prog 1048576 122 cs):∃ x:Tb,cs=x.C/\x.Sm:=by
 obtain ⟨rows,rfl,hl,hr⟩:=h.yhr Tryz.underlying122;obtain ⟨r0,r1,r2,rfl⟩:=len3 hl;obtain ⟨s,rfl,hs⟩:=(hr 0 _ r0 rfl rfl).wx6 (Tryz.underlying9);obtain ⟨u,rfl,hu⟩:=(hr 1 _ r1 rfl rfl).wx6 (Tryz.underlying9);obtain ⟨rs,rfl,hrl,hrr⟩:=(hr 2 _ r2 rfl rfl).vke (Tryz.underlying120) (w1g Tryz.underlying239 (fun k h=>by cases h));obtain ⟨xs,rfl,_⟩:=zlw (C:=Rw.C) (Q:=fun _=>True) _ (fun r hr'=>xxp (hrr r hr'));refine ⟨⟨s,u,xs⟩,by rw [vqh];try rfl,⟨Nat.le_trans hs (by decide),Nat.le_trans hu (by decide),?_⟩⟩
 have:xs.length<=1048576:=by simpa using hrl
 exact Nat.le_trans this (by decide)
section
variable {H:Type} {enc:TypeId×Value->H} {W:World} {v:Value} {d:DataW H} {p:List MemPlace} {b:Nat}
end
theorem x13 {l:List α} (h:l.length=9):∃ a b c d e f g h i,l=[a,b,c,d,e,f,g,h,i]:=by
 match l,h with
 | [a,b,c,d,e,f,g,h,i],_=>exact ⟨a,b,c,d,e,f,g,h,i,rfl⟩
theorem zno {l:List α} (h:l.length=6):∃ a b c d e f,l=[a,b,c,d,e,f]:=by
 match l,h with
 | [a,b,c,d,e,f],_=>exact ⟨a,b,c,d,e,f,rfl⟩
theorem z2o:Tryz.prog.cellsOf 172=6:=by kernel_rfl
theorem ywf:Tryz.prog.cellsOf 64=3:=by kernel_rfl
theorem zb7:Tryz.prog.cellsOf 181=2:=by kernel_rfl
theorem wd3:Tryz.prog.cellsOf 175=3:=by kernel_rfl
theorem v00:Tryz.prog.cellsOf 177=3:=by kernel_rfl
theorem ydd:Tryz.prog.cellsOf 129=7:=by kernel_rfl
theorem yhu:Tryz.prog.cellsOf 131=7:=by kernel_rfl
theorem wns:Tryz.prog.cellsOf 70=6:=by kernel_rfl
theorem vp2:Tryz.prog.cellsOf 67=2:=by kernel_rfl
theorem xze:Tryz.prog.cellsOf 9=1:=by kernel_rfl
theorem v34 (h:FitT Tryz.prog 1048576 9 cs):∃ s:ByteArray,cs=[cS s]/\s.size<=1073741824:=by
 obtain ⟨s,rfl,q⟩:=h.wx6 Tryz.underlying9;exact ⟨s,rfl,Nat.le_trans q (by decide)⟩
theorem ysx (h:FitT Tryz.prog 1048576 172 cs):∃ x:Imp,cs=x.C/\(x.name.size<=1073741824/\x.unit.size<=1073741824/\x.port.size<=1073741824):=by
 obtain ⟨rows,rfl,hl,hr⟩:=h.yhr Tryz.underlying172;obtain ⟨r0,r1,r2,r3,r4,r5,rfl⟩:=zno hl;obtain ⟨s0,rfl,q0⟩:=(hr 0 _ r0 rfl rfl).wx6 (Tryz.underlying9);obtain ⟨s1,rfl,q1⟩:=(hr 1 _ r1 rfl rfl).wx6 (Tryz.underlying9);obtain ⟨s2,rfl,_⟩:=(hr 2 _ r2 rfl rfl).x4k (Tryz.underlying3);obtain ⟨s3,rfl,_⟩:=(hr 3 _ r3 rfl rfl).x4k (Tryz.underlying3);obtain ⟨s4,rfl,q4⟩:=(hr 4 _ r4 rfl rfl).wx6 (Tryz.underlying9);obtain ⟨s5,rfl,_⟩:=(hr 5 _ r5 rfl rfl).x4k (Tryz.underlying3);exact ⟨⟨s0,s1,s2,s3,s4,s5⟩,rfl,Nat.le_trans q0 (by decide),Nat.le_trans q1 (by decide),Nat.le_trans q4 (by decide)⟩
theorem zdb (h:FitT Tryz.prog 1048576 64 cs):∃ x:Inp,cs=x.C/\(x.name.size<=1073741824/\x.unit.size<=1073741824/\x.kind.size<=1073741824):=by
 obtain ⟨rows,rfl,hl,hr⟩:=h.yhr Tryz.underlying64;obtain ⟨r0,r1,r2,rfl⟩:=len3 hl;obtain ⟨s0,rfl,q0⟩:=(hr 0 _ r0 rfl rfl).wx6 (Tryz.underlying9);obtain ⟨s1,rfl,q1⟩:=(hr 1 _ r1 rfl rfl).wx6 (Tryz.underlying9);obtain ⟨s2,rfl,q2⟩:=(hr 2 _ r2 rfl rfl).wx6 (Tryz.underlying9);exact ⟨⟨s0,s1,s2⟩,rfl,Nat.le_trans q0 (by decide),Nat.le_trans q1 (by decide),Nat.le_trans q2 (by decide)⟩
theorem xtt (h:FitT Tryz.prog 1048576 181 cs):∃ x:Prm,cs=x.C/\(x.name.size<=1073741824/\x.unit.size<=1073741824):=by
 obtain ⟨rows,rfl,hl,hr⟩:=h.yhr Tryz.underlying181;obtain ⟨r0,r1,rfl⟩:=len2 hl;obtain ⟨s0,rfl,q0⟩:=(hr 0 _ r0 rfl rfl).wx6 (Tryz.underlying9);obtain ⟨s1,rfl,q1⟩:=(hr 1 _ r1 rfl rfl).wx6 (Tryz.underlying9);exact ⟨⟨s0,s1⟩,rfl,Nat.le_trans q0 (by decide),Nat.le_trans q1 (by decide)⟩
theorem vlz (h:FitT Tryz.prog 1048576 175 cs):∃ x:Por,cs=x.C/\(x.name.size<=1073741824/\x.unit.size<=1073741824):=by
 obtain ⟨rows,rfl,hl,hr⟩:=h.yhr Tryz.underlying175;obtain ⟨r0,r1,r2,rfl⟩:=len3 hl;obtain ⟨s0,rfl,q0⟩:=(hr 0 _ r0 rfl rfl).wx6 (Tryz.underlying9);obtain ⟨s1,rfl,q1⟩:=(hr 1 _ r1 rfl rfl).wx6 (Tryz.underlying9);obtain ⟨s2,rfl,_⟩:=(hr 2 _ r2 rfl rfl).x4k (Tryz.underlying3);exact ⟨⟨s0,s1,s2⟩,rfl,Nat.le_trans q0 (by decide),Nat.le_trans q1 (by decide)⟩
theorem wuv (h:FitT Tryz.prog 1048576 177 cs):∃ x:Sto,cs=x.C/\(x.name.size<=1073741824/\x.unit.size<=1073741824):=by
 obtain ⟨rows,rfl,hl,hr⟩:=h.yhr Tryz.underlying177;obtain ⟨r0,r1,r2,rfl⟩:=len3 hl;obtain ⟨s0,rfl,q0⟩:=(hr 0 _ r0 rfl rfl).wx6 (Tryz.underlying9);obtain ⟨s1,rfl,q1⟩:=(hr 1 _ r1 rfl rfl).wx6 (Tryz.underlying9);obtain ⟨s2,rfl,_⟩:=(hr 2 _ r2 rfl rfl).x4k (Tryz.underlying3);exact ⟨⟨s0,s1,s2⟩,rfl,Nat.le_trans q0 (by decide),Nat.le_trans q1 (by decide)⟩
theorem x8t (h:FitT Tryz.prog 1048576 129 cs):∃ x:Fnc,cs=x.C/\(x.name.size<=1073741824/\x.params.length<=1073741824/\(∀ y∈x.params,y.name.size<=1073741824/\y.unit.size<=1073741824)/\x.body.Sm):=by
 obtain ⟨rows,rfl,hl,hr⟩:=h.yhr Tryz.underlying129;obtain ⟨r0,r1,r2,rfl⟩:=len3 hl;obtain ⟨s0,rfl,q0⟩:=(hr 0 _ r0 rfl rfl).wx6 (Tryz.underlying9);obtain ⟨t1,rfl,q1,e1⟩:=(hr 1 _ r1 rfl rfl).vke (Tryz.underlying124) (w1g Tryz.underlying181 (fun k h=>by cases h));obtain ⟨s1,rfl,y1⟩:=zlw (C:=Prm.C) (Q:=fun x=>x.name.size<=1073741824/\x.unit.size<=1073741824) _ (fun r hr'=>xtt (e1 r hr'));rw [List.length_map] at q1;obtain ⟨s2,rfl,q2⟩:=(z8y _ _ (hr 2 _ r2 rfl rfl)).1 rfl;exact ⟨⟨s0,s1,s2⟩,by rw [zb7];rfl,Nat.le_trans q0 (by decide),Nat.le_trans q1 (by decide),y1,q2⟩
theorem y8y (h:FitT Tryz.prog 1048576 131 cs):∃ x:Cel,cs=x.C/\(x.name.size<=1073741824/\x.unit.size<=1073741824/\x.x.Sm):=by
 obtain ⟨rows,rfl,hl,hr⟩:=h.yhr Tryz.underlying131;obtain ⟨r0,r1,r2,rfl⟩:=len3 hl;obtain ⟨s0,rfl,q0⟩:=(hr 0 _ r0 rfl rfl).wx6 (Tryz.underlying9);obtain ⟨s1,rfl,q1⟩:=(hr 1 _ r1 rfl rfl).wx6 (Tryz.underlying9);obtain ⟨s2,rfl,q2⟩:=(z8y _ _ (hr 2 _ r2 rfl rfl)).1 rfl;exact ⟨⟨s0,s1,s2⟩,rfl,Nat.le_trans q0 (by decide),Nat.le_trans q1 (by decide),q2⟩
theorem w3t (h:FitT Tryz.prog 1048576 70 cs):∃ x:Stp,cs=x.C/\(x.Sm):=by
 obtain ⟨rows,rfl,hl,hr⟩:=h.yhr Tryz.underlying70;obtain ⟨r0,r1,r2,r3,r4,r5,rfl⟩:=zno hl;obtain ⟨s0,rfl,_⟩:=(hr 0 _ r0 rfl rfl).x4k (Tryz.underlying3);obtain ⟨t1,rfl,q1,e1⟩:=(hr 1 _ r1 rfl rfl).vke (Tryz.underlying68) (w1g Tryz.underlying9 (fun k h=>by cases h));obtain ⟨s1,rfl,y1⟩:=zlw (C:=fun s=>[cS s]) (Q:=fun s=>s.size<=1073741824) _ (fun r hr'=>v34 (e1 r hr'));rw [List.length_map] at q1;obtain ⟨t2,rfl,q2,e2⟩:=(hr 2 _ r2 rfl rfl).vke (Tryz.underlying68) (w1g Tryz.underlying9 (fun k h=>by cases h));obtain ⟨s2,rfl,y2⟩:=zlw (C:=fun s=>[cS s]) (Q:=fun s=>s.size<=1073741824) _ (fun r hr'=>v34 (e2 r hr'));rw [List.length_map] at q2;obtain ⟨s3,rfl,q3⟩:=(hr 3 _ r3 rfl rfl).wx6 (Tryz.underlying9);obtain ⟨t4,rfl,q4,e4⟩:=(hr 4 _ r4 rfl rfl).vke (Tryz.underlying68) (w1g Tryz.underlying9 (fun k h=>by cases h));obtain ⟨s4,rfl,y4⟩:=zlw (C:=fun s=>[cS s]) (Q:=fun s=>s.size<=1073741824) _ (fun r hr'=>v34 (e4 r hr'));rw [List.length_map] at q4;obtain ⟨s5,rfl,_⟩:=(hr 5 _ r5 rfl rfl).x4k (Tryz.underlying3);exact ⟨⟨s0,s1,s2,s3,s4,s5⟩,by rw [xze];rfl,⟨Nat.le_trans q1 (by decide),Nat.le_trans q2 (by decide),Nat.le_trans q4 (by decide),y1,y2,y4,Nat.le_trans q3 (by decide)⟩⟩
theorem yu4 (h:FitT Tryz.prog 1048576 67 cs):∃ x:Rcp,cs=x.C/\(x.kind.size<=1073741824/\x.steps.length<=1073741824/\∀ y∈x.steps,y.Sm):=by
 obtain ⟨rows,rfl,hl,hr⟩:=h.yhr Tryz.underlying67;obtain ⟨r0,r1,rfl⟩:=len2 hl;obtain ⟨s0,rfl,q0⟩:=(hr 0 _ r0 rfl rfl).wx6 (Tryz.underlying9);obtain ⟨t1,rfl,q1,e1⟩:=(hr 1 _ r1 rfl rfl).vke (Tryz.underlying65) (w1g Tryz.underlying70 (fun k h=>by cases h));obtain ⟨s1,rfl,y1⟩:=zlw (C:=Stp.C) (Q:=Stp.Sm) _ (fun r hr'=>w3t (e1 r hr'));rw [List.length_map] at q1;exact ⟨⟨s0,s1⟩,by rw [wns];rfl,Nat.le_trans q0 (by decide),Nat.le_trans q1 (by decide),y1⟩
theorem vo4 (h:FitT Tryz.prog 1048576 31 cs):∃ x:Sht,cs=shtC x/\x.Sm:=by
 obtain ⟨rows,rfl,hl,hr⟩:=h.yhr Tryz.underlying31;obtain ⟨r0,r1,r2,r3,r4,r5,r6,r7,r8,rfl⟩:=x13 hl;obtain ⟨s0,rfl,q0⟩:=(hr 0 _ r0 rfl rfl).wx6 (Tryz.underlying9);obtain ⟨t1,rfl,q1,e1⟩:=(hr 1 _ r1 rfl rfl).vke (Tryz.underlying22) (w1g Tryz.underlying172 (fun k h=>by cases h));obtain ⟨s1,rfl,y1⟩:=zlw (C:=Imp.C) (Q:=fun x=>x.name.size<=1073741824/\x.unit.size<=1073741824/\x.port.size<=1073741824) _ (fun r hr'=>ysx (e1 r hr'));rw [List.length_map] at q1;obtain ⟨t2,rfl,q2,e2⟩:=(hr 2 _ r2 rfl rfl).vke (Tryz.underlying23) (w1g Tryz.underlying64 (fun k h=>by cases h));obtain ⟨s2,rfl,y2⟩:=zlw (C:=Inp.C) (Q:=fun x=>x.name.size<=1073741824/\x.unit.size<=1073741824/\x.kind.size<=1073741824) _ (fun r hr'=>zdb (e2 r hr'));rw [List.length_map] at q2;obtain ⟨t3,rfl,q3,e3⟩:=(hr 3 _ r3 rfl rfl).vke (Tryz.underlying24) (w1g Tryz.underlying122 (fun k h=>by cases h));obtain ⟨s3,rfl,y3⟩:=zlw (C:=Tb.C) (Q:=Tb.Sm) _ (fun r hr'=>vfl (e3 r hr'));rw [List.length_map] at q3;obtain ⟨t4,rfl,q4,e4⟩:=(hr 4 _ r4 rfl rfl).vke (Tryz.underlying25) (w1g Tryz.underlying129 (fun k h=>by cases h));obtain ⟨s4,rfl,y4⟩:=zlw (C:=Fnc.C) (Q:=fun x=>x.name.size<=1073741824/\x.params.length<=1073741824/\(∀ y∈x.params,y.name.size<=1073741824/\y.unit.size<=1073741824)/\x.body.Sm) _ (fun r hr'=>x8t (e4 r hr'));rw [List.length_map] at q4;obtain ⟨t5,rfl,q5,e5⟩:=(hr 5 _ r5 rfl rfl).vke (Tryz.underlying26) (w1g Tryz.underlying131 (fun k h=>by cases h));obtain ⟨s5,rfl,y5⟩:=zlw (C:=Cel.C) (Q:=fun x=>x.name.size<=1073741824/\x.unit.size<=1073741824/\x.x.Sm) _ (fun r hr'=>y8y (e5 r hr'));rw [List.length_map] at q5;obtain ⟨t6,rfl,q6,e6⟩:=(hr 6 _ r6 rfl rfl).vke (Tryz.underlying27) (w1g Tryz.underlying175 (fun k h=>by cases h));obtain ⟨s6,rfl,y6⟩:=zlw (C:=Por.C) (Q:=fun x=>x.name.size<=1073741824/\x.unit.size<=1073741824) _ (fun r hr'=>vlz (e6 r hr'));rw [List.length_map] at q6;obtain ⟨t7,rfl,q7,e7⟩:=(hr 7 _ r7 rfl rfl).vke (Tryz.underlying28) (w1g Tryz.underlying177 (fun k h=>by cases h));obtain ⟨s7,rfl,y7⟩:=zlw (C:=Sto.C) (Q:=fun x=>x.name.size<=1073741824/\x.unit.size<=1073741824) _ (fun r hr'=>wuv (e7 r hr'));rw [List.length_map] at q7;obtain ⟨t8,rfl,q8,e8⟩:=(hr 8 _ r8 rfl rfl).vke (Tryz.underlying29) (w1g Tryz.underlying67 (fun k h=>by cases h));obtain ⟨s8,rfl,y8⟩:=zlw (C:=Rcp.C) (Q:=fun x=>x.kind.size<=1073741824/\x.steps.length<=1073741824/\∀ y∈x.steps,y.Sm) _ (fun r hr'=>yu4 (e8 r hr'));rw [List.length_map] at q8;refine ⟨⟨s0,s1,s2,s3,s4,s5,s6,s7,s8⟩,?_,⟨Nat.le_trans q0 (by decide),Nat.le_trans q1 (by decide),Nat.le_trans q2 (by decide),Nat.le_trans q3 (by decide),Nat.le_trans q4 (by decide),Nat.le_trans q5 (by decide),Nat.le_trans q6 (by decide),Nat.le_trans q7 (by decide),Nat.le_trans q8 (by decide),y1,y2,y3,y4,y5,y6,y7,y8⟩⟩;rw [z2o,ywf,x79,ydd,yhu,wd3,v00,vp2];rfl
theorem z4z {enc:TypeId×Value->H} {d:DataW H} {p:List MemPlace} (hval:Value.okWide Tryz.prog W .any b 31 v) (hd:DataW.Trod enc Tryz.prog W 0 (fun _=>true) true 31 v d p) (hb:Rows.uptoBulk d<=1048576) :
 ∃ x:Sht,RdB M0 W v (.agg (shtC x))/\x.Sm:=by
 obtain ⟨cells,h1,h2⟩:=xay bulk y1c (by decide) Tryz.underlying31 hval hd hb;obtain ⟨x,rfl,h3⟩:=vo4 h1;exact ⟨x,h2,h3⟩
theorem xoa {enc:TypeId×Value->H} {d:DataW H} {p:List MemPlace} (hval:Value.okWide Tryz.prog W .any b 3 v) (hd:DataW.Trod enc Tryz.prog W 0 (fun _=>true) true 3 v d p) (hb:Rows.uptoBulk d<=1048576) :
 ∃ n:Int,RdB M0 W v (.one (cI n)):=by
 obtain ⟨n,_,_,h⟩:=vu4 bulk y1c (by decide) Tryz.underlying3 hval hd hb;exact ⟨n,h⟩
def zH:Value:=.agg #[.string ⟨#[]⟩,.slice none 0 0,.slice none 0 0,.slice none 0 0,.slice none 0 0,.slice none 0 0,.slice none 0 0,.slice none 0 0,.slice none 0 0]
def dH {H:Type}:DataW H:=.agg [.lit (.string []),.nil,.nil,.nil,.nil,.nil,.nil,.nil,.nil]
theorem v68:Tryz.prog.cellsOf 51=4:=by kernel_rfl
theorem zjz:Tryz.prog.cellsOf 80=8:=by kernel_rfl
theorem zks (h:FitT Tryz.prog 1048576 49 cs):∃(s:Int) (L:List Int),cs=[.raw (.int .i64 s),.ints .i64 L]/\L.length<=1048576:=by
 obtain ⟨rows,rfl,hl,hr⟩:=h.yhr Tryz.underlying49;obtain ⟨r0,r1,rfl⟩:=len2 hl;obtain ⟨s,rfl,_⟩:=(hr 0 _ r0 rfl rfl).x4k (Tryz.underlying3);obtain ⟨L,rfl,hL,_⟩:=(hr 1 _ r1 rfl rfl).xl3 (Tryz.underlying47) (Tryz.underlying3);exact ⟨s,L,rfl,hL⟩
theorem vcf (h:FitT Tryz.prog 1048576 51 cs):∃ f:Fc,cs=f.C/\f.sz<=1048576:=by
 obtain ⟨rows,rfl,hl,hr⟩:=h.yhr Tryz.underlying51;obtain ⟨r0,r1,rfl⟩:=len2 hl;obtain ⟨s,L,rfl,hL⟩:=zks (hr 0 _ r0 rfl rfl);obtain ⟨t,M,rfl,hM⟩:=zks (hr 1 _ r1 rfl rfl);exact ⟨⟨s,L,t,M⟩,rfl,Nat.max_le.2 ⟨hL,hM⟩⟩
theorem zyu (h:FitT Tryz.prog 1048576 80 cs):∃ s:Sc,cs=s.C/\s.sz<=1048576:=by
 obtain ⟨rows,rfl,hl,hr⟩:=h.yhr Tryz.underlying80;obtain ⟨r0,r1,rfl⟩:=len2 hl;obtain ⟨⟨s,L,t,M⟩,rfl,h1⟩:=vcf (hr 0 _ r0 rfl rfl);obtain ⟨⟨s',L',t',M'⟩,rfl,h2⟩:=vcf (hr 1 _ r1 rfl rfl);exact ⟨⟨⟨s,L,t,M⟩,⟨s',L',t',M'⟩⟩,rfl,Nat.max_le.2 ⟨h1,h2⟩⟩
theorem w0w {enc:TypeId×Value->H} {d:DataW H} {p:List MemPlace} (hval:Value.okWide Tryz.prog W .any b 51 v) (hd:DataW.Trod enc Tryz.prog W 0 (fun _=>true) true 51 v d p) (hb:Rows.uptoBulk d<=1048576) :
 ∃ f:Fc,RdB M0 W v (.agg f.C)/\f.sz<=1048576:=by
 obtain ⟨cells,h1,h2⟩:=xay bulk y1c (by decide) Tryz.underlying51 hval hd hb;obtain ⟨x,rfl,h3⟩:=vcf h1;exact ⟨x,h2,h3⟩
theorem v9u {enc:TypeId×Value->H} {d:DataW H} {p:List MemPlace} (hval:Value.okWide Tryz.prog W .any b 33 v) (hd:DataW.Trod enc Tryz.prog W 0 (fun _=>true) true 33 v d p) (hb:Rows.uptoBulk d<=1048576) :
 ∃ l:List Fc,RdB M0 W v (.one (.sl 4 (l.map Fc.C)))/\l.length<=1048576/\∀ x∈l,x.sz<=1048576:=by
 obtain ⟨c,h1,h2⟩:=vfc bulk y1c (by decide) Tryz.underlying33 hval hd hb;obtain ⟨rows,e,hl,hr⟩:=h1.vke (Tryz.underlying33) (w1g Tryz.underlying51 (fun k h=>by cases h));obtain ⟨xs,rfl,hx⟩:=zlw (C:=Fc.C) (Q:=fun x=>x.sz<=1048576) _ (fun r hr'=>vcf (hr r hr'))
 cases e;rw [v68] at h2;exact ⟨xs,h2,by simpa using hl,hx⟩
theorem x78 {enc:TypeId×Value->H} {d:DataW H} {p:List MemPlace} (hval:Value.okWide Tryz.prog W .any b 32 v) (hd:DataW.Trod enc Tryz.prog W 0 (fun _=>true) true 32 v d p) (hb:Rows.uptoBulk d<=1048576) :
 ∃ l:List Sc,RdB M0 W v (.one (.sl 8 (l.map Sc.C)))/\l.length<=1048576/\∀ x∈l,x.sz<=1048576:=by
 obtain ⟨c,h1,h2⟩:=vfc bulk y1c (by decide) Tryz.underlying32 hval hd hb;obtain ⟨rows,e,hl,hr⟩:=h1.vke (Tryz.underlying32) (w1g Tryz.underlying80 (fun k h=>by cases h));obtain ⟨xs,rfl,hx⟩:=zlw (C:=Sc.C) (Q:=fun x=>x.sz<=1048576) _ (fun r hr'=>zyu (hr r hr'))
 cases e;rw [zjz] at h2;exact ⟨xs,h2,by simpa using hl,hx⟩
def yfy:List (String×DataW Unit):=Rows.recipeLinearUptoRow.laid
def y40:String:=(yfy.headD (Tryz.f0.name,.nil)).1
theorem yn0:Tryz.prog.globalNamed y40=some 0:=by kernel_rfl
theorem wdk:(Tryz.prog.globals[0]?).map (·.type)=some 265:=by kernel_rfl
theorem wdb (h:laidMetH Tryz.prog yfy W):zw4 Gs M0 W:=by
 rw [MakeChecks.laidMetH_plain _ _ _ (by kernel_rfl)] at h;obtain ⟨ps,⟨g0,t0,cs0,f0,p0,q0,hg0,ht0,hv0,hd0,_,_⟩,_,_⟩:=h;obtain rfl:=Option.some.inj (yn0.symm.trans hg0);obtain rfl:=Option.some.inj (wdk.symm.trans ht0);have e:=xnt (l:=[40,41,44,59,58,61,60,43,45,42,47,123,125]) Tryz.underlying265 Tryz.underlying5 (by kernel_rfl) (by kernel_rfl) hd0;intro g cs hg;have hg':=List.mem_singleton.1 hg
 cases hg';refine ⟨cs0.toList,fun j u hu=>⟨fun h=>h,?_⟩,?_⟩
 . rw [World.var?_cell hg0 hv0 j,<-Array.getElem?_toList];exact hu
 . rw [e];exact ⟨.raw rfl,.raw rfl,.raw rfl,.raw rfl,.raw rfl,.raw rfl,.raw rfl,.raw rfl,.raw rfl,.raw rfl,.raw rfl,.raw rfl,.raw rfl,trivial⟩
theorem zxi (os:Os) (args:Array Value):laidMetH Tryz.prog yfy ((World.doorLaid Tryz.prog 140 os).forCall (fun _ _=>0) ⟨#[],args,[]⟩).memory:=
 laidMetH_of_parts3 (fuel:=8) (laidMet_of_run' 8 (by kernel_rfl) (by kernel_rfl)) (by kernel_rfl) (by kernel_rfl)
theorem v64 {C:Checked} {os:Os} {fn:Func} {enc:TypeId×Value->H} {s:OpenSpec} {k:(H:Type)->List (DataW H)->Bool} (hk:s.cond=some k) {conds:List PathCond} {apart:Bool} {laid:List (String×DataW Unit)} (modest:Bool) (n:Nat) (args:Array Value) (fuel:Nat)
 (hsh:((World.doorLaid C.prog n os).forCall (fun _ _=>0) ⟨#[],args,[]⟩).Shaped C.prog)
 (hok:Input.okWideB C.prog ((World.doorLaid C.prog n os).forCall (fun _ _=>0) ⟨#[],args,[]⟩) f ⟨#[],args,[]⟩=true)
 {x:List (DataW H)×List (DataW H)×List MemPlace} (hx:DataW.whole enc C.prog ((World.doorLaid C.prog n os).forCall (fun _ _=>0) ⟨#[],args,[]⟩).memory fn.params.toList s.vars apart args.toList fuel=some x)
 (hconds:conds.all (PathCond.test C.prog ⟨fn.params.toList,x.1,s.bare.plain.varTypes C.prog,x.2.1⟩)=true) (hkk:k H (x.1++x.2.1)=true)
 (hsz:s.bare.sizedB enc C.prog fn apart ((World.doorLaid C.prog n os).forCall (fun _ _=>0) ⟨#[],args,[]⟩).memory args fuel=true)
 (hl:laidMetH C.prog laid ((World.doorLaid C.prog n os).forCall (fun _ _=>0) ⟨#[],args,[]⟩).memory) :
 ∃(w:World) (tape:Tape) (i:Input),w.os=os/\(w.forCall tape i).Shaped C.prog/\i.vars=[]/\Input.okWide C.prog (w.forCall tape i) .any w.heap.size f i/\
  s.preRow enc C.prog fn conds apart laid (w.forCall tape i).memory i.args/\({ modest:=modest }:Assume).holds C.prog (lone (Frame.enter C.prog f i.args .normal) [] (w.forCall tape i)):=
 ⟨World.doorLaid C.prog n os,fun _ _=>0,⟨#[],args,[]⟩,rfl,hsh,(Input.okWide_of_okWideB (base:=0) hok).1,(Input.okWide_of_okWideB hok).2,
  ⟨⟨(OpenSpec.pre_some hk conds apart _ _).2 ⟨x.1,x.2.1,x.2.2,DataW.Whole_of_whole hx,hconds,hkk⟩,hl⟩,sizedMet_of_sizedB hsz⟩,by
  simp only [Assume.holds]
  exact ⟨by simp,by simp,fun _=>Modest.zero,by simp,by simp⟩⟩
theorem ended {args:List AV} {vs:List Value} (hc:Go.Hp.CallsD Gs Tryz.prog f args (.one (cB true))) (hg:zw4 Gs M0 W) (hr:RdBL M0 W vs args):Calls Tryz.prog f vs.toArray W fun e W'=>e=.returned (.bool true)/\Below W.heap.size W W':=
 (hc.2 M0 W vs (fun b o h=>h.elim) hg hr).mono (fun e W' ⟨v,he,hb,hr',_⟩=>by
   have hv:v=.bool true:=RdC.v7q hr';rw [hv] at he
   exact ⟨he,hb⟩)
def dI {H:Type}:DataW H:=.lit (.int .i64 0)
end Go.Proofs.YtkbkjjahlafhoaaGreatDoor
namespace Go.Hp.T
open Go Go.RowKit Go.Slot Go.Hp Go.Slot.T
open Go.Proofs.Tryz
attribute [local irreducible] hide RH
set_option maxRecDepth 10000
set_option maxHeartbeats 8000000
variable {Γ:List (Nat×List Cell)}
theorem zib {q:Rat} (h:q.num.natAbs<=1000/\q.den<=1000):(Fc.of q).sz<=4:=by
 rw [Fc.w9x];have h1:=zlm (n:=q.num.natAbs) (by omega);have h2:=zlm (n:=q.den) (by omega);omega
theorem xmi (x y u v:Rat) (h1:x<=y) (h2:u<=v) (hx:(Fc.of x).sz<=4) (hy:(Fc.of y).sz<=4) (hu:(Fc.of u).sz<=4) (hv:(Fc.of v).sz<=4):CallsD Γ prog 10 [.agg (shtC (exSh exS6)),.one (cI 0),.one (.sl 8 ((exC2 (Fc.of x) (Fc.of y) (Fc.of u) (Fc.of v)).map Sc.C))] (frR (ww1 (exSh exS6) 0 (exC2 (Fc.of x) (Fc.of y) (Fc.of u) (Fc.of v)))):=
 xxj (exSh exS6) 0 _ xt9 (by show 2<=1048576;decide) (fun w hw=>by
  have e:w=⟨Fc.of x,Fc.of y⟩\/w=⟨Fc.of u,Fc.of v⟩:=by simpa using hw
  rcases e with rfl | rfl<;>(unfold Sc.sz;dsimp only;omega)) (y3u h1 h2) (by rw [wcz]) (xrq (Fc.wvr x) (Fc.wvr u) (by omega) (by omega) (by omega) (by omega))
theorem x1n (x y u v:Rat) (h1:x<=y) (h2:u<=v) (hx:(Fc.of x).sz<=4) (hy:(Fc.of y).sz<=4) (hu:(Fc.of u).sz<=4) (hv:(Fc.of v).sz<=4):CallsD Γ prog 10 [.agg (shtC (exSh exS5)),.one (cI 0),.one (.sl 8 ((exC2 (Fc.of x) (Fc.of y) (Fc.of u) (Fc.of v)).map Sc.C))] (frR (ww1 (exSh exS5) 0 (exC2 (Fc.of x) (Fc.of y) (Fc.of u) (Fc.of v)))):=
 vve (exSh exS5) 0 _ zsj (by show 2<=1048576;decide) (fun w hw=>by
  have e:w=⟨Fc.of x,Fc.of y⟩\/w=⟨Fc.of u,Fc.of v⟩:=by simpa using hw
  rcases e with rfl | rfl<;>(unfold Sc.sz;dsimp only;omega)) (zoo h1 h2) (by rw [zfc.1];decide)
theorem z6m:zrx.Sm:=by
 have h1:(Fc.of (3 / 4)).sz<=4:=zib (by decide +kernel);have h2:(Fc.of 1).sz<=4:=zib (by decide +kernel);have h3:(Fc.of (1 / 4)).sz<=4:=zib (by decide +kernel);have h4:(Fc.of 0).sz<=4:=zib (by decide +kernel);refine ⟨by show 2<=1048576;decide,by show 2<=1048576;decide,by show 2<=1048576;decide,fun r hr=>?_,fun r hr x hx=>?_⟩
 . have e:r=[Fc.of (3 / 4),Fc.of 1]\/r=[Fc.of (1 / 4),Fc.of 0]:=by simpa [zrx] using hr
   rcases e with rfl | rfl<;>(show 2<=1048576;decide)
 . have e:r=[Fc.of (3 / 4),Fc.of 1]\/r=[Fc.of (1 / 4),Fc.of 0]:=by simpa [zrx] using hr
   rcases e with rfl | rfl<;>(rcases List.mem_cons.1 hx with rfl | hx;omega;rw [List.mem_singleton.1 hx];omega)
abbrev scC (a b:Fc):List Cell:=[.raw (.int .i64 a.s),.ints .i64 a.L,.raw (.int .i64 a.t),.ints .i64 a.M,.raw (.int .i64 b.s),.ints .i64 b.L,.raw (.int .i64 b.t),.ints .i64 b.M]
theorem xzr (hG:vjd Γ 0=.elt sgC):CallsD Γ prog 7 [] (.one (cB true)):=by
 have s3:(Fc.of 3).sz<=4:=zib (by decide +kernel);have s1:(Fc.of 1).sz<=4:=zib (by decide +kernel);have s0:(Fc.of 0).sz<=4:=zib (by decide +kernel);have s4:(Fc.of 4).sz<=4:=zib (by decide +kernel);have s8:(Fc.of 8).sz<=4:=zib (by decide +kernel);have s5:(Fc.of 5).sz<=4:=zib (by decide +kernel);have s11:(Fc.of 11).sz<=4:=zib (by decide +kernel);have s2:(Fc.of 2).sz<=4:=zib (by decide +kernel);have c1:CallsD Γ prog 25 [.one (cS ⟨#[108,111,115,101,32,98,32,97,115,32,104,101,97,116,32,59]⟩)] (.agg (shtC (exSh exS6))):=zpv (t:=exL) hG (by decide +kernel) wed xt9 vch;have c2:CallsD Γ prog 25 [.one (cS ⟨#[]⟩)] (.agg (shtC (exSh exS5))):=zpv (t:=⟨#[]⟩) hG (by decide) wsu zsj vo2;have p3:CallsD Γ prog 26 [.one (cI 3)] (.agg (scC (Fc.of 3) (Fc.of 3))):=zha 3 (by decide) (by decide +kernel);have p1:CallsD Γ prog 26 [.one (cI 1)] (.agg (scC (Fc.of 1) (Fc.of 1))):=zha 1 (by decide) (by decide +kernel);have p0:CallsD Γ prog 26 [.one (cI 0)] (.agg (scC (Fc.of 0) (Fc.of 0))):=zha 0 (by decide) (by decide +kernel);have f34:CallsD Γ prog 27 [.one (cI 3),.one (cI 4)] (.agg (fcC (Fc.of (3 / 4)))):=wix 3 4 (by decide) (by decide) (by decide) (by decide +kernel);have f1:CallsD Γ prog 27 [.one (cI 1),.one (cI 1)] (.agg (fcC (Fc.of 1))):=wix 1 1 (by decide) (by decide) (by decide) (by decide +kernel);have f14:CallsD Γ prog 27 [.one (cI 1),.one (cI 4)] (.agg (fcC (Fc.of (1 / 4)))):=wix 1 4 (by decide) (by decide) (by decide) (by decide +kernel);have f0:CallsD Γ prog 27 [.one (cI 0),.one (cI 1)] (.agg (fcC (Fc.of 0))):=wix 0 1 (by decide) (by decide) (by decide) (by decide +kernel);have f8:CallsD Γ prog 27 [.one (cI 8),.one (cI 1)] (.agg (fcC (Fc.of 8))):=wix 8 1 (by decide) (by decide) (by decide) (by decide +kernel);have f5:CallsD Γ prog 27 [.one (cI 5),.one (cI 1)] (.agg (fcC (Fc.of 5))):=wix 5 1 (by decide) (by decide) (by decide) (by decide +kernel);have f3:CallsD Γ prog 27 [.one (cI 3),.one (cI 1)] (.agg (fcC (Fc.of 3))):=wix 3 1 (by decide) (by decide) (by decide) (by decide +kernel);have f4:CallsD Γ prog 27 [.one (cI 4),.one (cI 1)] (.agg (fcC (Fc.of 4))):=wix 4 1 (by decide) (by decide) (by decide) (by decide +kernel);have f11:CallsD Γ prog 27 [.one (cI 11),.one (cI 1)] (.agg (fcC (Fc.of 11))):=wix 11 1 (by decide) (by decide) (by decide) (by decide +kernel);have f2:CallsD Γ prog 27 [.one (cI 2),.one (cI 1)] (.agg (fcC (Fc.of 2))):=wix 2 1 (by decide) (by decide) (by decide) (by decide +kernel);have w1:=xmi (Γ:=Γ) 3 3 1 1 (by decide +kernel) (by decide +kernel) s3 s3 s1 s1;rw [v48] at w1;have w2:=xmi (Γ:=Γ) 3 4 1 1 (by decide +kernel) (by decide +kernel) s3 s4 s1 s1;rw [yr1] at w2;have w3:=xmi (Γ:=Γ) 0 0 0 0 (by decide +kernel) (by decide +kernel) s0 s0 s0 s0;rw [wzg] at w3;have w4:=x1n (Γ:=Γ) 3 3 1 1 (by decide +kernel) (by decide +kernel) s3 s3 s1 s1;rw [xna] at w4
 have r1:=zuf (Γ:=Γ) zrx [Fc.of 8,Fc.of 5] z6m (by show 2<=1048576;decide) (fun x hx=>by
  rcases List.mem_cons.1 hx with rfl | hx
  . omega
  . rw [List.mem_singleton.1 hx];omega)
 rw [zse.1,zse.2] at r1;have m1:=z5s (Γ:=Γ) zrx z6m
 have m2:=cSmF (Γ:=Γ) [Fc.of 11,Fc.of 2] (by show 2<=1048576;decide) (fun x hx=>by
  rcases List.mem_cons.1 hx with rfl | hx
  . omega
  . rw [List.mem_singleton.1 hx];omega)
 replace w1:CallsD Γ prog 10 [.agg (shtC (exSh exS6)),.one (cI 0),.one (.sl 8 [scC (Fc.of 3) (Fc.of 3),scC (Fc.of 1) (Fc.of 1)])] (.tup [.agg (flC zrx),.one (cI 0),.one (cI 0)]):=w1
 replace w2:CallsD Γ prog 10 [.agg (shtC (exSh exS6)),.one (cI 0),.one (.sl 8 [scC (Fc.of 3) (Fc.of 4),scC (Fc.of 1) (Fc.of 1)])] (.tup [.agg [.sl 3 [],.sl 4 [],.sl 1 []],.one (cI 3),.one (cI 2)]):=w2
 replace w3:CallsD Γ prog 10 [.agg (shtC (exSh exS6)),.one (cI 0),.one (.sl 8 [scC (Fc.of 0) (Fc.of 0),scC (Fc.of 0) (Fc.of 0)])] (.tup [.agg [.sl 3 [],.sl 4 [],.sl 1 []],.one (cI 15),.one (cI 2)]):=w3
 replace w4:CallsD Γ prog 10 [.agg (shtC (exSh exS5)),.one (cI 0),.one (.sl 8 [scC (Fc.of 3) (Fc.of 3),scC (Fc.of 1) (Fc.of 1)])] (.tup [.agg [.sl 3 [],.sl 4 [],.sl 1 []],.one (cI 21),.one (cI 5)]):=w4
 replace r1:CallsD Γ prog 15 [.agg (flC zrx),.one (.sl 4 [fcC (Fc.of 8),fcC (Fc.of 5)])] (.tup [.one (.sl 4 [fcC (Fc.of 11),fcC (Fc.of 2)]),.one (cB true)]):=r1
 replace m1:CallsD Γ prog 24 [.agg (flC zrx),.agg [.sl 3 [[cI 0,cI 0,cI 0],[cI 1,cI 0,cI 0]],.sl 4 [[cI 0,cI 0,cI 0,cS ⟨#[]⟩],[cI 2,cI 0,cI 0,cS ⟨#[104,101,97,116]⟩]],.sl 1 [[.sl 4 [fcC (Fc.of (3 / 4)),fcC (Fc.of 1)]],[.sl 4 [fcC (Fc.of (1 / 4)),fcC (Fc.of 0)]]]]] (.one (cB true)):=m1
 replace m2:CallsD Γ prog 28 [.one (.sl 4 [fcC (Fc.of 11),fcC (Fc.of 2)]),.one (.sl 4 [fcC (Fc.of 11),fcC (Fc.of 2)])] (.one (cB true)):=m2
 clear s3 s1 s0 s4 s8 s5 s11 s2;generalize Fc.of 3=q3 at *;generalize Fc.of 1=q1 at *;generalize Fc.of 0=q0 at *;generalize Fc.of 4=q4 at *;generalize Fc.of (3 / 4)=q34 at *;generalize Fc.of (1 / 4)=q14 at *;generalize Fc.of 8=q8 at *;generalize Fc.of 5=q5 at *;generalize Fc.of 11=q11 at *;generalize Fc.of 2=q2 at *;generalize exSh exS6=sh6 at *;generalize exSh exS5=sh5 at *;generalize zrx=xf at *;refine hE [] func7 f7.eq_1 ?_
 repeat' first|refine hI ?_|(with_reducible first|refine wdy c1 ?_|refine wdy c2 ?_|refine wdy p3 ?_|refine y04 p3 ?_|refine wdy p1 ?_|refine y04 p1 ?_|refine y04 p0 ?_|refine wdy f34 ?_|refine wdy f1 ?_|refine wdy f14 ?_|refine wdy f0 ?_|refine y04 f8 ?_|refine y04 f5 ?_|refine y04 f3 ?_|refine y04 f4 ?_|refine wdy f11 ?_|refine wdy f2 ?_|refine y04 w1 ?_|refine y04 w2 ?_|refine y04 w3 ?_|refine wdy w4 ?_|refine y04 r1 ?_|refine wdy m1 ?_|refine wdy m2 ?_)<;>refine hgS ?_
 all_goals first
  | exact RLe.ofEq rfl
  | (exfalso;omega)
end Go.Hp.T
