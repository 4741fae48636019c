/- The proof, part Q40: Vw. -/
import Derived.Test.YtmegdbbbllffkaaGreatQ12
import Derived.Test.YtmegdbbbllffkaaGreatQ13
import Derived.Test.YtmegdbbbllffkaaGreatQ39
import Derived.Test.YtmegdbbbllffkaaGreatRows
import Derived.JoinedCond
import Derived.Carry
import Derived.ProofKit
namespace Go.Slot
open Go Go.RowKit Go.ChangeShapes Go.WideShapes
section
variable {P:Program} {H:Type} {enc:TypeId×Value->H} {w:World} {spare:Nat->Bool} {held:Bool} {bk:DataW H->Nat} {N:Nat} {r:Reach} {b0:Nat}
theorem zx9 (hB:Bulk bk) {L:List TypeId} (hL:wgl P L=true) {t:TypeId} (htL:t∈L) {v:Value} {d:DataW H} {p:List MemPlace} {fs:Array Field} (ht:P.underlying t=some (.struct fs))
 (hval:Value.okWide P w r b0 t v) (hd:DataW.Trod enc P w 0 spare held t v d p) (hb:bk d<=N):∃ cells,FitT P N t cells/\RdB M0 w v (.agg cells):=by
 obtain ⟨cs,rfl,_⟩:=okWide_struct ht hval;obtain ⟨fuel,hf⟩:=hd;obtain ⟨cells,h1,h2⟩:=w7d hB hL fuel t htL _ (d,p) hf hb;exact ⟨cells,h2,⟨cs.toList,by simp,h1⟩⟩
theorem yfe (hB:Bulk bk) {L:List TypeId} (hL:wgl P L=true) {t:TypeId} (htL:t∈L) {v:Value} {d:DataW H} {p:List MemPlace} (hv:v.cells=#[v])
 (hd:DataW.Trod enc P w 0 spare held t v d p) (hb:bk d<=N):∃ c,FitT P N t [c]/\RdB M0 w v (.one c):=by
 obtain ⟨fuel,hf⟩:=hd;obtain ⟨cells,h1,h2⟩:=w7d hB hL fuel t htL _ (d,p) hf hb;rw [hv] at h1
 match cells,h1,h2 with
 | [c],h1,h2=>exact ⟨c,h2,h1.1⟩
theorem yqq (hB:Bulk bk) {L:List TypeId} (hL:wgl P L=true) {t e:TypeId} (htL:t∈L) {v:Value} {d:DataW H} {p:List MemPlace} (ht:P.underlying t=some (.slice e))
 (hval:Value.okWide P w r b0 t v) (hd:DataW.Trod enc P w 0 spare held t v d p) (hb:bk d<=N):∃ c,FitT P N t [c]/\RdB M0 w v (.one c):=by
 obtain ⟨a,len,cap,rfl⟩:=okWide_slice ht hval;exact yfe hB hL htL rfl hd hb
end
end Go.Slot
namespace Go.Proofs.YtmegdbbbllffkaaGreat
set_option maxRecDepth 100000
open Go Go.Slot Go.Hp Go.Hp.T Go.ChangeShapes Go.WideShapes Go.RowKit
theorem y56:ownKnob Tryz.prog.godebug=none:=by kernel_rfl
theorem wi8:laidOutB Tryz.prog=true:=by kernel_rfl
theorem wsz {H:Type} (d:DataW H):1<=Rows.uptoBulk d:=by
 cases d with
 | lit l=>cases l<;>simp [Rows.uptoBulk]
 | nil=>simp [Rows.uptoBulk]
 | ptr d=>simp [Rows.uptoBulk]
 | slice elems spare=>simp [Rows.uptoBulk]
 | agg parts=>simp [Rows.uptoBulk]
 | iface t d=>simp [Rows.uptoBulk]
 | map entries=>simp [Rows.uptoBulk]
 | held h=>simp [Rows.uptoBulk]
theorem vtu {H:Type} {d:DataW H} {l:List (DataW H)} (h:d∈l):Rows.uptoBulk d<=Rows.uptoBulkAll l:=by
 induction l with
 | nil=>cases h
 | cons x r ih=>
  simp only [Rows.uptoBulkAll]
  cases List.mem_cons.1 h with
  | inl e=>subst e;omega
  | inr e=>have:=ih e;omega
theorem w7w {H:Type} (l:List (DataW H)):l.length<=Rows.uptoBulkAll l:=by
 induction l with
 | nil=>simp [Rows.uptoBulkAll]
 | cons x r ih=>have:=wsz x;simp only [Rows.uptoBulkAll,List.length_cons];omega
theorem bulk {H:Type}:Bulk (H:=H) Rows.uptoBulk where
 str b:=by simp [Rows.uptoBulk]
 elems l r:=by
  have:=w7w l
  simp only [Rows.uptoBulk];omega
 elem l r d h:=by
  have:=vtu h
  simp only [Rows.uptoBulk];omega
 part l d h:=by
  have:=vtu h
  simp only [Rows.uptoBulk];omega
theorem w8i {H:Type} {l:List (DataW H)} (hk:Rows.uptoSmall H l=true):∀ d∈l,Rows.uptoBulk d<=1048576:=fun d hd=>by
 have h:=vtu hd;have h2:Rows.uptoBulkAll l<=1048576:=of_decide_eq_true hk;omega
def argTypes:List TypeId:=[24,22,53,48,122,26,119,120,51,3,9,64,60,33,59,31,29,47,35,42,45,25]
theorem zvc:wgl Tryz.prog argTypes=true:=by kernel_rfl
theorem xs1:Tryz.prog.cellsOf 24=5:=by kernel_rfl
theorem w1y:Tryz.prog.cellsOf 122=3:=by kernel_rfl
theorem yjj:Tryz.prog.cellsOf 64=5:=by kernel_rfl
theorem wbw:Tryz.prog.cellsOf 33=4:=by kernel_rfl
theorem yvn:Tryz.prog.cellsOf 45=9:=by kernel_rfl
theorem vcj:Tryz.prog.cellsOf 35=8:=by kernel_rfl
theorem wnt:Tryz.prog.cellsOf 51=6:=by kernel_rfl
theorem xu1:Tryz.prog.cellsOf 119=2:=by kernel_rfl
theorem v5a {t:TypeId} {d:TypeDesc} (h:Tryz.prog.underlying t=some d) (hd:∀ k,d≠.int k):∀ k,Tryz.prog.underlying t≠some (.int k):=fun k hk=>by
 rw [h] at hk;cases hk;exact hd k rfl
theorem vnj {α:Type} {C:α->List Cell} {Q:α->Prop}:∀ rows:List (List Cell),(∀ r∈rows,∃ x,r=C x/\Q x)->∃ xs:List α,rows=xs.map C/\∀ x∈xs,Q x
 | [],_=>⟨[],rfl,fun x hx=>by cases hx⟩
 | r::rows,h=>by
  obtain ⟨x,hx,hq⟩:=h r (by simp);obtain ⟨xs,hxs,hqs⟩:=vnj rows (fun r' hr'=>h r' (by simp [hr']))
  exact ⟨x::xs,by rw [hx,hxs];rfl,fun y hy=>by
   rcases List.mem_cons.1 hy with rfl | hy
   . exact hq
   . exact hqs y hy⟩
theorem len2 {α:Type} {l:List α} (h:l.length=2):∃ a b,l=[a,b]:=by
 match l,h with
 | [a,b],_=>exact ⟨a,b,rfl⟩
theorem len3 {α:Type} {l:List α} (h:l.length=3):∃ a b c,l=[a,b,c]:=by
 match l,h with
 | [a,b,c],_=>exact ⟨a,b,c,rfl⟩
theorem len5 {α:Type} {l:List α} (h:l.length=5):∃ a b c d e,l=[a,b,c,d,e]:=by
 match l,h with
 | [a,b,c,d,e],_=>exact ⟨a,b,c,d,e,rfl⟩
theorem len6 {α:Type} {l:List α} (h:l.length=6):∃ a b c d e f,l=[a,b,c,d,e,f]:=by
 match l,h with
 | [a,b,c,d,e,f],_=>exact ⟨a,b,c,d,e,f,rfl⟩
theorem x9z:∀(t:TypeId) (cs:List Cell),FitT Tryz.prog 1048576 t cs->(t=24->∃ x:Ex,cs=exC x/\x.Sm)/\(t=22->∃ l:List Ex,cs=[.sl 5 (l.map Ex.cells)]/\l.length<=1048576/\∀ y∈l,y.Sm):=by
 intro t cs h
 induction h with
 | int ht=>exact ⟨fun e=>(by subst e;rw [Tryz.underlying24] at ht;cases ht),fun e=>(by subst e;rw [Tryz.underlying22] at ht;cases ht)⟩
 | bool ht=>exact ⟨fun e=>(by subst e;rw [Tryz.underlying24] at ht;cases ht),fun e=>(by subst e;rw [Tryz.underlying22] at ht;cases ht)⟩
 | str ht=>exact ⟨fun e=>(by subst e;rw [Tryz.underlying24] at ht;cases ht),fun e=>(by subst e;rw [Tryz.underlying22] at ht;cases ht)⟩
 | ints ht he=>exact ⟨fun e=>(by subst e;rw [Tryz.underlying24] at ht;cases ht),fun e=>(by subst e;rw [Tryz.underlying22] at ht;cases ht;rw [Tryz.underlying24] at he;cases he)⟩
 | array ht=>exact ⟨fun e=>(by subst e;rw [Tryz.underlying24] at ht;cases ht),fun e=>(by subst e;rw [Tryz.underlying22] at ht;cases ht)⟩
 | sl ht he hl h ih=>
  refine ⟨fun e=>(by subst e;rw [Tryz.underlying24] at ht;cases ht),fun e=>?_⟩;subst e;rw [Tryz.underlying22] at ht
  cases ht
  obtain ⟨xs,rfl,hxs⟩:=vnj (C:=Ex.cells) (Q:=Ex.Sm) _ (fun r hr=>by
   obtain ⟨x,h1,h2⟩:=(ih r hr).1 rfl
   exact ⟨x,by rw [h1,Ex.vle],h2⟩)
  exact ⟨xs,by rw [xs1],by simpa using hl,hxs⟩
 | struct ht hl h ih=>
  refine ⟨fun e=>?_,fun e=>(by subst e;rw [Tryz.underlying22] at ht;cases ht)⟩;subst e;rw [Tryz.underlying24] at ht
  cases ht;obtain ⟨r0,r1,r2,r3,r4,rfl⟩:=len5 hl;obtain ⟨o,rfl,_⟩:=(h 0 _ r0 rfl rfl).yny (Tryz.underlying3);obtain ⟨n,rfl,_⟩:=(h 1 _ r1 rfl rfl).yny (Tryz.underlying3);obtain ⟨u,rfl,hu⟩:=(h 2 _ r2 rfl rfl).x0a (Tryz.underlying9);obtain ⟨s,rfl,hs⟩:=(h 3 _ r3 rfl rfl).x0a (Tryz.underlying9);obtain ⟨l,rfl,hll,hls⟩:=(ih 4 _ r4 rfl rfl).2 rfl;exact ⟨.mk o n u s l,rfl,.mk _ (Nat.le_trans hll (by decide)) (Nat.le_trans hu (by decide)) (Nat.le_trans hs (by decide)) hls⟩
theorem voz {cs:List Cell} (h:FitT Tryz.prog 1048576 51 cs):∃ d:Dm,cs=dmC d:=by
 obtain ⟨rows,rfl,hl,hr⟩:=h.zst Tryz.underlying51;obtain ⟨r0,r1,r2,r3,r4,r5,rfl⟩:=len6 hl;obtain ⟨a,rfl,_⟩:=(hr r0 (by simp)).yny (Tryz.underlying3);obtain ⟨b,rfl,_⟩:=(hr r1 (by simp)).yny (Tryz.underlying3);obtain ⟨c,rfl,_⟩:=(hr r2 (by simp)).yny (Tryz.underlying3);obtain ⟨d,rfl,_⟩:=(hr r3 (by simp)).yny (Tryz.underlying3);obtain ⟨e,rfl,_⟩:=(hr r4 (by simp)).yny (Tryz.underlying3);obtain ⟨f,rfl,_⟩:=(hr r5 (by simp)).yny (Tryz.underlying3);exact ⟨⟨a,b,c,d,e,f⟩,rfl⟩
theorem vem {cs:List Cell} (h:FitT Tryz.prog 1048576 31 cs):∃(s:Int) (L:List Int),cs=[.raw (.int .i64 s),.ints .i64 L]/\L.length<=1048576:=by
 obtain ⟨rows,rfl,hl,hr⟩:=h.vtw Tryz.underlying31;obtain ⟨r0,r1,rfl⟩:=len2 hl;obtain ⟨s,rfl,_⟩:=(hr 0 _ r0 rfl rfl).yny (Tryz.underlying3);obtain ⟨L,rfl,hL,_⟩:=(hr 1 _ r1 rfl rfl).wtu (Tryz.underlying29) (Tryz.underlying3);exact ⟨s,L,rfl,hL⟩
theorem wme {cs:List Cell} (h:FitT Tryz.prog 1048576 33 cs):∃ f:Fc,cs=f.C/\f.sz<=1048576:=by
 obtain ⟨rows,rfl,hl,hr⟩:=h.vtw Tryz.underlying33;obtain ⟨r0,r1,rfl⟩:=len2 hl;obtain ⟨s,L,rfl,hL⟩:=vem (hr 0 _ r0 rfl rfl);obtain ⟨t,M,rfl,hM⟩:=vem (hr 1 _ r1 rfl rfl);exact ⟨⟨s,L,t,M⟩,rfl,Nat.max_le.2 ⟨hL,hM⟩⟩
theorem wbb {cs:List Cell} (h:FitT Tryz.prog 1048576 64 cs):∃ x:Bd,cs=x.C/\x.Sm:=by
 obtain ⟨rows,rfl,hl,hr⟩:=h.vtw Tryz.underlying64;obtain ⟨r0,r1,rfl⟩:=len2 hl;obtain ⟨s,rfl,hs⟩:=(hr 0 _ r0 rfl rfl).x0a (Tryz.underlying9);obtain ⟨f,rfl,hf⟩:=wme (hr 1 _ r1 rfl rfl);have h2:=Nat.max_le.1 hf;exact ⟨⟨s,f⟩,rfl,⟨Nat.le_trans hs (by decide),Nat.le_trans h2.1 (by decide),Nat.le_trans h2.2 (by decide)⟩⟩
theorem xc4 {cs:List Cell} (h:FitT Tryz.prog 1048576 35 cs):∃ s:Sc,cs=s.C/\s.sz<=1048576:=by
 obtain ⟨rows,rfl,hl,hr⟩:=h.vtw Tryz.underlying35;obtain ⟨r0,r1,rfl⟩:=len2 hl;obtain ⟨⟨s,L,t,M⟩,rfl,h1⟩:=wme (hr 0 _ r0 rfl rfl);obtain ⟨⟨s',L',t',M'⟩,rfl,h2⟩:=wme (hr 1 _ r1 rfl rfl);exact ⟨⟨⟨s,L,t,M⟩,⟨s',L',t',M'⟩⟩,rfl,Nat.max_le.2 ⟨h1,h2⟩⟩
theorem zb5 {cs:List Cell} (h:FitT Tryz.prog 1048576 45 cs):∃ x:Zn,cs=x.C/\x.Sm:=by
 obtain ⟨rows,rfl,hl,hr⟩:=h.vtw Tryz.underlying45;obtain ⟨r0,r1,rfl⟩:=len2 hl;obtain ⟨s,rfl,hs⟩:=(hr 0 _ r0 rfl rfl).x0a (Tryz.underlying9);obtain ⟨c,rfl,hc⟩:=xc4 (hr 1 _ r1 rfl rfl);exact ⟨⟨s,c⟩,rfl,⟨Nat.le_trans hs (by decide),hc⟩⟩
theorem xv9 {cs:List Cell} (h:FitT Tryz.prog 1048576 119 cs):∃ x:Rw,cs=x.C/\True:=by
 obtain ⟨rows,rfl,hl,hr⟩:=h.vtw Tryz.underlying119;obtain ⟨r0,r1,rfl⟩:=len2 hl;obtain ⟨a,rfl,_⟩:=(hr 0 _ r0 rfl rfl).yny (Tryz.underlying3);obtain ⟨b,rfl,_⟩:=(hr 1 _ r1 rfl rfl).yny (Tryz.underlying3);exact ⟨⟨a,b⟩,rfl,trivial⟩
theorem yt1 {cs:List Cell} (h:FitT Tryz.prog 1048576 122 cs):∃ x:Tb,cs=x.C/\x.Sm:=by
 obtain ⟨rows,rfl,hl,hr⟩:=h.vtw Tryz.underlying122;obtain ⟨r0,r1,r2,rfl⟩:=len3 hl;obtain ⟨s,rfl,hs⟩:=(hr 0 _ r0 rfl rfl).x0a (Tryz.underlying9);obtain ⟨u,rfl,hu⟩:=(hr 1 _ r1 rfl rfl).x0a (Tryz.underlying9);obtain ⟨rs,rfl,hrl,hrr⟩:=(hr 2 _ r2 rfl rfl).z1z (Tryz.underlying120) (v5a Tryz.underlying119 (fun k h=>by cases h));obtain ⟨xs,rfl,_⟩:=vnj (C:=Rw.C) (Q:=fun _=>True) _ (fun r hr'=>xv9 (hrr r hr'));refine ⟨⟨s,u,xs⟩,by rw [xu1];try rfl,⟨Nat.le_trans hs (by decide),Nat.le_trans hu (by decide),?_⟩⟩
 have:xs.length<=1048576:=by simpa using hrl
 exact Nat.le_trans this (by decide)
section
variable {H:Type} {enc:TypeId×Value->H} {W:World} {v:Value} {d:DataW H} {p:List MemPlace} {b:Nat}
theorem v80 (hval:Value.okWide Tryz.prog W .any b 24 v) (hd:DataW.Trod enc Tryz.prog W 0 (fun _=>true) true 24 v d p) (hb:Rows.uptoBulk d<=1048576) :
 ∃ x:Ex,RdB M0 W v (.agg (exC x))/\x.Sm:=by
 obtain ⟨cells,h1,h2⟩:=zx9 bulk zvc (by decide) Tryz.underlying24 hval hd hb;obtain ⟨x,rfl,h3⟩:=(x9z _ _ h1).1 rfl;exact ⟨x,h2,h3⟩
theorem vf8 (hval:Value.okWide Tryz.prog W .any b 26 v) (hd:DataW.Trod enc Tryz.prog W 0 (fun _=>true) true 26 v d p) (hb:Rows.uptoBulk d<=1048576) :
 ∃ l:List Tb,RdB M0 W v (.one (.sl 3 (l.map Tb.C)))/\l.length<=1048576/\∀ x∈l,x.Sm:=by
 obtain ⟨c,h1,h2⟩:=yqq bulk zvc (by decide) Tryz.underlying26 hval hd hb;obtain ⟨rows,e,hl,hr⟩:=h1.z1z (Tryz.underlying26) (v5a Tryz.underlying122 (fun k h=>by cases h));obtain ⟨xs,rfl,hx⟩:=vnj (C:=Tb.C) (Q:=Tb.Sm) _ (fun r hr'=>yt1 (hr r hr'))
 cases e;rw [w1y] at h2;exact ⟨xs,h2,by simpa using hl,hx⟩
theorem y93 (hval:Value.okWide Tryz.prog W .any b 25 v) (hd:DataW.Trod enc Tryz.prog W 0 (fun _=>true) true 25 v d p) (hb:Rows.uptoBulk d<=1048576) :
 ∃ l:List Zn,RdB M0 W v (.one (.sl 9 (l.map Zn.C)))/\l.length<=1048576/\∀ x∈l,x.Sm:=by
 obtain ⟨c,h1,h2⟩:=yqq bulk zvc (by decide) Tryz.underlying25 hval hd hb;obtain ⟨rows,e,hl,hr⟩:=h1.z1z (Tryz.underlying25) (v5a Tryz.underlying45 (fun k h=>by cases h));obtain ⟨xs,rfl,hx⟩:=vnj (C:=Zn.C) (Q:=Zn.Sm) _ (fun r hr'=>zb5 (hr r hr'))
 cases e;rw [yvn] at h2;exact ⟨xs,h2,by simpa using hl,hx⟩
theorem xho (hval:Value.okWide Tryz.prog W .any b 42 v) (hd:DataW.Trod enc Tryz.prog W 0 (fun _=>true) true 42 v d p) (hb:Rows.uptoBulk d<=1048576) :
 ∃ l:List Sc,RdB M0 W v (.one (.sl 8 (l.map Sc.C)))/\l.length<=1048576/\∀ x∈l,x.sz<=1048576:=by
 obtain ⟨c,h1,h2⟩:=yqq bulk zvc (by decide) Tryz.underlying42 hval hd hb;obtain ⟨rows,e,hl,hr⟩:=h1.z1z (Tryz.underlying42) (v5a Tryz.underlying35 (fun k h=>by cases h));obtain ⟨xs,rfl,hx⟩:=vnj (C:=Sc.C) (Q:=fun x=>x.sz<=1048576) _ (fun r hr'=>xc4 (hr r hr'))
 cases e;rw [vcj] at h2;exact ⟨xs,h2,by simpa using hl,hx⟩
theorem wag (hval:Value.okWide Tryz.prog W .any b 47 v) (hd:DataW.Trod enc Tryz.prog W 0 (fun _=>true) true 47 v d p) (hb:Rows.uptoBulk d<=1048576) :
 ∃ l:List Dm,RdB M0 W v (.one (.sl 6 (l.map Dm.C)))/\l.length<=1048576:=by
 obtain ⟨c,h1,h2⟩:=yqq bulk zvc (by decide) Tryz.underlying47 hval hd hb;obtain ⟨rows,e,hl,hr⟩:=h1.z1z (Tryz.underlying47) (v5a Tryz.underlying51 (fun k h=>by cases h));obtain ⟨xs,rfl,_⟩:=vnj (C:=Dm.C) (Q:=fun _=>True) _ (fun r hr'=>by obtain ⟨d,hd⟩:=voz (hr r hr');exact ⟨d,hd,trivial⟩)
 cases e;rw [wnt] at h2;exact ⟨xs,h2,by simpa using hl⟩
theorem z9u (hval:Value.okWide Tryz.prog W .any b 60 v) (hd:DataW.Trod enc Tryz.prog W 0 (fun _=>true) true 60 v d p) (hb:Rows.uptoBulk d<=1048576) :
 ∃ l:List Bd,RdB M0 W v (.one (.sl 5 (l.map Bd.C)))/\l.length<=1048576/\∀ x∈l,x.Sm:=by
 obtain ⟨c,h1,h2⟩:=yqq bulk zvc (by decide) Tryz.underlying60 hval hd hb;obtain ⟨rows,e,hl,hr⟩:=h1.z1z (Tryz.underlying60) (v5a Tryz.underlying64 (fun k h=>by cases h));obtain ⟨xs,rfl,hx⟩:=vnj (C:=Bd.C) (Q:=fun x=>x.Sm) _ (fun r hr'=>wbb (hr r hr'))
 cases e;rw [yjj] at h2;exact ⟨xs,h2,by simpa using hl,hx⟩
theorem y97 (hval:Value.okWide Tryz.prog W .any b 59 v) (hd:DataW.Trod enc Tryz.prog W 0 (fun _=>true) true 59 v d p) (hb:Rows.uptoBulk d<=1048576) :
 ∃ l:List Fc,RdB M0 W v (.one (.sl 4 (l.map Fc.C)))/\l.length<=1048576/\∀ x∈l,x.sz<=1048576:=by
 obtain ⟨c,h1,h2⟩:=yqq bulk zvc (by decide) Tryz.underlying59 hval hd hb;obtain ⟨rows,e,hl,hr⟩:=h1.z1z (Tryz.underlying59) (v5a Tryz.underlying33 (fun k h=>by cases h));obtain ⟨xs,rfl,hx⟩:=vnj (C:=Fc.C) (Q:=fun x=>x.sz<=1048576) _ (fun r hr'=>wme (hr r hr'))
 cases e;rw [wbw] at h2;exact ⟨xs,h2,by simpa using hl,hx⟩
end
theorem ended {f:FuncId} {args:List AV} {vs:List Value} {W:World} (hc:Go.Hp.CallsD [] Tryz.prog f args (.one (cB true))) (hr:RdBL M0 W vs args):Calls Tryz.prog f vs.toArray W fun e W'=>e=.returned (.bool true)/\Below W.heap.size W W':=
 (hc.2 M0 W vs (fun b o h=>h.elim) (fun g cs h=>by cases h) hr).mono (fun e W' ⟨v,he,hb,hr',_⟩=>by
   have hv:v=.bool true:=RdC.zb6 hr';rw [hv] at he
   exact ⟨he,hb⟩)
def zE:Value:=.agg #[.int .i64 0,.int .i64 0,.string ⟨#[]⟩,.string ⟨#[]⟩,.slice none 0 0]
def dI {H:Type}:DataW H:=.lit (.int .i64 0)
def dS {H:Type}:DataW H:=.lit (.string [])
def dE {H:Type}:DataW H:=.agg [dI,dI,dS,dS,.nil]
end Go.Proofs.YtmegdbbbllffkaaGreat
