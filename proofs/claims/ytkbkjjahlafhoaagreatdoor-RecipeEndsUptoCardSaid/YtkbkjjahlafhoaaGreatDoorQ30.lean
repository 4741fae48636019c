/- The proof, part Q30: 6h, 3b, 3c, Ga, 3d, 3e, 3f. -/
import Derived.Test.YtkbkjjahlafhoaaGreatDoorQ17
import Derived.Test.YtkbkjjahlafhoaaGreatDoorQ28
import Derived.Test.YtkbkjjahlafhoaaGreatDoorQ29
import Derived.Test.YtkbkjjahlafhoaaGreatDoorQ27
import Derived.Test.YtkbkjjahlafhoaaGreatDoorQ23
import Derived.Test.YtkbkjjahlafhoaaGreatDoorQ20
namespace Go.Hp.T
open Go Go.RowKit Go.Slot Go.Hp Go.Slot.T
open Go.Proofs.Tryz
attribute [local irreducible] hide RH
set_option maxRecDepth 10000
set_option maxHeartbeats 8000000
variable {Γ:List (Nat×List Cell)}
theorem wt8 {α:Type} {s t:ByteArray} {v u:α}:∀{l:List (ByteArray×α)},v7b (updF l s v) t=some u->u=v\/v7b l t=some u
 | [],h=>by
  simp only [updF,v7b] at h
  cases hq:seq t s with
  | true=>rw [hq] at h;exact .inl (Option.some.inj h).symm
  | false=>rw [hq] at h;cases h
 | p::l,h=>by
  simp only [updF] at h
  cases hs:seq s p.1 with
  | true=>
   rw [hs,cond_true] at h;simp only [v7b] at h ⊢
   cases hq:seq t s with
   | true=>rw [hq] at h;exact .inl (Option.some.inj h).symm
   | false=>
    rw [hq,cond_false] at h
    cases hp:seq t p.1 with
    | true=>
     have e1:t=p.1:=by simpa [z8u] using hp
     have e2:s=p.1:=by simpa [z8u] using hs
     rw [z8u,e1,e2] at hq;simp at hq
    | false=>exact .inr h
  | false=>
   rw [hs,cond_false] at h;simp only [v7b] at h ⊢
   cases hp:seq t p.1 with
   | true=>rw [hp] at h;exact .inr h
   | false=>rw [hp,cond_false] at h;rw [cond_false];exact wt8 h
theorem v8t:∀(l:List Cel) (m:Ms),(∀ s u,v7b m s=some u->u.size<=1073741824)->(∀ x∈l,x.unit.size<=1073741824)->∀ s u,v7b (l.foldl (fun m x=>updF m x.name x.unit) m) s=some u->u.size<=1073741824
 | [],m,h,_,s,u,hu=>h s u hu
 | x::l,m,h,hx,s,u,hu=>v8t l _ (fun s u hu=>by
  rcases wt8 hu with rfl | hu
  . exact hx x List.mem_cons_self
  . exact h s u hu) (fun y hy=>hx y (List.mem_cons_of_mem _ hy)) s u hu
def addT (H:Mb) (i:Int) (T:List Tg):Mb:=T.foldl (fun H z=>updG tgE H z i) H
abbrev Lk:=Int×Int×List Int
def zds (C I:Ms) (N:Mn) (kind:ByteArray):List Stp->Nat->Mb->Lk ⊕ Mb
 | [],_,H=>.inr H
 | y::l,i,H=>bif decide (¬z2w C I N H kind y=0) then .inl (z2w C I N H kind y,i,vq1 (z2w C I N H kind y) i H y) else zds C I N kind l (i+1) (addT H i (yr8 y))
def endL (s:Sht) (x:Rcp) (H:Mb):Lk:=bif (gapR s x H).2 then (21,x.steps.length,bif decide (¬(gapR s x H).1 = -1) then [(gapR s x H).1] else []) else (0,0,[])
def vt5 (s:Sht) (r:Int):Lk:=bif !vtb s||(decide (r<0)||decide ((s.recipes.length:Int)<=r)) then (1,0,[]) else
 match zds (vp1 s) (wnc s) (ve8 s) (s.recipes.getD r.toNat default).kind (s.recipes.getD r.toNat default).steps 0 [] with
 | .inl k=>k
 | .inr H=>endL s (s.recipes.getD r.toNat default) H
abbrev lokR (k:Lk):AV:=.tup [.one (cI k.1),.one (cI k.2.1),.one (.ints .i64 k.2.2)]
theorem wpf (a b:Int):RLe (.tup [.one (cI a),.one (cI b),.one (.raw (.slice none 0 0))]) (lokR (a,b,[])):=.tup (.cons (.refl _) (.cons (.refl _) (.cons (.one (.zt9 _)) .nil)))
theorem zik (s:Sht) (r:Int) (hs:s.Sm) (h:(!vtb s||(decide (r<0)||decide ((s.recipes.length:Int)<=r)))=true):CallsD Γ prog 38 [.agg (shtC s),.one (cI r)] (lokR (vt5 s r)):=by
 have hR:=zjd (Γ:=Γ) s hs;have hrl:=hs.rl;unfold vt5;rw [h,cond_true];generalize vtb s=b at *;clear hs;refine hE [] func38 f38.eq_1 ?_
 repeat' first|refine hF ?_ ?_<;>intros|(with_reducible refine wdy hR ?_)<;>refine hgS ?_
 all_goals first
  | exact wpf _ _
  | (exfalso;simp_all;done)
  | (exfalso;simp_all;omega)
abbrev lkBs (s:Sht) (x:Rcp) (C I:Ms) (N:Mn) (H:Mb):List SB:=[.box ((shtC s).map .dat) (some 31),.box ((rcpC x).map .dat) (some 67),.box ((shtC s).map .dat) (some 31),itB 4 5 6,mS C,mS I,mN N,itB 4 5 6,mK H]
theorem z6f (s:Sht) (hs:s.Sm) (a b:SB):xbh Γ prog 77 [a,b] [.agg ((shtC s).map .dat)] [a,b,.box ((shtC s).map .dat) (some 31),itB 4 5 6,mS (vp1 s),mS (wnc s),mN (ve8 s)] (.agg [.mp 4,.mp 5,.mp 6]):=by
 have h:=xbh.at [] (η:=[a,b]) (wya (Γ:=Γ) s hs) (by decide) rfl rfl rfl
 have e:putR [] [a,b] (colB s)=[a,b,.box ((shtC s).map .dat) (some 31),itB 4 5 6,mS (vp1 s),mS (wnc s),mN (ve8 s)]:=by
  show [a,b,_,_,rnSB _ (mS (vp1 s)),rnSB _ (mS (wnc s)),rnSB _ (mN (ve8 s))]=_;rw [ykl,ykl,y6c];rfl
 rw [e] at h;exact h
theorem z0w (C I:Ms) (N:Mn) (H:Mb) (η:List SB) (h0:η[4]? = some (mS C)) (h1:η[5]? = some (mS I)) (h2:η[6]? = some (mN N)) (h3:η[8]? = some (mK H)):[4,5,6,8].map (fun j=>η[j]?)=(wrBs C I N H).map (fun y=>some (rnSB (atR [4,5,6,8] η.length) y)):=by
 show [η[4]?,η[5]?,η[6]?,η[8]?]=[some (rnSB _ (mS C)),some (rnSB _ (mS I)),some (rnSB _ (mN N)),some (rnSB _ (mK H))];rw [ykl,ykl,y6c,yu3,h0,h1,h2,h3]
theorem wok (H:Mb) (η:List SB) (h3:η[8]? = some (mK H)):[8].map (fun j=>η[j]?)=[mK H].map (fun y=>some (rnSB (atR [8] η.length) y)):=by
 show [η[8]?]=[some (rnSB _ (mK H))];rw [yu3,h3]
theorem z9x {H:Mb} {k:Int} {T:List Tg} {i:Nat} (h:i<T.length):addT H k (T.take (i+1))=updG tgE (addT H k (T.take i)) (T.getD i default) k:=zlr h
theorem x88 {x:Stp} (h1:x.inn.length<=1073741824) (h2:x.out.length<=1073741824):(yr8 x).length<=4294967296:=by
 unfold yr8;rw [List.length_append,List.length_append,List.length_map,List.length_map]
 cases (decide (x.kind=0)||(decide (x.kind=1)||decide (x.kind=5)))
 . simp;omega
 . simp;omega
theorem z7p (s:Sht) (r:Int) (hs:s.Sm) (hr:vtb s=true) (h0:0<=r) (h1:r<s.recipes.length):CallsD Γ prog 38 [.agg (shtC s),.one (cI r)] (lokR (vt5 s r)):=by
 have hR:=zjd (Γ:=Γ) s hs;have hrl:=hs.rl
 have hrn:r.toNat<s.recipes.length:=by omega
 have hx:=hs.r _ (z1y hrn);have hC:∀ a u,v7b (vp1 s) a=some u->u.size<=1073741824:=v8t s.cells [] (fun a u h=>by cases h) (fun y hy=>(hs.c y hy).2.1)
 have hL:vt5 s r=match zds (vp1 s) (wnc s) (ve8 s) (s.recipes.getD r.toNat default).kind (s.recipes.getD r.toNat default).steps 0 [] with
  | .inl k=>k
  | .inr H=>endL s (s.recipes.getD r.toNat default) H:=by
  unfold vt5;rw [hr,decide_eq_false (show ¬r<0 by omega),decide_eq_false (show ¬(s.recipes.length:Int)<=r by omega)];rfl
 generalize hRR:vt5 s r=R at *
 have hcol:=fun a b=>z6f (Γ:=Γ) s hs a b
 have hgap:=fun x H a b=>xgu (Γ:=Γ) s x H hs.nl hs.il hs.pl a b
 rw [hr] at hR;clear hr hs hRR;refine hE [] func38 f38.eq_1 ?_
 repeat' first|refine hF ?_ ?_<;>intros|(with_reducible refine wdy hR ?_)<;>refine hgS ?_
 all_goals try (exfalso;omega)
 generalize s.recipes.getD r.toNat default=x at *;refine v92 (hcol _ _) rfl ?_;clear hcol hR;refine hg ?_;generalize vp1 s=C at *;generalize wnc s=I at *;generalize ve8 s=N at *;refine wf5 [2,7,8,9,40,41] (fun p:Nat×Mb=>[(42,.one (.dat (cI p.1)))]) (fun p=>lkBs s x C I N p.2)
  (fun p=>p.1<=x.steps.length/\(match zds C I N x.kind (x.steps.drop p.1) p.1 p.2 with
    | .inl k=>k
    | .inr H=>endL s x H)=R) (fun p=>x.steps.length-p.1) (0,[]) ⟨Nat.zero_le _,hL.symm⟩ ?_ ?_
 . refine hg ?_;exact sS
 clear hL;rintro ⟨i,H⟩ ⟨h2,h3⟩;dsimp only at h2 h3;have hxl:=hx.2.1;refine hg ?_;refine y8g (fun hlt _=>?_) (fun hlt _=>?_)
 . have hlt':i<x.steps.length:=by omega
   have hy:=hx.2.2 _ (z1y hlt');have cw:=ym2 (Γ:=Γ) C I N H x.kind (x.steps.getD i default) hy hC
   have cb:=fun e=>w6b (Γ:=Γ) e (i:Int) H (x.steps.getD i default) hy.il hy.ol
   have ct:=yfh (Γ:=Γ) (x.steps.getD i default) hy.il hy.ol;rw [xc3 hlt',zds] at h3;have hTl:=x88 hy.il hy.ol;generalize z2w C I N H x.kind (x.steps.getD i default)=e at *;generalize yr8 (x.steps.getD i default)=T at *;clear hC hgap;refine hg ?_;refine zue (xbh.roN [4,5,6,8] cw (by decide) rfl (z0w C I N H _ rfl rfl rfl rfl)) ?_;clear cw;refine hg ?_;refine y8g (fun he hd=>?_) (fun he hd=>?_)
   . rw [hd,cond_true] at h3;refine hg ?_;refine zue (xbh.roN [8] (cb e) (by decide) rfl (wok H _ rfl)) ?_;clear cb;refine hg ?_;exact RLe.ofEq (by rw [<-h3])
   . rw [hd,cond_false] at h3;clear cb;refine hg ?_
     (with_reducible refine wdy ct ?_)<;>refine hgS ?_
     refine wf5 [2,7,8,9,10,40,41,42,63,64] (fun k:Nat=>[(65,.one (.dat (cI k)))]) (fun k=>lkBs s x C I N (addT H i (T.take k))++[.box ((stpC (x.steps.getD i default)).map .dat) (some 70)])
      (fun k=>k<=T.length) (fun k=>T.length-k) 0 (Nat.zero_le _) ?_ ?_
     . refine hg ?_;exact sS
     intro k hk;refine hg ?_;refine y8g (fun hlt2 _=>?_) (fun hlt2 _=>?_)
     . have hlt3:k<T.length:=by omega
       have hU:=z9x (H:=H) (k:=(i:Int)) hlt3;generalize addT H i (T.take k)=D at *;refine hg ?_;refine ⟨k+1,by omega,by omega,?_⟩;rw [hU];refine StH.cutN [2,7,8,9,10,40,41,42,63,64,65] 10 rfl ?_ ?_
       . refine hg ?_
         first | exact trivial | rfl
       exact sS
     . rw [List.take_of_length_le (show T.length<=k by omega)];refine hg ?_;refine ⟨(i+1,addT H i T),⟨by dsimp only;omega,h3⟩,by dsimp only;omega,?_⟩;refine StH.cutN [2,7,8,9,40,41,42] 9 rfl ?_ ?_
       . refine hg ?_
         first | exact trivial | rfl
       exact sS
 . rw [List.drop_eq_nil_of_le (show x.steps.length<=i by omega),zds] at h3;have cg:=hgap x H hx.2.1 (fun y hy=>(hx.2.2 y hy).ol);dsimp only at h3;unfold endL at h3;generalize gapR s x H=g at *;obtain ⟨k,b⟩:=g;dsimp only at h3 cg;clear hgap hC;refine hg ?_;refine zue (xbh.roN [8] cg (by decide) rfl (wok H _ rfl)) ?_;clear cg;refine hg ?_
   repeat' first|refine hF ?_ ?_<;>intros|refine hI ?_
   . exact RLe.ofEq (by rw [<-h3];simp [*])
   . have e:R=((21,(x.steps.length:Int),[]):Lk):=by rw [<-h3];simp [*]
     rw [e];exact wpf _ _
   . have e:R=((0,0,[]):Lk):=by rw [<-h3];simp [*]
     rw [e];exact wpf _ _
theorem zdu (s:Sht) (r:Int) (hs:s.Sm):CallsD Γ prog 38 [.agg (shtC s),.one (cI r)] (lokR (vt5 s r)):=by
 by_cases h:(!vtb s||(decide (r<0)||decide ((s.recipes.length:Int)<=r)))=true
 . exact zik s r hs h
 . rw [Bool.not_eq_true] at h;simp only [Bool.or_eq_false_iff,Bool.not_eq_false',decide_eq_false_iff_not] at h;exact z7p s r hs h.1 (by omega) (by omega)
theorem vwp (s:Sht) (r:Int) (hs:s.Sm):CallsD Γ prog 11 [.agg (shtC s),.one (cI r)] (.tup [.one (cI (vt5 s r).1),.one (cI (vt5 s r).2.1)]):=by
 have h:=zdu (Γ:=Γ) s r hs;generalize vt5 s r=k at *;obtain ⟨a,b,c⟩:=k;dsimp only at h ⊢;clear hs;refine hE [] func11 f11.eq_1 ?_
 (with_reducible refine wdy h ?_)<;>refine hgS ?_
 exact RLe.ofEq rfl
end Go.Hp.T
namespace Go.Hp.T
open Go Go.RowKit Go.Slot Go.Hp Go.Slot.T
set_option maxRecDepth 10000
abbrev Mf:=List (ByteArray×List Fc)
structure Wk where
 m:Mf
 srcs:List Src
 outs:List Ot
 shares:List (List Fc)
def divF (a b:Fc):Fc:=if a.ok/\b.ok/\¬b.val=0 then Fc.of (a.val / b.val) else Fc.zero
theorem v8u {x y:Rat} (h:¬y=0):divF (Fc.of x) (Fc.of y)=Fc.of (x / y):=by
 unfold divF;rw [Fc.y22,Fc.y22,if_pos ⟨Fc.wvr x,Fc.wvr y,h⟩]
def idxC (s:Sht) (w:ByteArray):Int:=idxF (fun c=>seq c.name w) s.cells
def idxI (s:Sht) (w:ByteArray):Int:=idxF (fun c=>seq c.name w) s.inputs
def idxM (s:Sht) (w:ByteArray):Int:=idxF (fun c=>seq c.name w) s.imports
def idxS (s:Sht) (w:ByteArray):Int:=idxF (fun c=>seq c.name w) s.stores
def idxP (s:Sht) (w:ByteArray):Int:=idxF (fun c=>seq c.name w) s.ports
def valF (s:Sht) (cs:List Sc) (w:ByteArray):Sc:=cs.getD (idxC s w).toNat Sc.zero
def badV (v:Sc):Bool:=!decide (v.low=v.high)||decide (Fc.sign v.low<0)
def sumV (s:Sht) (cs:List Sc) (l:List ByteArray):Fc:=l.foldl (fun a w=>Fc.add a (valF s cs w).low) (Fc.of 0)
def wtE (s:Sht) (cs:List Sc) (l:List ByteArray):Int:=bif l.any (fun w=>badV (valF s cs w)) then 3 else bif decide (Fc.sign (sumV s cs l)=0) then 15 else 0
def wtL (s:Sht) (cs:List Sc) (l:List ByteArray):List Fc:=l.map fun w=>divF (valF s cs w).low (sumV s cs l)
def wtF (s:Sht) (cs:List Sc) (l:List ByteArray):List Fc:=bif decide (wtE s cs l=0) then wtL s cs l else []
def wrt (m:Mf) (w:ByteArray) (i:Nat):Fc:=((v7b m w).getD []).getD i (Fc.of 0)
def zkw (m:Mf) (l:List ByteArray) (i:Nat):Fc:=l.foldl (fun a w=>Fc.add a (wrt m w i)) (Fc.of 0)
def mixF (m:Mf) (n:Nat) (l:List ByteArray) (b:Fc):List Fc:=(List.range n).map fun i=>Fc.mul (zkw m l i) b
def newL (n:Nat):List Fc:=List.replicate n (Fc.of 0)++[Fc.of 1]
def srcW (w:Wk) (x:Src) (p:ByteArray):Wk:=⟨updF w.m p (newL w.srcs.length),w.srcs++[x],w.outs,w.shares⟩
def outW (w:Wk) (x:Ot) (p:ByteArray):Wk:=⟨w.m,w.srcs,w.outs++[x],w.shares++[(v7b w.m p).getD []]⟩
def zlv (n:Nat) (inn:List ByteArray) (wt:List Fc) (o:List ByteArray) (m:Mf) (k:Nat):Mf:=(List.range k).foldl (fun m i=>updF m (o.getD i default) (mixF m n inn (wt.getD i Fc.zero))) m
theorem wgf {n:Nat} {inn:List ByteArray} {wt:List Fc} {o:List ByteArray} {m:Mf} {k:Nat}:zlv n inn wt o m (k+1)=updF (zlv n inn wt o m k) (o.getD k default) (mixF (zlv n inn wt o m k) n inn (wt.getD k Fc.zero)):=by
 unfold zlv;rw [List.range_succ,List.foldl_append];rfl
def setM (w:Wk) (m:Mf):Wk:=⟨m,w.srcs,w.outs,w.shares⟩
def vlo (s:Sht) (cs:List Sc) (w:Wk) (x:Stp):Wk:=
 bif decide (x.kind=0) then srcW w ⟨0,idxI s x.name,0⟩ (x.out.getD 0 default) else
 bif decide (x.kind=1) then srcW w ⟨1,idxM s x.name,0⟩ (x.out.getD 0 default) else
 bif decide (x.kind=2) then srcW w ⟨2,idxS s x.name,x.amount⟩ (x.out.getD 0 default) else
 bif decide (x.kind=3) then setM w (zlv w.srcs.length x.inn (wtF s cs x.cells) x.out w.m x.out.length) else
 bif decide (x.kind=4) then setM w (updF w.m (x.out.getD 0 default) (mixF w.m w.srcs.length x.inn (Fc.of 1))) else
 bif decide (x.kind=5) then outW w ⟨0,idxP s x.name,0,⟨#[]⟩⟩ (x.inn.getD 0 default) else
 bif decide (x.kind=6) then outW w ⟨1,idxS s x.name,x.amount,⟨#[]⟩⟩ (x.inn.getD 0 default) else
 bif decide (x.kind=7) then outW w ⟨2,0,0,x.name⟩ (x.inn.getD 0 default) else
 bif decide (x.kind=8) then outW w ⟨3,0,0,⟨#[]⟩⟩ (x.inn.getD 0 default) else w
def ytm (s:Sht) (cs:List Sc) (l:List Stp) (w:Wk):Nat->Wk
 | 0=>w
 | n+1=>vlo s cs (ytm s cs l w n) (l.getD n default)
def errW (s:Sht) (cs:List Sc) (x:Stp):Int:=bif decide (x.kind=3) then wtE s cs x.cells else 0
def wsy (n:Nat) (l:List Fc):List Fc:=(l++List.replicate (n-l.length) (Fc.of 0)).map fun x=>Fc.add x (Fc.of 0)
def nilW:Wk:=⟨[],[],[],[]⟩
def xjd (w:Wk):Fl:=⟨w.srcs,w.outs,w.shares.map (wsy w.srcs.length)⟩
abbrev Fr:=Fl×Int×Int
def zwk (s:Sht) (cs:List Sc):List Stp->Nat->Option (Int×Nat)
 | [],_=>none
 | x::l,i=>bif decide (errW s cs x=0) then zwk s cs l (i+1) else some (errW s cs x,i)
def badA (s:Sht) (r:Int) (cs:List Sc):Bool:=!vtb s||(decide (r<0)||(decide ((s.recipes.length:Int)<=r)||(!decide (cs.length=s.cells.length)||cs.any fun v=>!decide v.ok)))
def ww1 (s:Sht) (r:Int) (cs:List Sc):Fr:=
 bif badA s r cs then (⟨[],[],[]⟩,1,0) else
 bif !decide ((vt5 s r).1=0) then (⟨[],[],[]⟩,(vt5 s r).1,(vt5 s r).2.1) else
 match zwk s cs (s.recipes.getD r.toNat default).steps 0 with
 | some e=>(⟨[],[],[]⟩,e.1,e.2)
 | none=>(xjd (ytm s cs (s.recipes.getD r.toNat default).steps nilW (s.recipes.getD r.toNat default).steps.length),0,0)
end Go.Hp.T
namespace Go.Hp
open Go Go.RowKit Go.Slot
variable {P:Program} {Γ:List (Nat×List Cell)} {e:List SB}
variable {J J':List SV} {η η':List SB} {y:HC} {c:Code} {bs:List Nat} {G:List (Nat×List GhH)} {Q:Exit->Bool->List SV->List SB->Prop}
theorem StH.dat1 (t:Nat) {c:Cell} (hs:gtS J t=.one y) (hd:xf6 η y=some (c,bs)):StH Γ e J η (J.set t (.one (.dat c))) (appL (frzE η bs) η):=fun E ρ a w _ hR=>by
 obtain ⟨h1,h2⟩:=hR.frz (v5z hd);refine ⟨ρ,h1.hd,by rw [List.length_set];exact h1.hs,fun i x hi=>?_,h1.went⟩;by_cases hit:t=i
 . subst hit
   have hg:J[t]? = some (.one y):=by
    unfold gtS at hs
    cases hk:J[t]? with
    | none=>rw [hk] at hs;cases hs
    | some z=>rw [hk] at hs;exact congrArg some hs
   have hlt:t<J.length:=(List.getElem?_eq_some_iff.1 hg).1;rw [List.getElem?_set_self hlt] at hi
   cases hi;exact zrl h1.inv hd h2 (h1.slot t _ hg)
 . rw [List.getElem?_set_ne hit] at hi;exact h1.slot i x hi
theorem hle (h:StH Γ e J η J' η') (k:RH Γ P e G c true Q J' η'):xty Γ P e c (outH Q) J η:=xty.le h (RH.sound c true Q J' η' k)
theorem hfrz (t:Nat) {z:Cell} (hs:gtS J t=.one y) (hd:xf6 η y=some (z,bs)) (hσ:J.set t (.one (.dat z))=J') (hη:appL (frzE η bs) η=η') (k:RH Γ P e G c true Q J' η'):xty Γ P e c (outH Q) J η:=
 hle (hσ▸hη▸StH.dat1 t hs hd) k
end Go.Hp
namespace Go.Hp.T
open Go Go.RowKit Go.Slot Go.Hp Go.Slot.T
open Go.Proofs.Tryz
attribute [local irreducible] hide RH
set_option maxRecDepth 10000
set_option maxHeartbeats 4000000
variable {Γ:List (Nat×List Cell)}
theorem x7v (f:Fc) (h:f.sz<=268435456):CallsD Γ prog 16 [.agg f.C] (.one (cB (decide f.ok))):=toD (z1q f h)
theorem wio {y:Rat}:sg y.num=0↔y=0:=by
 constructor
 . intro h
   have:=yo8 y.num
   exact Rat.num_eq_zero.1 (by omega)
 . rintro rfl;rfl
end Go.Hp.T
namespace Go.Hp.T
open Go Go.RowKit Go.Slot Go.Hp Go.Slot.T
open Go.Proofs.Tryz
variable {f:Fl} {x:Src} {l:List Fc} {i k:Nat} {r:List (List Fc)} {z:Fc}
attribute [local irreducible] hide RH
set_option maxRecDepth 10000
set_option maxHeartbeats 8000000
variable {Γ:List (Nat×List Cell)}
theorem wi7 (h:¬(f.srcs.length<=100/\f.outs.length<=100/\f.shares.length=f.outs.length)):vkz f=false:=by
 unfold vkz;simp only [<-Bool.decide_and];rw [decide_eq_false h,Bool.false_and]
theorem zg9 (h:f.srcs.length<=100/\f.outs.length<=100/\f.shares.length=f.outs.length):vkz f=(v2n f&&yp2 f):=by
 unfold vkz;simp only [<-Bool.decide_and];rw [decide_eq_true h,Bool.true_and]
theorem y9u {n:Nat} {x:Ot} (h:¬x.kind<0/\¬4<=x.kind/\¬x.index<0/\l.length=n):outR n x l=true:=by
 unfold outR;rw [decide_eq_false h.1,decide_eq_false h.2.1,decide_eq_false h.2.2.1,decide_eq_true h.2.2.2];rfl
theorem v21 {n:Nat} {x:Ot} (h:¬(¬x.kind<0/\¬4<=x.kind/\¬x.index<0/\l.length=n)):outR n x l=false:=by
 unfold outR;simp only [<-decide_not,<-Bool.decide_and];exact decide_eq_false h
theorem x82 (h:¬x.kind<0/\¬3<=x.kind/\¬x.index<0):srcR x=true:=by
 unfold srcR;rw [decide_eq_false h.1,decide_eq_false h.2.1,decide_eq_false h.2.2];rfl
theorem xvp (h:¬(¬x.kind<0/\¬3<=x.kind/\¬x.index<0)):srcR x=false:=by
 unfold srcR;simp only [<-decide_not,<-Bool.decide_and];exact decide_eq_false h
theorem yy6 {s:Fc} (h:¬((l.getD i Fc.zero).ok/\¬Fc.sign (l.getD i Fc.zero)<0)):colF i (l::r) s=false:=by
 rw [colF,<-Bool.and_assoc,<-decide_not,<-Bool.decide_and,decide_eq_false h,Bool.false_and]
theorem vd8 {s:Fc} (h:(l.getD i Fc.zero).ok/\¬Fc.sign (l.getD i Fc.zero)<0):colF i (l::r) s=colF i r (Fc.add s (l.getD i Fc.zero)):=by
 rw [colF,<-Bool.and_assoc,<-decide_not,<-Bool.decide_and,decide_eq_true h,Bool.true_and]
abbrev fcC (x:Fc):List Cell:=[.raw (.int .i64 x.s),.ints .i64 x.L,.raw (.int .i64 x.t),.ints .i64 x.M]
theorem zh7 (h:z=Fc.of 0):CallsD Γ prog 44 [.one (cI 0)] (.agg (fcC z)):=by
 subst h
 have:=toD (Γ:=Γ) (xtj 0 (by decide))
 rwa [show ((0:Int):Rat)=0 from rfl] at this
theorem vzx (h:z=Fc.of 1):CallsD Γ prog 44 [.one (cI 1)] (.agg (fcC z)):=by
 subst h
 have:=toD (Γ:=Γ) (xtj 1 (by decide))
 rwa [show ((1:Int):Rat)=1 from rfl] at this
theorem yg8 (x:Fc) (h:x.sz<=67108864):CallsD Γ prog 16 [.agg (fcC x)] (.one (cB (decide x.ok))):=x7v x (by omega)
theorem zct (x:Fc) (h:x.sz<=67108864):CallsD Γ prog 19 [.agg (fcC x)] (.one (cI (Fc.sign x))):=toD (yi8 x h)
theorem y26 (x y:Fc) (h:x.sz<=67108864) (h':y.sz<=67108864):CallsD Γ prog 67 [.agg (fcC x),.agg (fcC y)] (.one (cB (decide (x=y)))):=toD (x57 x y h h')
theorem fAdd (x y:Fc) (h:x.sz<=67108864) (h':y.sz<=67108864):∃ e,CallsD Γ prog 18 [.agg (fcC x),.agg (fcC y)] (.tup [.agg (fcC (Fc.add x y)),.one (cI e)]):=⟨_,toD (wbe x y h h')⟩
theorem fMul (x y:Fc) (h:x.sz<=67108864) (h':y.sz<=67108864):∃ e,CallsD Γ prog 23 [.agg (fcC x),.agg (fcC y)] (.tup [.agg (fcC (Fc.mul x y)),.one (cI e)]):=⟨_,toD (vkh x y h h')⟩
abbrev flB (f:Fl):SB:=.box ((flC f).map .dat) (some 41)
theorem xgy (hf:f.Sm) (hk:k<f.shares.length) (hi:i<(f.shares.getD k default).length):((f.shares.getD k default).getD i Fc.zero).sz<=100000:=
 hf.fz _ (z1y hk) _ (ldM hi)
theorem w0b (f:Fl) (hf:f.Sm):CallsD Γ prog 42 [.agg (flC f)] (.one (cB (vkz f))):=by
 have hsl:=hf.sl;have hol:=hf.ol;have hhl:=hf.hl
 have hfz:=fun k i hk hi=>xgy hf (k:=k) (i:=i) hk hi
 clear hf;have b0:=wi7 (f:=f)
 have b1:_->(v2n f&&yp2 f)=vkz f:=fun h=>(zg9 (f:=f) h).symm
 generalize vkz f=R at *;refine hE [] func42 f42.eq_1 ?_
 repeat' (refine hF ?_ ?_<;>intros)
 all_goals try (first | exact RLe.ofEq rfl | exact RLe.ofEq (by rw [b0 (by omega)]))
 have hlen:f.srcs.length<=100/\f.outs.length<=100/\f.shares.length=f.outs.length:=by omega
 replace b1:=b1 hlen
 clear b0;obtain ⟨hs1,ho1,hh1⟩:=hlen
 have e1:∀ i,i<f.outs.length->outR f.srcs.length (f.outs.getD i default) (f.shares.getD i default)=false->R=false:=fun i h h'=>by rw [<-b1,show v2n f=false from vui h h',Bool.false_and]
 refine wf5 [1,30,31] (fun i:Nat=>[(32,.one (.dat (cI i)))]) (fun _=>[flB f]) (fun i=>i<=f.outs.length/\∀ j,j<i->outR f.srcs.length (f.outs.getD j default) (f.shares.getD j default)=true) (fun i=>f.outs.length-i) 0 ⟨Nat.zero_le _,fun j hj=>by omega⟩ ?_ ?_
 . refine hg ?_;exact sS
 rintro i ⟨hi,hj⟩;refine hg ?_;refine y8g (fun hlt _=>?_) (fun hlt _=>?_)
 . have hlt' : i < f.outs.length := by omega
   have hlt2:i<f.shares.length:=by omega
   have e2:=e1 i hlt';clear e1 b1;refine hg ?_
   repeat' first|refine hF ?_ ?_<;>intros|refine hI ?_
   all_goals first
    | exact RLe.ofEq rfl
    | exact RLe.ofEq (by rw [e2 (v21 (by omega))])
    | (refine ⟨i+1,⟨by omega,yas hj (y9u (by omega))⟩,by omega,?_⟩
       refine StH.cutN [1,30,31,32] 1 rfl ?_ ?_
       . refine hg ?_
         first | exact trivial | rfl
       exact sS)
 have e4:v2n f=true:=ye3 (fun k hk=>hj k (by omega))
 have hrow:∀ k,k<f.shares.length->(f.shares.getD k default).length=f.srcs.length:=fun k hk=>by
  have:=hj k (by omega)
  unfold outR at this;simp only [Bool.and_eq_true,decide_eq_true_eq] at this;exact this.2.2.2
 rw [e4,Bool.true_and] at b1;clear hj e1 e4 hlt hi
 have e1:∀ i,i<f.srcs.length->(srcR (f.srcs.getD i default)&&colF i f.shares (Fc.of 0))=false->R=false:=fun i h h'=>by rw [<-b1];exact vui h h'
 have e5:(∀ i,i<f.srcs.length->(srcR (f.srcs.getD i default)&&colF i f.shares (Fc.of 0))=true)->R=true:=fun h=>by rw [<-b1];exact ye3 h
 clear b1;refine hg ?_;refine wf5 [1,64,65] (fun i:Nat=>[(66,.one (.dat (cI i)))]) (fun _=>[flB f]) (fun i=>i<=f.srcs.length/\∀ j,j<i->(srcR (f.srcs.getD j default)&&colF j f.shares (Fc.of 0))=true) (fun i=>f.srcs.length-i) 0 ⟨Nat.zero_le _,fun j hj=>by omega⟩ ?_ ?_
 . refine hg ?_;exact sS
 rintro i ⟨hi,hj⟩;refine hg ?_;refine y8g (fun hlt _=>?_) (fun hlt _=>?_)
 . have hlt':i<f.srcs.length:=by omega
   have e2:=e1 i hlt';clear e1 e5;generalize hT:colF i f.shares (Fc.of 0)=T at *
   have hT0:True->colF i f.shares (Fc.of 0)=T:=fun _=>hT
   obtain ⟨z,hz0⟩:∃ z,z=Fc.of 0:=⟨_,rfl⟩;have c0:=zh7 (Γ:=Γ) hz0;refine hg ?_
   repeat' first|refine hF ?_ ?_<;>intros|(with_reducible refine wdy c0 ?_)<;>refine hgS ?_
   all_goals try (first | exact RLe.ofEq rfl | exact RLe.ofEq (by rw [e2 (by rw [xvp (by omega)];rfl)]))
   have ho:=x82 (x:=f.srcs.getD i default) (by omega);rw [ho,Bool.true_and] at e2;refine wf5 [1,5,6,7,64,65,66,86,87] (fun p:Nat×Fc=>[(88,.one (.dat (cI p.1)))]) (fun p=>[flB f,.box (((f.srcs.getD i default).C).map .dat) (some 60),.box (p.2.C.map .dat) (some 51)])
    (fun p=>p.1<=f.shares.length/\colF i (f.shares.drop p.1) p.2=T/\p.2.sz<=p.1*100001+1) (fun p=>f.shares.length-p.1) (0,Fc.of 0) ⟨Nat.zero_le _,hT,zyp⟩ ?_ ?_
   . refine hg ?_;subst hz0;exact sS
   clear hT;rintro ⟨k,s⟩ ⟨hk,hT,hz⟩;dsimp only at hk hT hz;refine hg ?_;refine y8g (fun hlt3 _=>?_) (fun hlt3 _=>?_)
   . have hk':k<f.shares.length:=by omega
     have hr:=hrow k hk';have hy:=hfz k i hk' (by omega);rw [xc3 hk'] at hT;have c1:=yg8 (Γ:=Γ) ((f.shares.getD k default).getD i Fc.zero) (by omega);have c2:=zct (Γ:=Γ) ((f.shares.getD k default).getD i Fc.zero) (by omega);obtain ⟨ee,c3⟩:=fAdd (Γ:=Γ) s ((f.shares.getD k default).getD i Fc.zero) (by omega) (by omega);have hz2:=Fc.zgp s ((f.shares.getD k default).getD i Fc.zero);obtain ⟨b1,hB0⟩:∃ b,decide ((f.shares.getD k default).getD i Fc.zero).ok=b:=⟨_,rfl⟩;rw [hB0] at c1
     have hB:True->decide ((f.shares.getD k default).getD i Fc.zero).ok=b1:=fun _=>hB0
     clear hB0;clear hfz hrow c0;refine hg ?_
     repeat' first|refine hF ?_ ?_<;>intros|refine hI ?_|(with_reducible first|refine wdy c1 ?_|refine wdy c2 ?_|refine y04 c3 ?_)<;>refine hgS ?_
     all_goals first
      | exact RLe.ofEq rfl
      | exact RLe.ofEq (by rw [e2 (by rw [<-hT];exact yy6 (fun h=>by first | omega | (have q:=hB trivial;rw [decide_eq_true h.1] at q;simp_all;done)))])
      | (refine ⟨(k+1,Fc.add s ((f.shares.getD k default).getD i Fc.zero)),⟨by dsimp only;omega,?_,by dsimp only;omega⟩,by dsimp only;omega,?_⟩
         . rw [<-hT];exact (vd8 ⟨of_decide_eq_true ((hB trivial).trans (by assumption)),by omega⟩).symm
         exact sS)
   rw [List.drop_of_length_le (by omega),colF] at hT;obtain ⟨o,hoo⟩:∃ o,o=Fc.of 1:=⟨_,rfl⟩;have c1:=vzx (Γ:=Γ) hoo;have c2:=y26 (Γ:=Γ) s o (by omega) (by have:=wzi;rw [hoo];omega);rw [hoo,hT,<-hoo] at c2;clear hfz hT hoo;refine hg ?_
   repeat' first|refine hF ?_ ?_<;>intros|refine hI ?_|(with_reducible first|refine y04 c1 ?_|refine y04 c2 ?_)<;>refine hgS ?_
   all_goals first
    | exact RLe.ofEq rfl
    | exact RLe.ofEq (by rw [e2 (by assumption)])
    | (refine ⟨i+1,⟨by omega,yas hj (by rw [ho,hT0 trivial,Bool.true_and];assumption)⟩,by omega,?_⟩
       refine StH.cutN [1,64,65,66] 1 rfl ?_ ?_
       . refine hg ?_
         first | exact trivial | rfl
       exact sS)
 have e6:=e5 (fun k hk=>hj k (by omega));rw [e6];refine hg ?_;exact RLe.ofEq rfl
theorem wkj (x:Fc) (h:x.sz<=100000):CallsD Γ prog 41 [.agg x.C] (.one (cB (!decide x.ok))):=by
 have c:=yg8 (Γ:=Γ) x (by omega);generalize decide x.ok=b at *;refine hE [] func41 f41.eq_1 ?_
 (with_reducible refine wdy c ?_)<;>refine hgS ?_
 exact RLe.ofEq rfl
abbrev zrC:List Cell:=[cI 0,.zc,cI 0,.zc]
def z4b (a:List Fc) (sh:List (List Fc)) (k:Nat):List (List Cell):=(sh.take k).map (fun l=>(dotN a l l.length).C)++List.replicate (sh.length-k) zrC
theorem wn3 (a:List Fc) (sh:List (List Fc)):z4b a sh 0=List.replicate sh.length zrC:=rfl
theorem yxv (a:List Fc) (sh:List (List Fc)) (h:k=sh.length):z4b a sh k=(sh.map fun l=>dotN a l l.length).map Fc.C:=by
 subst h;unfold z4b;rw [List.take_length,Nat.sub_self,List.map_map];simp
theorem yax (a:List Fc) {sh:List (List Fc)} (h:k<sh.length):∃ A R,A.length=k/\A.length+R.length+1=sh.length/\z4b a sh k=A++zrC::R/\∀ v,v=(dotN a (sh.getD k default) (sh.getD k default).length).C->A++v::R=z4b a sh (k+1):=by
 refine ⟨(sh.take k).map (fun l=>(dotN a l l.length).C),List.replicate (sh.length-(k+1)) zrC,by simp;omega,by simp;omega,?_,fun v hv=>?_⟩
 . unfold z4b;rw [show sh.length-k=(sh.length-(k+1))+1 by omega,List.replicate_succ]
 . unfold z4b;rw [vys h,List.map_append,hv,List.append_assoc];rfl
theorem vcb {A R:List (List Cell)} (h:A.length=k) (v w:List Cell):(A++v::R).set k w=A++w::R:=by
 subst h;rw [List.set_append_right _ _ (Nat.le_refl _),Nat.sub_self];rfl
theorem z3h {A R:List (List Cell)} (h:A.length=k) (v:List Cell):(A++v::R).getD k []=v:=by
 subst h;rw [List.getD_eq_getElem?_getD,List.getElem?_append_right (Nat.le_refl _),Nat.sub_self];rfl
theorem ye4 (b:Bool):RLe (.tup [.one (.raw (.slice none 0 0)),.one (cB b)]) (.tup [.one (frsC []),.one (cB b)]):=.tup (.cons (.one (.nilSl _)) (.cons (.refl _) .nil))
theorem zuf (f:Fl) (a:List Fc) (hf:f.Sm) (hal:a.length<=1048576) (haz:∀ x∈a,x.sz<=100000):CallsD Γ prog 15 [.agg (flC f),.one (frsC a)] (.tup [.one (frsC (runF f a)),.one (cB (yed f a))]):=by
 have c1:=w0b (Γ:=Γ) f hf;have c2:=xys (Γ:=Γ) 41 (fun x=>!decide x.ok) a (by omega) (fun i hi=>wkj _ (haz _ (ldM hi)));have hsl:=hf.sl;have hol:=hf.ol;have hhl:=hf.hl
 have hokr:yed f a=true->f.shares.length=f.outs.length/\f.srcs.length<=100/\a.length=f.srcs.length/\∀ k,k<f.shares.length->(f.shares.getD k default).length=f.srcs.length:=fun h=>by
  unfold yed at h;simp only [Bool.and_eq_true,decide_eq_true_eq] at h;obtain ⟨h1,h2,_⟩:=h
  have hle:f.srcs.length<=100/\f.outs.length<=100/\f.shares.length=f.outs.length:=Classical.byContradiction fun hn=>by rw [wi7 hn] at h1;cases h1
  rw [zg9 hle,Bool.and_eq_true] at h1;refine ⟨hle.2.2,hle.1,h2,fun k hk=>?_⟩
  have:=wcs h1.1 (i:=k) (by omega)
  unfold outR at this;simp only [Bool.and_eq_true,decide_eq_true_eq] at this;exact this.2.2.2
 have hmul:∀ k i,k<f.shares.length->i<(f.shares.getD k default).length->i<a.length->((f.shares.getD k default).getD i Fc.zero).sz<=100000/\(a.getD i Fc.zero).sz<=100000:=fun k i hk hi h=>⟨xgy hf hk hi,haz _ (ldM h)⟩
 have hdz:∀ k i,k<f.shares.length->i<=(f.shares.getD k default).length->i<=a.length->(dotN a (f.shares.getD k default) i).sz<=i*(2*100000+1)+1:=fun k i hk h1 h2=>wkg haz (hf.fz _ (z1y hk)) i h1 h2
 have e1:yed f a=(vkz f&&(decide (a.length=f.srcs.length)&&!a.any fun x=>!decide x.ok)):=rfl
 have e2:runF f a=bif yed f a then f.shares.map (fun l=>dotN a l l.length) else []:=rfl
 rw [e2];clear hf haz e2;generalize yed f a=R at *;generalize vkz f=q1 at *;generalize (a.any fun x=>!decide x.ok)=q2 at *
 cases R with
 | false=>
  clear hokr hmul hdz
  have e2:True->(q1&&(decide (a.length=f.srcs.length)&&!q2))=false:=fun _=>e1.symm
  clear e1;dsimp only [cond_false];refine hE [] func15 f15.eq_1 ?_
  repeat' first|refine hF ?_ ?_<;>intros|(with_reducible first|refine wdy c1 ?_|refine wdy c2 ?_)<;>refine hgS ?_
  all_goals first
   | exact ye4 _
   | (exfalso;have e1:=e2 trivial;revert e1;rw [show q1=true by assumption,show q2=false by assumption,decide_eq_true (show a.length=f.srcs.length by omega)];decide)
 | true=>
  obtain ⟨hho,hs1,has,hrow⟩:=hokr rfl;simp only [Bool.true_eq,Bool.and_eq_true,Bool.not_eq_true',decide_eq_true_eq] at e1;obtain ⟨rfl,_,rfl⟩:=e1;clear hokr;dsimp only [cond_true];refine hE [] func15 f15.eq_1 ?_
  repeat' ((with_reducible first|refine wdy c1 ?_|refine wdy c2 ?_)<;>refine hgS ?_)
  all_goals try (exfalso;omega)
  clear c1 c2;refine wf5 [1,2,7,35,36] (fun k:Nat=>[(37,.one (.dat (cI k)))]) (fun k=>[flB f,.arr (.sl 4 (z4b a f.shares k)) 0 none]) (fun k=>k<=f.shares.length) (fun k=>f.shares.length-k) 0 (Nat.zero_le _) ?_ ?_
  . refine hg ?_;rw [wn3,hho];exact sS
  intro k hk;refine hg ?_;refine y8g (fun hlt _=>?_) (fun hlt _=>?_)
  . have hk':k<f.shares.length:=by omega
    obtain ⟨A,Rr,hA,hAl,e3,e4⟩:=yax a hk';have g1:=z3h (R:=Rr) hA;have g2:=vcb (R:=Rr) hA
    have g3:∀ v,(A++v::Rr).length=f.outs.length:=fun v=>by rw [List.length_append,List.length_cons];omega
    have hl:=hrow k hk';obtain ⟨z,hz0⟩:∃ z,z=Fc.of 0:=⟨_,rfl⟩;have c0:=zh7 (Γ:=Γ) hz0
    have hz1:True->z=Fc.of 0:=fun _=>hz0
    clear hz0;rw [e3];clear e3 hrow;refine hg3 @g1 @g2 @g3 ?_
    (with_reducible refine wdy c0 ?_)<;>refine hgS ?_
    refine wf5 [1,2,7,8,9,35,36,37,46,47] (fun i:Nat=>[(48,.one (.dat (cI i)))]) (fun i=>[flB f,.arr (.sl 4 (A++(dotN a (f.shares.getD k default) i).C::Rr)) 0 none]) (fun i=>i<=(f.shares.getD k default).length) (fun i=>(f.shares.getD k default).length-i) 0 (Nat.zero_le _) ?_ ?_
    . refine hg1 @g2 ?_;have hz0:=hz1 trivial;subst hz0;exact sS
    intro i hi;refine hg3 @g1 @g2 @g3 ?_;refine y8g (fun hlt3 _=>?_) (fun hlt3 _=>?_)
    . have hi':i<(f.shares.getD k default).length:=by omega
      obtain ⟨z1,z2⟩:=hmul k i hk' hi' (by omega);have z3:=hdz k i hk' (by omega) (by omega);obtain ⟨ee1,c1⟩:=fMul (Γ:=Γ) ((f.shares.getD k default).getD i Fc.zero) (a.getD i Fc.zero) (by omega) (by omega);have z4:=Fc.wly ((f.shares.getD k default).getD i Fc.zero) (a.getD i Fc.zero);obtain ⟨ee2,c2⟩:=fAdd (Γ:=Γ) (dotN a (f.shares.getD k default) i) (Fc.mul ((f.shares.getD k default).getD i Fc.zero) (a.getD i Fc.zero)) (by omega) (by omega);rw [<-xae] at c2;clear hmul hdz c0 e4;refine hg3 @g1 @g2 @g3 ?_
      repeat' first|refine hI ?_|(with_reducible first|refine y04 c1 ?_|refine y04 c2 ?_)<;>refine hgS ?_
      refine ⟨i+1,by omega,by omega,?_⟩;refine StH.cutN [1,2,7,8,9,35,36,37,46,47,48] 2 rfl ?_ ?_
      . refine hg ?_
        first | exact trivial | rfl
      exact sS
    . have ei:i=(f.shares.getD k default).length:=by omega
      rw [e4 _ (by rw [ei];rfl)];refine hg ?_;exact ⟨k+1,by omega,by omega,sS⟩
  rw [yxv _ _ (by omega)];clear hmul hdz hrow;refine hg ?_;exact RLe.ofEq (by rw [hho,beq_self_eq_true])
def envF (m:Mf):List (Value×SV):=envM (fun l=>.one (.dat (frsC l))) m
theorem yxu {m:Mf} {p:ByteArray}:y6f (envF m) (.string p)=some ((v7b m p).map fun l=>.one (.dat (.sl 4 (l.map Fc.C)))):=xz2
theorem xe1 {m:Mf} {p:ByteArray}:updM (envF m) (.string p) (.one (.dat (.sl 4 (l.map Fc.C))))=some (envF (updF m p l)):=v9l (C:=fun l:List Fc=>.one (.dat (frsC l))) (l:=m) (s:=p) (v:=l)
theorem vnt {r:Nat->Nat} {m:Mf}:rnSB r (.map (envF m))=.map (envF m):=wyn (fun _ _=>rfl) r m
theorem xlw {j:Nat} {m:Mf}:swSB i j (.map (envF m))=.map (envF m):=w7l (fun _ _ _=>rfl) i j m
theorem wh4 (m:Mf):ze4 (.map (envF m))=[]:=x5t (fun _=>rfl) m
attribute [go_sem] yxu xe1 wh4
attribute [go_sem 20000] vnt xlw
abbrev mF (m:Mf):SB:=.map (envF m)
abbrev wkB (s:Sht) (cs:List Sc) (b1 b2 b3 b4 n1 n2 n3:Nat):SB:=.box [.dat (cS s.name),.dat (.sl 6 (s.imports.map Imp.C)),.dat (.sl 3 (s.inputs.map Inp.C)),.dat (.sl 3 (s.tables.map Tb.C)),.dat (.sl 7 (s.funcs.map Fnc.C)),.dat (.sl 7 (s.cells.map Cel.C)),.dat (.sl 3 (s.ports.map Por.C)),.dat (.sl 3 (s.stores.map Sto.C)),.dat (.sl 2 (s.recipes.map Rcp.C)),.dat (.sl 8 (cs.map Sc.C)),.mp b1,.sl b2 3 0 n1,.sl b3 4 0 n2,.sl b4 1 0 n3] (some 94)
abbrev aSr (l:List Src):SB:=.arr (.sl 3 (l.map Src.C)) 0 (some 60)
abbrev aOt (l:List Ot):SB:=.arr (.sl 4 (l.map Ot.C)) 0 (some 62)
abbrev aSh (l:List (List Fc)):SB:=.arr (.sl 1 (l.map fun r=>[frsC r])) 0 (some 33)
abbrev wkBs (s:Sht) (cs:List Sc) (w:Wk):List SB:=[wkB s cs 1 2 3 4 w.srcs.length w.outs.length w.shares.length,mF w.m,aSr w.srcs,aOt w.outs,aSh w.shares]
theorem wzv (s:Sht) (cs:List Sc) (w:Wk) (r:Nat->Nat) (hr:∀ i,i<5->r i=i):(wkBs s cs w).map (rnSB r)=wkBs s cs w:=by
 show [SB.box [_,_,_,_,_,_,_,_,_,_,HC.mp (r 1),HC.sl (r 2) 3 0 _,HC.sl (r 3) 4 0 _,HC.sl (r 4) 1 0 _] _,rnSB r (mF w.m),rnSB r (aSr w.srcs),rnSB r (aOt w.outs),rnSB r (aSh w.shares)]=_;rw [hr 1 (by decide),hr 2 (by decide),hr 3 (by decide),hr 4 (by decide),vnt];rfl
structure SzM (m:Mf):Prop where
 len:∀ p l,v7b m p=some l->l.length<=1000
 sz:∀ p l,v7b m p=some l->∀ x∈l,x.sz<=100000
theorem y8s {m:Mf} (h:SzM m) (p:ByteArray) (i:Nat):(wrt m p i).sz<=100000:=by
 unfold wrt;have h0:=zyp
 cases hl:v7b m p with
 | none=>simp;omega
 | some l=>
  rw [Option.getD_some];by_cases hi:i<l.length
  . rw [ldE hi];exact h.sz p l hl _ (List.getElem_mem _)
  . rw [ldN (by omega)];omega
theorem yic (s:Sht) (cs:List Sc) (w:Wk) (hw:SzM w.m) (p:ByteArray) (i:Nat):xbh Γ prog 125 (wkBs s cs w) [.one (.ptr 0 0),.one (.dat (cS p)),.one (.dat (cI i))] (wkBs s cs w) (.agg ((wrt w.m p i).C.map .dat)):=by
 have hl1:=hw.len p;unfold wrt;clear hw;obtain ⟨z,hz0⟩:∃ z,z=Fc.of 0:=⟨_,rfl⟩;have c0:=zh7 (Γ:=Γ) hz0
 have hz9:True->z=Fc.of 0:=fun _=>hz0
 rw [<-hz0];clear hz0 hz9
 cases hl:v7b w.m p with
 | none=>
  clear hl1;refine hEh [] func125 f125.eq_1 ?_;refine hg1 @hl ?_
  repeat' first|refine hF ?_ ?_<;>intros|(with_reducible refine wdy c0 ?_)<;>refine hgS ?_
  all_goals first
   | (exfalso;omega)
   | exact StH.y4a rfl (by kernel_rfl) rfl
 | some l=>
  have hl2:=hl1 l hl;clear hl1;rw [Option.getD_some];by_cases hi:i<l.length
  . have e:l.getD i z=l.getD i Fc.zero:=by rw [ldE hi,ldE hi]
    rw [e];refine hEh [] func125 f125.eq_1 ?_;refine hg1 @hl ?_
    repeat' first|refine hF ?_ ?_<;>intros|(with_reducible refine wdy c0 ?_)<;>refine hgS ?_
    all_goals first
     | (exfalso;omega)
     | exact StH.y4a rfl (by kernel_rfl) rfl
  . have e:l.getD i z=z:=ldN (by omega);rw [e];refine hEh [] func125 f125.eq_1 ?_;refine hg1 @hl ?_
    repeat' first|refine hF ?_ ?_<;>intros|(with_reducible refine wdy c0 ?_)<;>refine hgS ?_
    all_goals first
     | (exfalso;omega)
     | exact StH.y4a rfl (by kernel_rfl) rfl
theorem zg3 {m:Mf} {l:List ByteArray}:zkw m (l.take 0) i=Fc.of 0:=rfl
theorem vvg {m:Mf} {l:List ByteArray} (h:k<l.length):zkw m (l.take (k+1)) i=Fc.add (zkw m (l.take k) i) (wrt m (l.getD k default) i):=by
 unfold zkw;rw [vys h,List.foldl_append];rfl
theorem x5s {m:Mf} (h:SzM m) {l:List ByteArray} {i:Nat}:∀ k,k<=l.length->(zkw m (l.take k) i).sz<=k*100001+1
 | 0,_=>by rw [zg3];have:=zyp;omega
 | k+1,hk=>by
  rw [vvg (by omega)];have h1:=x5s h (l:=l) (i:=i) k (by omega);have h2:=y8s h (l.getD k default) i;have h3:=Fc.zgp (zkw m (l.take k) i) (wrt m (l.getD k default) i);omega
def x2q (g:Nat->Fc) (n k:Nat):List (List Cell):=(List.range k).map (fun i=>(g i).C)++List.replicate (n-k) zrC
theorem vak (g:Nat->Fc) (n:Nat):x2q g n 0=List.replicate n zrC:=rfl
theorem vqd (g:Nat->Fc) {n:Nat} (h:k=n):x2q g n k=((List.range n).map g).map Fc.C:=by
 subst h;unfold x2q;rw [Nat.sub_self,List.map_map];simp
theorem yya (g:Nat->Fc) {n:Nat} (h:k<n):∃ A R,A.length=k/\A.length+R.length+1=n/\x2q g n k=A++zrC::R/\∀ v,v=(g k).C->A++v::R=x2q g n (k+1):=by
 refine ⟨(List.range k).map (fun i=>(g i).C),List.replicate (n-(k+1)) zrC,by simp,by simp;omega,?_,fun v hv=>?_⟩
 . unfold x2q;rw [show n-k=(n-(k+1))+1 by omega,List.replicate_succ]
 . unfold x2q;rw [List.range_succ,List.map_append,hv,List.append_assoc];rfl
theorem vt4 {η:List SB} {b n:Nat} {T:Option TypeId} (hb:gB η b=.arr (.sl 4 (l.map Fc.C)) 0 T) (hn:n=l.length):y7w η [.one (.sl b 4 0 n)]=some ([.one (frsC l)],[b]):=by
 subst hn;simp [y7w,argD,xf6,hb,Cell.esz,Cell.cnt,subC]
theorem zzl (s:Sht) (cs:List Sc) (w:Wk) (hw:SzM w.m) (hn:w.srcs.length<=200) (l:List ByteArray) (hl:l.length<=200) (b:Fc) (hb:b.sz<=100000) :
 xbh Γ prog 73 (wkBs s cs w) [.one (.ptr 0 0),.one (.dat (zjy l)),.agg (b.C.map .dat)] (wkBs s cs w) (.one (.dat (frsC (mixF w.m w.srcs.length l b)))):=by
 have hp:=fun p i=>yic (Γ:=Γ) s cs w hw p i
 have hz:=fun k i hk=>x5s hw (l:=l) (i:=i) k hk
 have hz1:=fun p i=>y8s hw p i
 obtain ⟨z,hz0⟩:∃ z,z=Fc.of 0:=⟨_,rfl⟩;have c0:=zh7 (Γ:=Γ) hz0
 have hz9:True->z=Fc.of 0:=fun _=>hz0
 clear hz0;unfold mixF;clear hw;refine hEh [] func73 f73.eq_1 ?_;refine wf5 [0,1,5,7,18,19] (fun k:Nat=>[(20,.one (.dat (cI k)))]) (fun k=>wkBs s cs w++[.box (b.C.map .dat) (some 51),.arr (.sl 4 (x2q (fun i=>Fc.mul (zkw w.m l i) b) w.srcs.length k)) 0 none]) (fun k=>k<=w.srcs.length) (fun k=>w.srcs.length-k) 0 (Nat.zero_le _) ?_ ?_
 . refine hg ?_;rw [vak];exact sS
 intro k hk;refine hg ?_;refine y8g (fun hlt _=>?_) (fun hlt _=>?_)
 . have hk':k<w.srcs.length:=by omega
   obtain ⟨A,Rr,hA,hAl,e3,e4⟩:=yya (fun i=>Fc.mul (zkw w.m l i) b) hk';have g1:=z3h (R:=Rr) hA;have g2:=vcb (R:=Rr) hA
   have g3:∀ v,(A++v::Rr).length=w.srcs.length:=fun v=>by rw [List.length_append,List.length_cons];omega
   rw [e3];clear e3;refine hg3 @g1 @g2 @g3 ?_
   (with_reducible refine wdy c0 ?_)<;>refine hgS ?_
   refine wf5 [0,1,5,7,8,18,19,20,27,28] (fun i:Nat=>[(29,.one (.dat (cI i)))]) (fun i=>wkBs s cs w++[.box (b.C.map .dat) (some 51),.arr (.sl 4 (A++(zkw w.m (l.take i) k).C::Rr)) 0 none]) (fun i=>i<=l.length) (fun i=>l.length-i) 0 (Nat.zero_le _) ?_ ?_
   . refine hg1 @g2 ?_;have hz0:=hz9 trivial;subst hz0;exact sS
   intro i hi;refine hg3 @g1 @g2 @g3 ?_;refine y8g (fun hlt3 _=>?_) (fun hlt3 _=>?_)
   . have hi':i<l.length:=by omega
     have z1:=hz1 (l.getD i default) k;have z3:=hz i k (by omega);have c1:=hp (l.getD i default) k;obtain ⟨ee2,c2⟩:=fAdd (Γ:=Γ) (zkw w.m (l.take i) k) (wrt w.m (l.getD i default) k) (by omega) (by omega);rw [<-vvg hi'] at c2;clear hp hz hz1 c0 e4;refine hg3 @g1 @g2 @g3 ?_;refine z5f 5 (fun ξ=>xbh.preN c1 (wzv s cs w) rfl rfl) rfl rfl ?_;refine hg3 @g1 @g2 @g3 ?_
     repeat' first|refine hI ?_|(with_reducible refine y04 c2 ?_)<;>refine hgS ?_
     exact ⟨i+1,by omega,by omega,sS⟩
   . have ei:l.take i=l:=List.take_of_length_le (by omega);have z3:=hz l.length k (Nat.le_refl _);rw [List.take_length] at z3;rw [ei];obtain ⟨ee2,c2⟩:=fMul (Γ:=Γ) (zkw w.m l k) b (by omega) (by omega);clear hp hz hz1 c0;refine hg3 @g1 @g2 @g3 ?_
     repeat' first|refine hI ?_|(with_reducible refine y04 c2 ?_)<;>refine hgS ?_
     refine ⟨k+1,by omega,by omega,?_⟩;refine hg1 @g2 ?_;rw [<-e4 _ rfl];exact sS
 rw [vqd _ (by omega)];clear hp hz hz1;refine hg ?_;exact StH.xw7 (bs:=[6]) (vt4 rfl (by simp)) rfl (fun l h=>by cases h) (fun l h=>by cases h) rfl rfl rfl
end Go.Hp.T
