/- The proof, part Q31: Sa, Sb, Nb, Ih. -/
import Derived.Test.YtmegdbbbllffkaaGreatQ30
import Derived.Test.YtmegdbbbllffkaaGreatQ25
namespace Go.Slot.T
open Go Go.RowKit Go.Slot
open Go.Proofs.Tryz (prog)
set_option maxRecDepth 10000
set_option maxHeartbeats 4000000
theorem vwa (f:Fc) (h:f.sz<=268435456) (hb:f.ok):yn2 prog 44 [.agg f.C] (.one (.raw (.bool true))):=by
 have:=wuf f h
 rwa [decide_eq_true hb] at this
theorem yi0 (l:List Fc) (h0:0<l.length) (hl:l.length<=1048576) (hs:∀ f∈l,f.sz<=67108864) :
 yn2 prog 232 [.one (.sl 4 (l.map Fc.C)),.one (.raw (.func (.func 43) #[] #[]))] (.agg (Sc.least (l.getD 0 Fc.zero) (l.drop 1)).C):=by
 have hmem:∀ i,i<l.length->(l.getD i Fc.zero).sz<=67108864:=fun i hi=>hs _ (by simp [hi])
 refine yn2.run [] Go.Proofs.Tryz.func232 rfl rfl ?_;simp only [Go.Proofs.Tryz.f232];refine rgR ?_;refine z08 (fun h=>absurd h (by omega)) (fun _=>?_);refine rg ?_;refine vxs [0,1] (fun x:Nat×Fc=>[(5,.box x.2.C),(6,.one (.raw (.int .i64 x.1)))]) (fun x=>x.1<=l.length/\1<=x.1/\x.2.sz<=67108864/\Sc.least (l.getD 0 Fc.zero) (l.drop 1)=Sc.least x.2 (l.drop x.1)) (fun x=>l.length-x.1) (1,l.getD 0 Fc.zero) ⟨h0,Nat.le_refl _,hmem 0 h0,rfl⟩ ?_ ?_
 . refine rg ?_;exact StLe.weaken (by repeat' first | exact .nil | refine .cons (by first | exact .refl _ | exact .any _) ?_) rfl
 rintro ⟨i,m⟩ ⟨hi,hi1,hm,he⟩;simp only at hi hi1 hm he;refine rg ?_;refine z08 (fun h=>?_) (fun h=>?_)
 . rw [drop_cons Fc.zero (show i<l.length by omega)] at he;refine rg ?_;refine v1h (zrw (l.getD i Fc.zero) m (hmem i (by omega)) hm) ?_;refine rg ?_;refine indk (by kernel_rfl) ?_;refine rg ?_;refine z08 (fun h1=>?_) (fun h1=>?_)
   . refine rg ?_;refine ⟨(i+1,l.getD i Fc.zero),⟨by dsimp only;omega,by dsimp only;omega,hmem i (by omega),?_⟩,by dsimp only;omega,StLe.weaken (by repeat' first | exact .nil | refine .cons (by first | exact .refl _ | exact .any _) ?_) rfl⟩
     rw [he];conv=>lhs;unfold Sc.least
     rw [if_pos h1]
   . refine rg ?_;refine ⟨(i+1,m),⟨by dsimp only;omega,by dsimp only;omega,hm,?_⟩,by dsimp only;omega,StLe.weaken (by repeat' first | exact .nil | refine .cons (by first | exact .refl _ | exact .any _) ?_) rfl⟩
     rw [he];conv=>lhs;unfold Sc.least
     rw [if_neg h1]
 . have hi':i=l.length:=by omega
   rw [hi',List.drop_length] at he;refine rg ?_;exact ⟨_,rfl,by rw [he];exact .one (.refl _)⟩
theorem yvp (l:List Fc) (h0:0<l.length) (hl:l.length<=1048576) (hs:∀ f∈l,f.sz<=67108864) :
 yn2 prog 233 [.one (.sl 4 (l.map Fc.C)),.one (.raw (.func (.func 43) #[] #[]))] (.agg (Sc.vdz (l.getD 0 Fc.zero) (l.drop 1)).C):=by
 have hmem:∀ i,i<l.length->(l.getD i Fc.zero).sz<=67108864:=fun i hi=>hs _ (by simp [hi])
 refine yn2.run [] Go.Proofs.Tryz.func233 rfl rfl ?_;simp only [Go.Proofs.Tryz.f233];refine rgR ?_;refine z08 (fun h=>absurd h (by omega)) (fun _=>?_);refine rg ?_;refine vxs [0,1] (fun x:Nat×Fc=>[(5,.box x.2.C),(6,.one (.raw (.int .i64 x.1)))]) (fun x=>x.1<=l.length/\1<=x.1/\x.2.sz<=67108864/\Sc.vdz (l.getD 0 Fc.zero) (l.drop 1)=Sc.vdz x.2 (l.drop x.1)) (fun x=>l.length-x.1) (1,l.getD 0 Fc.zero) ⟨h0,Nat.le_refl _,hmem 0 h0,rfl⟩ ?_ ?_
 . refine rg ?_;exact StLe.weaken (by repeat' first | exact .nil | refine .cons (by first | exact .refl _ | exact .any _) ?_) rfl
 rintro ⟨i,m⟩ ⟨hi,hi1,hm,he⟩;simp only at hi hi1 hm he;refine rg ?_;refine z08 (fun h=>?_) (fun h=>?_)
 . rw [drop_cons Fc.zero (show i<l.length by omega)] at he;refine rg ?_;refine v1h (zrw (l.getD i Fc.zero) m (hmem i (by omega)) hm) ?_;refine rg ?_;refine indk (by kernel_rfl) ?_;refine rg ?_;refine z08 (fun h1=>?_) (fun h1=>?_)
   . refine rg ?_;refine ⟨(i+1,l.getD i Fc.zero),⟨by dsimp only;omega,by dsimp only;omega,hmem i (by omega),?_⟩,by dsimp only;omega,StLe.weaken (by repeat' first | exact .nil | refine .cons (by first | exact .refl _ | exact .any _) ?_) rfl⟩
     rw [he];conv=>lhs;unfold Sc.vdz
     rw [if_pos h1]
   . refine rg ?_;refine ⟨(i+1,m),⟨by dsimp only;omega,by dsimp only;omega,hm,?_⟩,by dsimp only;omega,StLe.weaken (by repeat' first | exact .nil | refine .cons (by first | exact .refl _ | exact .any _) ?_) rfl⟩
     rw [he];conv=>lhs;unfold Sc.vdz
     rw [if_neg h1]
 . have hi':i=l.length:=by omega
   rw [hi',List.drop_length] at he;refine rg ?_;exact ⟨_,rfl,by rw [he];exact .one (.refl _)⟩
theorem wu9:AV.Le (.agg [.raw (.int .i64 0),.zc,.raw (.int .i64 0),.zc,.raw (.int .i64 0),.zc,.raw (.int .i64 0),.zc]) (.agg Sc.zero.C):=
 .agg (.cons (.refl _) (.cons (.ysc _) (.cons (.refl _) (.cons (.ysc _) (.cons (.refl _) (.cons (.ysc _) (.cons (.refl _) (.cons (.ysc _) .nil))))))))
theorem y65 (s:Sc) (h:s.sz<=67108864):yn2 prog 18 [.agg s.C] (.one (.raw (.bool (decide s.ok)))):=by
 have ⟨hl,hh⟩:=Sc.zp5 h;by_cases h1:s.low.ok
 . by_cases h2:s.high.ok
   . rw [show decide s.ok=decide (Fc.cmp s.low s.high<=0) from decide_eq_decide.2 ⟨fun h=>h.2.2,fun h=>⟨h1,h2,h⟩⟩];refine yn2.run [] Go.Proofs.Tryz.func18 rfl rfl ?_;simp only [Go.Proofs.Tryz.f18];refine rgR ?_;refine v1h (vwa s.low (by omega) h1) ?_;refine rg ?_;refine v1h (vwa s.high (by omega) h2) ?_;refine rg ?_;refine v1h (zrw s.low s.high hl hh) ?_;refine rg ?_;exact ⟨_,rfl,.one (.refl _)⟩
   . rw [decide_eq_false (fun h=>h2 h.2.1)];refine yn2.run [] Go.Proofs.Tryz.func18 rfl rfl ?_;simp only [Go.Proofs.Tryz.f18];refine rgR ?_;refine v1h (vwa s.low (by omega) h1) ?_;refine rg ?_;refine v1h (yx8 s.high (by omega) h2) ?_;refine rg ?_;exact ⟨_,rfl,.one (.refl _)⟩
 . rw [decide_eq_false (fun h=>h1 h.1)];refine yn2.run [] Go.Proofs.Tryz.func18 rfl rfl ?_;simp only [Go.Proofs.Tryz.f18];refine rgR ?_;refine v1h (yx8 s.low (by omega) h1) ?_;refine rg ?_;exact ⟨_,rfl,.one (.refl _)⟩
theorem zs2 (s:Sc) (h:s.sz<=67108864) (hb:s.ok):yn2 prog 18 [.agg s.C] (.one (.raw (.bool true))):=by
 have:=y65 s h
 rwa [decide_eq_true hb] at this
theorem y28 (s:Sc) (h:s.sz<=67108864) (hb:¬s.ok):yn2 prog 18 [.agg s.C] (.one (.raw (.bool false))):=by
 have:=y65 s h
 rwa [decide_eq_false hb] at this
theorem vjc (s:Sc) (f:Fc) (h:s.sz<=67108864) (hf:f.sz<=67108864):yn2 prog 21 [.agg s.C,.agg f.C] (.one (.raw (.bool (decide (s.has f))))):=by
 have ⟨hl,hh⟩:=Sc.zp5 h;obtain ⟨r,hr⟩:∃ r,r=decide (s.has f):=⟨_,rfl⟩;rw [<-hr]
 have bad:¬s.has f->r=false:=fun h=>by rw [hr,decide_eq_false h]
 by_cases h1:s.ok
 . by_cases h2:f.ok
   . have hc1:=zrw s.low f hl hf;have hc2:=zrw f s.high hf hh;refine yn2.run [] Go.Proofs.Tryz.func21 rfl rfl ?_;simp only [Go.Proofs.Tryz.f21];refine rgR ?_;refine v1h (zs2 s h h1) ?_;refine rg ?_;refine v1h (vwa f (by omega) h2) ?_;refine rg ?_;refine v1h hc1 ?_;refine rg ?_;refine z4u (fun h3=>?_) (fun h3=>?_)
     . have h3':=decide_eq_true h3;refine rg1 @h3' ?_;refine v1h hc2 ?_;refine rg ?_
       have e:decide (Fc.cmp f s.high<=0)=r:=by rw [hr];exact decide_eq_decide.2 ⟨fun h=>⟨h1,h2,h3,h⟩,fun h=>h.2.2.2⟩
       exact ⟨_,rfl,by rw [e];exact .one (.refl _)⟩
     . have h3':=decide_eq_false h3;refine rg1 @h3' ?_;exact ⟨_,rfl,by rw [bad (fun h=>h3 h.2.2.1)];exact .one (.refl _)⟩
   . rw [bad (fun h=>h2 h.2.1)];refine yn2.run [] Go.Proofs.Tryz.func21 rfl rfl ?_;simp only [Go.Proofs.Tryz.f21];refine rgR ?_;refine v1h (zs2 s h h1) ?_;refine rg ?_;refine v1h (yx8 f (by omega) h2) ?_;refine rg ?_;exact ⟨_,rfl,.one (.refl _)⟩
 . rw [bad (fun h=>h1 h.1)];refine yn2.run [] Go.Proofs.Tryz.func21 rfl rfl ?_;simp only [Go.Proofs.Tryz.f21];refine rgR ?_;refine v1h (y28 s h h1) ?_;refine rg ?_;exact ⟨_,rfl,.one (.refl _)⟩
theorem vbs (a b:Sc) (ha:a.sz<=67108864) (hb:b.sz<=67108864):yn2 prog 17 [.agg a.C,.agg b.C] (.one (.raw (.bool (decide (a.inside b))))):=by
 have ⟨hal,hah⟩:=Sc.zp5 ha;have ⟨hbl,hbh⟩:=Sc.zp5 hb;obtain ⟨r,hr⟩:∃ r,r=decide (a.inside b):=⟨_,rfl⟩;rw [<-hr]
 have bad:¬a.inside b->r=false:=fun h=>by rw [hr,decide_eq_false h]
 by_cases h1:a.ok
 . by_cases h2:b.ok
   . have hc1:=zrw b.low a.low hbl hal;have hc2:=zrw a.high b.high hah hbh;refine yn2.run [] Go.Proofs.Tryz.func17 rfl rfl ?_;simp only [Go.Proofs.Tryz.f17];refine rgR ?_;refine v1h (zs2 a ha h1) ?_;refine rg ?_;refine v1h (zs2 b hb h2) ?_;refine rg ?_;refine v1h hc1 ?_;refine rg ?_;refine z4u (fun h3=>?_) (fun h3=>?_)
     . have h3':=decide_eq_true h3;refine rg1 @h3' ?_;refine v1h hc2 ?_;refine rg ?_
       have e:decide (Fc.cmp a.high b.high<=0)=r:=by rw [hr];exact decide_eq_decide.2 ⟨fun h=>⟨h1,h2,h3,h⟩,fun h=>h.2.2.2⟩
       exact ⟨_,rfl,by rw [e];exact .one (.refl _)⟩
     . have h3':=decide_eq_false h3;refine rg1 @h3' ?_;exact ⟨_,rfl,by rw [bad (fun h=>h3 h.2.2.1)];exact .one (.refl _)⟩
   . rw [bad (fun h=>h2 h.2.1)];refine yn2.run [] Go.Proofs.Tryz.func17 rfl rfl ?_;simp only [Go.Proofs.Tryz.f17];refine rgR ?_;refine v1h (zs2 a ha h1) ?_;refine rg ?_;refine v1h (y28 b hb h2) ?_;refine rg ?_;exact ⟨_,rfl,.one (.refl _)⟩
 . rw [bad (fun h=>h1 h.1)];refine yn2.run [] Go.Proofs.Tryz.func17 rfl rfl ?_;simp only [Go.Proofs.Tryz.f17];refine rgR ?_;refine v1h (y28 a ha h1) ?_;refine rg ?_;exact ⟨_,rfl,.one (.refl _)⟩
theorem vs2 (f:Fc) (h:f.sz<=67108864):yn2 prog 52 [.agg f.C] (.agg f.C):=by
 have ⟨h1,h2⟩:=szL h;refine yn2.run [] Go.Proofs.Tryz.func52 rfl rfl ?_;simp only [Go.Proofs.Tryz.f52];refine rgR ?_;refine v1h (yud f.L (by omega)) ?_;refine rg ?_;refine v1h (yud f.M (by omega)) ?_;refine rg ?_;refine indk (by kernel_rfl) ?_;refine rg ?_;exact ⟨_,rfl,.one (.refl _)⟩
theorem zx7 (f:Fc) (h:f.sz<=67108864):yn2 prog 23 [.agg f.C] (.agg (Sc.vc6 f).C):=by
 by_cases h1:f.ok
 . rw [show Sc.vc6 f=⟨f,f⟩ from if_pos h1];refine yn2.run [] Go.Proofs.Tryz.func23 rfl rfl ?_;simp only [Go.Proofs.Tryz.f23];refine rgR ?_;refine v1h (vwa f (by omega) h1) ?_;refine rg ?_;refine v1h (vs2 f h) ?_;refine rg ?_;refine v1h (vs2 f h) ?_;refine rg ?_;refine indk (by kernel_rfl) ?_;refine rg ?_;exact ⟨_,rfl,.one (.refl _)⟩
 . rw [show Sc.vc6 f=Sc.zero from if_neg h1];refine yn2.run [] Go.Proofs.Tryz.func23 rfl rfl ?_;simp only [Go.Proofs.Tryz.f23];refine rgR ?_;refine v1h (yx8 f (by omega) h1) ?_;refine rg ?_;exact ⟨_,rfl,.one wu9⟩
theorem xqt (a b:Sc) (ha:a.sz<=67108864) (hb:b.sz<=67108864):yn2 prog 149 [.agg a.C,.agg b.C] (.tup [.agg (Sc.add a b).C,.one (.raw (.int .i64 (Fc.er (a.ok/\b.ok))))]):=by
 have ⟨hal,hah⟩:=Sc.zp5 ha;have ⟨hbl,hbh⟩:=Sc.zp5 hb;by_cases h1:a.ok
 . by_cases h2:b.ok
   . rw [Fc.v2c ⟨h1,h2⟩,show Sc.add a b=⟨Fc.add a.low b.low,Fc.add a.high b.high⟩ from if_pos ⟨h1,h2⟩];refine yn2.run [] Go.Proofs.Tryz.func149 rfl rfl ?_;simp only [Go.Proofs.Tryz.f149];refine rgR ?_;refine v1h (zs2 a ha h1) ?_;refine rg ?_;refine v1h (zs2 b hb h2) ?_;refine rg ?_;refine v1h (wnb a.low b.low hal hbl) ?_;refine rg ?_;refine v1h (wnb a.high b.high hah hbh) ?_;refine rg ?_;exact ⟨_,rfl,.tup (.cons (.refl _) (.cons (.refl _) .nil))⟩
   . rw [Fc.zab (fun h=>h2 h.2),show Sc.add a b=Sc.zero from if_neg (fun h=>h2 h.2)];refine yn2.run [] Go.Proofs.Tryz.func149 rfl rfl ?_;simp only [Go.Proofs.Tryz.f149];refine rgR ?_;refine v1h (zs2 a ha h1) ?_;refine rg ?_;refine v1h (y28 b hb h2) ?_;refine rg ?_;exact ⟨_,rfl,.tup (.cons wu9 (.cons (.refl _) .nil))⟩
 . rw [Fc.zab (fun h=>h1 h.1),show Sc.add a b=Sc.zero from if_neg (fun h=>h1 h.1)];refine yn2.run [] Go.Proofs.Tryz.func149 rfl rfl ?_;simp only [Go.Proofs.Tryz.f149];refine rgR ?_;refine v1h (y28 a ha h1) ?_;refine rg ?_;exact ⟨_,rfl,.tup (.cons wu9 (.cons (.refl _) .nil))⟩
theorem wah (a b:Fc) (ha:a.sz<=67108864) (hb:b.sz<=67108864):yn2 prog 195 [.agg a.C,.agg b.C] (.agg (Fc.mul a b).C):=by
 refine yn2.run [] Go.Proofs.Tryz.func195 rfl rfl ?_;simp only [Go.Proofs.Tryz.f195];refine rgR ?_;refine v1h (xxk a b ha hb) ?_;refine rg ?_;exact ⟨_,rfl,.one (.refl _)⟩
theorem vej:∀(l:List Fc) (m:Fc),Sc.least m l∈m::l
 | [],m=>by simp [Sc.least]
 | x::r,m=>by
  have h0:=vej r (if Fc.cmp x m<0 then x else m);show Sc.least (if Fc.cmp x m<0 then x else m) r∈_;by_cases hc:Fc.cmp x m<0
  . rw [if_pos hc] at h0 ⊢;exact List.mem_cons_of_mem _ h0
  . rw [if_neg hc] at h0 ⊢
    rcases List.mem_cons.1 h0 with h | h
    . rw [h];exact List.mem_cons_self
    . exact List.mem_cons_of_mem _ (List.mem_cons_of_mem _ h)
theorem zgd:∀(l:List Fc) (m:Fc),Sc.vdz m l∈m::l
 | [],m=>by simp [Sc.vdz]
 | x::r,m=>by
  have h0:=zgd r (if Fc.cmp x m > 0 then x else m);show Sc.vdz (if Fc.cmp x m > 0 then x else m) r∈_;by_cases hc:Fc.cmp x m > 0
  . rw [if_pos hc] at h0 ⊢;exact List.mem_cons_of_mem _ h0
  . rw [if_neg hc] at h0 ⊢
    rcases List.mem_cons.1 h0 with h | h
    . rw [h];exact List.mem_cons_self
    . exact List.mem_cons_of_mem _ (List.mem_cons_of_mem _ h)
theorem y4y {l:List Fc} {n:Nat} (h0:0<l.length) (hs:∀ f∈l,f.sz<=n):(Sc.y7f l).low.sz<=n/\(Sc.y7f l).high.sz<=n:=by
 have e:l=l.getD 0 Fc.zero::l.drop 1:=drop_cons (i:=0) Fc.zero h0;refine ⟨hs _ ?_,hs _ ?_⟩
 . rw [e];exact vej _ _
 . rw [e];exact zgd _ _
theorem y82 (l:List Fc) (h0:0<l.length) (hl:l.length<=1048576) (hs:∀ f∈l,f.sz<=67108864):yn2 prog 194 [.one (.sl 4 (l.map Fc.C))] (.agg (Sc.y7f l).C):=by
 have ⟨h1,h2⟩:=y4y h0 hs;refine yn2.run [] Go.Proofs.Tryz.func194 rfl rfl ?_;simp only [Go.Proofs.Tryz.f194];refine rgR ?_;refine v1h (yi0 l h0 hl hs) ?_;refine rg ?_;refine v1h (vs2 (Sc.y7f l).low h1) ?_;refine rg ?_;refine v1h (yvp l h0 hl hs) ?_;refine rg ?_;refine v1h (vs2 (Sc.y7f l).high h2) ?_;refine rg ?_;exact ⟨_,rfl,.one (.refl _)⟩
theorem wev (a b:Sc) (ha:a.sz<=33554432) (hb:b.sz<=33554432):yn2 prog 151 [.agg a.C,.agg b.C] (.tup [.agg (Sc.mul a b).C,.one (.raw (.int .i64 (Fc.er (a.ok/\b.ok))))]):=by
 have ⟨hal,hah⟩:=Sc.zp5 ha;have ⟨hbl,hbh⟩:=Sc.zp5 hb;by_cases h1:a.ok
 . by_cases h2:b.ok
   . rw [Fc.v2c ⟨h1,h2⟩,show Sc.mul a b=Sc.y7f [Fc.mul a.low b.low,Fc.mul a.low b.high,Fc.mul a.high b.low,Fc.mul a.high b.high] from if_pos ⟨h1,h2⟩];have s1:=Fc.xgg a.low b.low;have s2:=Fc.xgg a.low b.high;have s3:=Fc.xgg a.high b.low;have s4:=Fc.xgg a.high b.high
     have hA:=y82 [Fc.mul a.low b.low,Fc.mul a.low b.high,Fc.mul a.high b.low,Fc.mul a.high b.high] (by simp) (by simp) (fun f hf=>by
      simp only [List.mem_cons,List.not_mem_nil,or_false] at hf
      rcases hf with rfl | rfl | rfl | rfl<;>omega)
     refine yn2.run [] Go.Proofs.Tryz.func151 rfl rfl ?_;simp only [Go.Proofs.Tryz.f151];refine rgR ?_;refine v1h (zs2 a (by omega) h1) ?_;refine rg ?_;refine v1h (zs2 b (by omega) h2) ?_;refine rg ?_;refine v1h (wah a.low b.low (by omega) (by omega)) ?_;refine rg ?_;refine v1h (wah a.low b.high (by omega) (by omega)) ?_;refine rg ?_;refine v1h (wah a.high b.low (by omega) (by omega)) ?_;refine rg ?_;refine v1h (wah a.high b.high (by omega) (by omega)) ?_;refine rg ?_;refine v1h hA ?_;refine rg ?_;refine indk (by kernel_rfl) ?_;refine rg ?_;exact ⟨_,rfl,.tup (.cons (.refl _) (.cons (.refl _) .nil))⟩
   . rw [Fc.zab (fun h=>h2 h.2),show Sc.mul a b=Sc.zero from if_neg (fun h=>h2 h.2)];refine yn2.run [] Go.Proofs.Tryz.func151 rfl rfl ?_;simp only [Go.Proofs.Tryz.f151];refine rgR ?_;refine v1h (zs2 a (by omega) h1) ?_;refine rg ?_;refine v1h (y28 b (by omega) h2) ?_;refine rg ?_;exact ⟨_,rfl,.tup (.cons wu9 (.cons (.refl _) .nil))⟩
 . rw [Fc.zab (fun h=>h1 h.1),show Sc.mul a b=Sc.zero from if_neg (fun h=>h1 h.1)];refine yn2.run [] Go.Proofs.Tryz.func151 rfl rfl ?_;simp only [Go.Proofs.Tryz.f151];refine rgR ?_;refine v1h (y28 a (by omega) h1) ?_;refine rg ?_;exact ⟨_,rfl,.tup (.cons wu9 (.cons (.refl _) .nil))⟩
end Go.Slot.T
namespace Go.Hp.T
open Go Go.RowKit Go.Slot Go.Hp Go.Slot.T
open Go.Proofs.Tryz (prog)
set_option maxRecDepth 10000
set_option maxHeartbeats 4000000
variable {Γ:List (Nat×List Cell)}
theorem v17 {a b c:Rat} (h1:a<b) (h2:b<=c):a<c:=Rat.not_le.1 (fun h=>Rat.not_le.2 h1 (Rat.le_trans h2 h))
theorem wgr {a b c:Rat} (h1:a<=b) (h2:b<c):a<c:=Rat.not_le.1 (fun h=>Rat.not_le.2 h2 (Rat.le_trans h h1))
theorem x1r {a b c d:Rat} (h1:a<=c) (h2:b<=d):a+b<=c+d:=Rat.le_trans (Rat.add_le_add_right.2 h1) (Rat.add_le_add_left.2 h2)
theorem vrf {x:Rat} (h:x≠0):(-x)⁻¹ = -x⁻¹:=by
 have h':-x≠0:=fun e=>h (by have:=congrArg (fun y=>-y) e;simp only [Rat.neg_neg,Rat.neg_zero] at this;exact this)
 have e1:-x * -x⁻¹=1:=by rw [Rat.neg_mul,Rat.mul_neg,Rat.neg_neg,Rat.mul_inv_cancel _ h]
 have e2:(-x)⁻¹*(-x * -x⁻¹) = -x⁻¹:=by rw [<-Rat.mul_assoc,Rat.inv_mul_cancel _ h',Rat.one_mul]
 rw [<-e2,e1,Rat.mul_one]
structure Iv where
 lo:Rat
 hi:Rat
 h:lo<=hi
theorem Iv.ext' {a b:Iv} (h1:a.lo=b.lo) (h2:a.hi=b.hi):a=b:=by
 cases a;cases b;cases h1;cases h2;rfl
instance:DecidableEq Iv:=fun a b=>decidable_of_iff (a.lo=b.lo/\a.hi=b.hi) ⟨fun h=>Iv.ext' h.1 h.2,fun h=>by rw [h];exact ⟨rfl,rfl⟩⟩
def Iv.pt (q:Rat):Iv:=⟨q,q,Rat.le_refl⟩
instance:Inhabited Iv:=⟨Iv.pt 0⟩
def Iv.neg (a:Iv):Iv:=⟨-a.hi,-a.lo,Rat.neg_le_neg a.h⟩
def Iv.add (a b:Iv):Iv:=⟨a.lo+b.lo,a.hi+b.hi,x1r a.h b.h⟩
def Iv.sub (a b:Iv):Iv:=a.add b.neg
def mn4 (a b c d:Rat):Rat:=min (min (min a b) c) d
def mx4 (a b c d:Rat):Rat:=max (max (max a b) c) d
theorem zgf (a b:Rat):min a b<=a:=by
 rw [Rat.min_def];split
 . exact Rat.le_refl
 . rename_i h;exact Rat.le_of_lt (Rat.not_le.1 h)
theorem xvo (a b:Rat):min a b<=b:=by
 rw [Rat.min_def];split
 . assumption
 . exact Rat.le_refl
theorem wod (a b:Rat):a<=max a b:=by
 rw [Rat.max_def];split
 . assumption
 . exact Rat.le_refl
theorem vbw (a b:Rat):b<=max a b:=by
 rw [Rat.max_def];split
 . exact Rat.le_refl
 . rename_i h;exact Rat.le_of_lt (Rat.not_le.1 h)
theorem wm6 {a b c:Rat} (h1:c<=a) (h2:c<=b):c<=min a b:=by
 rw [Rat.min_def];split<;>assumption
theorem vq9 {a b c:Rat} (h1:a<=c) (h2:b<=c):max a b<=c:=by
 rw [Rat.max_def];split<;>assumption
theorem vdq (a b:Rat):min a b=a\/min a b=b:=by
 rw [Rat.min_def];split
 . exact .inl rfl
 . exact .inr rfl
theorem yqy (a b:Rat):max a b=a\/max a b=b:=by
 rw [Rat.max_def];split
 . exact .inr rfl
 . exact .inl rfl
theorem x3q (a b c d:Rat):mn4 a b c d<=a/\mn4 a b c d<=b/\mn4 a b c d<=c/\mn4 a b c d<=d:=by
 have h1:=zgf (min (min a b) c) d;have h2:=xvo (min (min a b) c) d;have h3:=zgf (min a b) c;have h4:=xvo (min a b) c;exact ⟨Rat.le_trans h1 (Rat.le_trans h3 (zgf a b)),Rat.le_trans h1 (Rat.le_trans h3 (xvo a b)),Rat.le_trans h1 h4,h2⟩
theorem vxc (a b c d:Rat):a<=mx4 a b c d/\b<=mx4 a b c d/\c<=mx4 a b c d/\d<=mx4 a b c d:=by
 have h1:=wod (max (max a b) c) d;have h2:=vbw (max (max a b) c) d;have h3:=wod (max a b) c;have h4:=vbw (max a b) c;exact ⟨Rat.le_trans (wod a b) (Rat.le_trans h3 h1),Rat.le_trans (vbw a b) (Rat.le_trans h3 h1),Rat.le_trans h4 h1,h2⟩
theorem xbl {a b c d x:Rat} (h1:x<=a) (h2:x<=b) (h3:x<=c) (h4:x<=d):x<=mn4 a b c d:=wm6 (wm6 (wm6 h1 h2) h3) h4
theorem xva {a b c d x:Rat} (h1:a<=x) (h2:b<=x) (h3:c<=x) (h4:d<=x):mx4 a b c d<=x:=vq9 (vq9 (vq9 h1 h2) h3) h4
theorem xv8 (a b c d:Rat):mn4 a b c d=a\/mn4 a b c d=b\/mn4 a b c d=c\/mn4 a b c d=d:=by
 unfold mn4
 rcases vdq (min (min a b) c) d with h | h<;>rw [h]
 . rcases vdq (min a b) c with h | h<;>rw [h]
   . rcases vdq a b with h | h<;>rw [h]<;>simp
   . simp
 . simp
theorem y66 (a b c d:Rat):mx4 a b c d=a\/mx4 a b c d=b\/mx4 a b c d=c\/mx4 a b c d=d:=by
 unfold mx4
 rcases yqy (max (max a b) c) d with h | h<;>rw [h]
 . rcases yqy (max a b) c with h | h<;>rw [h]
   . rcases yqy a b with h | h<;>rw [h]<;>simp
   . simp
 . simp
def Iv.round (a b c d:Rat):Iv:=⟨mn4 a b c d,mx4 a b c d,Rat.le_trans (x3q a b c d).1 (vxc a b c d).1⟩
def Iv.mul (a b:Iv):Iv:=Iv.round (a.lo*b.lo) (a.lo*b.hi) (a.hi*b.lo) (a.hi*b.hi)
def Iv.hull (a b:Iv):Iv:=Iv.round a.lo a.hi b.lo b.hi
def Iv.has (a:Iv) (q:Rat):Bool:=decide (a.lo<=q)&&decide (q<=a.hi)
def Iv.inside (a b:Iv):Bool:=decide (b.lo<=a.lo)&&decide (a.hi<=b.hi)
theorem x07 {x y:Rat} (h:x<=y) (hp:0<x):1 / y<=1 / x:=by
 have hy:0<y:=v17 hp h;rw [Rat.div_def,Rat.div_def,Rat.one_mul,Rat.one_mul];have h1:0<x⁻¹:=Rat.inv_pos.2 hp;have h2:0<y⁻¹:=Rat.inv_pos.2 hy;have h3:=Rat.mul_le_mul_of_nonneg_right (Rat.mul_le_mul_of_nonneg_left h (Rat.le_of_lt h1)) (Rat.le_of_lt h2)
 rwa [Rat.inv_mul_cancel _ (Rat.ne_of_gt hp),Rat.one_mul,Rat.mul_assoc,Rat.mul_inv_cancel _ (Rat.ne_of_gt hy),Rat.mul_one] at h3
theorem xao {x y:Rat} (h:x<=y) (hn:y<0):1 / y<=1 / x:=by
 have h1:=x07 (x:=-y) (y:=-x) (Rat.neg_le_neg h) (by have:=Rat.neg_lt_neg hn;rwa [Rat.neg_zero] at this);have hx:x≠0:=Rat.ne_of_lt (wgr h hn);have hy:y≠0:=Rat.ne_of_lt hn;rw [Rat.div_def,Rat.div_def,Rat.one_mul,Rat.one_mul,vrf hx,vrf hy] at h1;rw [Rat.div_def,Rat.div_def,Rat.one_mul,Rat.one_mul]
 have:=Rat.neg_le_neg h1
 rwa [Rat.neg_neg,Rat.neg_neg] at this
theorem Iv.xap {b:Iv} (h:b.has 0=false):1 / b.hi<=1 / b.lo:=by
 unfold Iv.has at h;rw [Bool.and_eq_false_iff] at h
 rcases h with h | h
 . exact x07 b.h (Rat.not_le.1 (of_decide_eq_false h))
 . exact xao b.h (Rat.not_le.1 (of_decide_eq_false h))
def Iv.inv (b:Iv):Iv:=if h:b.has 0=false then ⟨1 / b.hi,1 / b.lo,Iv.xap h⟩ else b
def Iv.minI (a b:Iv):Iv:=⟨min a.lo b.lo,min a.hi b.hi,wm6 (Rat.le_trans (zgf _ _) a.h) (Rat.le_trans (xvo _ _) b.h)⟩
def Iv.maxI (a b:Iv):Iv:=⟨max a.lo b.lo,max a.hi b.hi,vq9 (Rat.le_trans a.h (wod _ _)) (Rat.le_trans b.h (vbw _ _))⟩
def Iv.meets (a b:Iv):Bool:=decide (max a.lo b.lo<=min a.hi b.hi)
abbrev ivC (v:Iv):List Cell:=[.raw (.int .i64 (qF (some v.lo)).s),.ints .i64 (qF (some v.lo)).L,.raw (.int .i64 (qF (some v.lo)).t),.ints .i64 (qF (some v.lo)).M,.raw (.int .i64 (qF (some v.hi)).s),.ints .i64 (qF (some v.hi)).L,.raw (.int .i64 (qF (some v.hi)).t),.ints .i64 (qF (some v.hi)).M]
def ivS (v:Iv):Sc:=⟨qF (some v.lo),qF (some v.hi)⟩
abbrev ivZ (v:Iv):Nat:=max (qz (some v.lo)) (qz (some v.hi))
theorem zlo {v:Iv} {n m:Nat} (h:ivZ v<=n) (hm:n<=m:=by decide):qz (some v.lo)<=m:=Nat.le_trans (Nat.le_max_left _ _) (Nat.le_trans h hm)
theorem zhi {v:Iv} {n m:Nat} (h:ivZ v<=n) (hm:n<=m:=by decide):qz (some v.hi)<=m:=Nat.le_trans (Nat.le_max_right _ _) (Nat.le_trans h hm)
theorem yxx (v:Iv):(ivS v).ok:=⟨Fc.zaw _,Fc.zaw _,by
 have:=v.h
 show Fc.cmp (Fc.of v.lo) (Fc.of v.hi)<=0;rw [Fc.ysh]
 rcases Fc.ygb v.lo v.hi with ⟨_,e⟩ | ⟨_,e⟩ | ⟨q,e⟩<;>rw [e]
 . decide
 . decide
 . exact absurd q (Rat.not_lt.2 this)⟩
theorem vjq {x y:Rat}:decide (Fc.ordQ x y<=0)=decide (x<=y):=by
 apply decide_eq_decide.2
 rcases Fc.ygb x y with ⟨q,e⟩ | ⟨q,e⟩ | ⟨q,e⟩<;>rw [e]
 . exact ⟨fun _=>Rat.le_of_lt q,fun _=>by decide⟩
 . exact ⟨fun _=>by rw [q];exact Rat.le_refl,fun _=>by decide⟩
 . exact ⟨fun h=>absurd h (by decide),fun h=>absurd q (Rat.not_lt.2 h)⟩
theorem vn7 {x y:Rat}:decide (Fc.ordQ x y<0)=decide (x<y):=by
 apply decide_eq_decide.2
 rcases Fc.ygb x y with ⟨q,e⟩ | ⟨q,e⟩ | ⟨q,e⟩<;>rw [e]
 . exact ⟨fun _=>q,fun _=>by decide⟩
 . exact ⟨fun h=>absurd h (by decide),fun h=>absurd (q▸h) Rat.lt_irrefl⟩
 . exact ⟨fun h=>absurd h (by decide),fun h=>absurd (Rat.le_of_lt h) (Rat.not_le.2 q)⟩
theorem x6c {s:Sc} (h:s.ok):∃ v:Iv,s=ivS v:=by
 obtain ⟨h1,h2,h3⟩:=h;obtain ⟨p,hp⟩:=xp2 h1;obtain ⟨q,hq⟩:=xp2 h2;obtain ⟨l,u⟩:=s;simp only at hp hq;subst hp;subst hq
 have h4:Fc.ordQ p q<=0:=by rw [<-Fc.ysh];exact h3
 exact ⟨⟨p,q,of_decide_eq_true (vjq▸decide_eq_true h4)⟩,rfl⟩
theorem wdq (m:Rat):∀ l:List Rat,Sc.least (Fc.of m) (l.map Fc.of)=Fc.of (l.foldl min m)
 | []=>rfl
 | x::l=>by
  have e:(if Fc.cmp (Fc.of x) (Fc.of m)<0 then Fc.of x else Fc.of m)=Fc.of (min m x):=by
   rw [Fc.ysh,Rat.min_def]
   rcases Fc.ygb x m with ⟨q,e⟩ | ⟨q,e⟩ | ⟨q,e⟩<;>rw [e]
   . rw [if_pos (by decide),if_neg (Rat.not_le.2 q)]
   . rw [if_neg (by decide),q,if_pos Rat.le_refl]
   . rw [if_neg (by decide),if_pos (Rat.le_of_lt q)]
  show Sc.least (if Fc.cmp (Fc.of x) (Fc.of m)<0 then Fc.of x else Fc.of m) (l.map Fc.of)=_;rw [e];exact wdq (min m x) l
theorem zc2 (m:Rat):∀ l:List Rat,Sc.vdz (Fc.of m) (l.map Fc.of)=Fc.of (l.foldl max m)
 | []=>rfl
 | x::l=>by
  have e:(if Fc.cmp (Fc.of x) (Fc.of m) > 0 then Fc.of x else Fc.of m)=Fc.of (max m x):=by
   rw [Fc.ysh,Rat.max_def]
   rcases Fc.ygb x m with ⟨q,e⟩ | ⟨q,e⟩ | ⟨q,e⟩<;>rw [e]
   . rw [if_neg (by decide),if_neg (Rat.not_le.2 q)]
   . rw [if_neg (by decide),q,if_pos Rat.le_refl]
   . rw [if_pos (by decide),if_pos (Rat.le_of_lt q)]
  show Sc.vdz (if Fc.cmp (Fc.of x) (Fc.of m) > 0 then Fc.of x else Fc.of m) (l.map Fc.of)=_;rw [e];exact zc2 (max m x) l
theorem ww1 (a b c d:Rat):Sc.y7f [Fc.of a,Fc.of b,Fc.of c,Fc.of d]=ivS (Iv.round a b c d):=by
 have h1:=wdq a [b,c,d];have h2:=zc2 a [b,c,d];show (⟨Sc.least (Fc.of a) ([b,c,d].map Fc.of),Sc.vdz (Fc.of a) ([b,c,d].map Fc.of)⟩:Sc)=_;rw [h1,h2];rfl
theorem ymg (v:Iv) (h:ivZ v<=67108864):CallsD Γ prog 18 [.agg (ivC v)] (.one (cB true)):=toD (zs2 (ivS v) h (yxx v))
theorem wsc (q:Rat) (h:qs q<=67108864):CallsD Γ prog 23 [.agg (qC (some q))] (.agg (ivC (Iv.pt q))):=by
 have h:=toD (Γ:=Γ) (zx7 (qF (some q)) h);rw [show Sc.vc6 (qF (some q))=ivS (Iv.pt q) from if_pos (Fc.zaw q)] at h;exact h
theorem zw8 (v:Iv) (q:Rat):decide ((ivS v).has (qF (some q)))=v.has q:=by
 unfold Iv.has;rw [<-vjq,<-vjq,<-Fc.ysh,<-Fc.ysh,<-Bool.decide_and];exact decide_eq_decide.2 ⟨fun h=>h.2.2,fun h=>⟨yxx v,Fc.zaw q,h⟩⟩
theorem iHas (v:Iv) (q:Rat) (h:ivZ v<=67108864) (hq:qs q<=67108864):CallsD Γ prog 21 [.agg (ivC v),.agg (qC (some q))] (.one (cB (v.has q))):=by
 have h:=toD (Γ:=Γ) (vjc (ivS v) (qF (some q)) h hq);rw [zw8] at h;exact h
theorem v3n (a b:Iv):decide ((ivS a).inside (ivS b))=a.inside b:=by
 unfold Iv.inside;rw [<-vjq,<-vjq,<-Fc.ysh,<-Fc.ysh,<-Bool.decide_and];exact decide_eq_decide.2 ⟨fun h=>h.2.2,fun h=>⟨yxx a,yxx b,h⟩⟩
theorem zbh (a b:Iv) (ha:ivZ a<=67108864) (hb:ivZ b<=67108864):CallsD Γ prog 17 [.agg (ivC a),.agg (ivC b)] (.one (cB (a.inside b))):=by
 have h:=toD (Γ:=Γ) (vbs (ivS a) (ivS b) ha hb);rw [v3n] at h;exact h
theorem oNeg (q:Rat) (h:qs q<=67108864):CallsD Γ prog 62 [.agg (qC (some q))] (.agg (qC (some (-q)))):=by
 have h:=toD (Γ:=Γ) (wzp (qF (some q)) h);rw [show Fc.neg (qF (some q))=qF (some (-q)) from Fc.x6d q] at h;exact h
theorem z9e (a b:Option Rat) (ha:qz a<=67108864) (hb:qz b<=67108864):CallsD Γ prog 53 [.agg (qC a),.agg (qC b)] (.one (cB (decide (a=b)))):=by
 have h:=toD (Γ:=Γ) (yf9 (qF a) (qF b) ha hb);rw [show decide (qF a=qF b)=decide (a=b) from decide_eq_decide.2 ⟨zym,fun h=>by rw [h]⟩] at h;exact h
theorem iNeg (v:Iv) (h:ivZ v<=67108864):CallsD Γ prog 40 [.agg (ivC v)] (.agg (ivC v.neg)):=by
 have h1:=ymg (Γ:=Γ) v h;have h2:=oNeg (Γ:=Γ) v.lo (zlo h);have h3:=oNeg (Γ:=Γ) v.hi (zhi h);refine CallsD.run [] Go.Proofs.Tryz.func40 rfl rfl rfl ?_;simp only [Go.Proofs.Tryz.f40];refine hgR ?_
 repeat' ((first | refine hfk ?_ ?_<;>intros | refine hik ?_ | with_reducible first | refine v6l (h1) ?_ | refine vgi (h1) ?_ | refine v6l (h2) ?_ | refine vgi (h2) ?_ | refine v6l (h3) ?_ | refine vgi (h3) ?_)<;>refine hgS ?_)
 exact RLe.ofEq rfl
abbrev ivR (v:Iv):AV:=.tup [.agg (ivC v),.one (cI 0)]
theorem iAdd (a b:Iv) (ha:ivZ a<=67108864) (hb:ivZ b<=67108864):CallsD Γ prog 149 [.agg (ivC a),.agg (ivC b)] (ivR (a.add b)):=by
 have h:=toD (Γ:=Γ) (xqt (ivS a) (ivS b) ha hb)
 have e:Sc.add (ivS a) (ivS b)=ivS (a.add b):=by
  show (if (ivS a).ok/\(ivS b).ok then (⟨Fc.add (qF (some a.lo)) (qF (some b.lo)),Fc.add (qF (some a.hi)) (qF (some b.hi))⟩:Sc) else Sc.zero)=_;rw [if_pos ⟨yxx a,yxx b⟩,show Fc.add (qF (some a.lo)) (qF (some b.lo))=_ from yqn _ _ _,show Fc.add (qF (some a.hi)) (qF (some b.hi))=_ from yqn _ _ _];rfl
 rw [e,show Fc.er ((ivS a).ok/\(ivS b).ok)=0 from if_pos ⟨yxx a,yxx b⟩] at h;exact h
theorem za4 (v:Iv):ivZ v.neg=ivZ v:=by
 show max (qs (-v.hi)) (qs (-v.lo))=max (qs v.lo) (qs v.hi);have e:∀ x:Rat,qs (-x)=qs x:=Fc.wr7;rw [e,e];exact Nat.max_comm _ _
theorem iSub (a b:Iv) (ha:ivZ a<=67108864) (hb:ivZ b<=67108864):CallsD Γ prog 150 [.agg (ivC a),.agg (ivC b)] (ivR (a.sub b)):=by
 have h1:=iNeg (Γ:=Γ) b hb;have h2:=iAdd (Γ:=Γ) a b.neg ha (by rw [za4];exact hb);refine CallsD.run [] Go.Proofs.Tryz.func150 rfl rfl rfl ?_;simp only [Go.Proofs.Tryz.f150];refine hgR ?_
 repeat' ((first | refine hfk ?_ ?_<;>intros | refine hik ?_ | with_reducible first | refine v6l (h1) ?_ | refine vgi (h1) ?_ | refine v6l (h2) ?_ | refine vgi (h2) ?_)<;>refine hgS ?_)
 exact RLe.ofEq rfl
theorem iMul (a b:Iv) (ha:ivZ a<=33554432) (hb:ivZ b<=33554432):CallsD Γ prog 151 [.agg (ivC a),.agg (ivC b)] (ivR (a.mul b)):=by
 have h:=toD (Γ:=Γ) (wev (ivS a) (ivS b) ha hb)
 have e:Sc.mul (ivS a) (ivS b)=ivS (a.mul b):=by
  show (if (ivS a).ok/\(ivS b).ok then Sc.y7f [Fc.mul (qF (some a.lo)) (qF (some b.lo)),Fc.mul (qF (some a.lo)) (qF (some b.hi)),Fc.mul (qF (some a.hi)) (qF (some b.lo)),Fc.mul (qF (some a.hi)) (qF (some b.hi))] else Sc.zero)=_;rw [if_pos ⟨yxx a,yxx b⟩,show Fc.mul (qF (some a.lo)) (qF (some b.lo))=_ from yqn _ _ _,show Fc.mul (qF (some a.lo)) (qF (some b.hi))=_ from yqn _ _ _,show Fc.mul (qF (some a.hi)) (qF (some b.lo))=_ from yqn _ _ _,show Fc.mul (qF (some a.hi)) (qF (some b.hi))=_ from yqn _ _ _];exact ww1 _ _ _ _
 rw [e,show Fc.er ((ivS a).ok/\(ivS b).ok)=0 from if_pos ⟨yxx a,yxx b⟩] at h;exact h
theorem v7c (s:ByteArray):CallsD Γ prog 77 [.one (cS s)] (.one (cB (isWord s))):=by
 refine CallsD.run [] Go.Proofs.Tryz.func77 rfl rfl rfl ?_;simp only [Go.Proofs.Tryz.f77];refine hgR ?_
 repeat' ((first | refine hfk ?_ ?_<;>intros | refine hik ?_)<;>refine hgS ?_)
 all_goals refine lf1 @isWord.eq_def ?_;first | exact trivial | rfl
theorem xd2 (s:ByteArray) (hs:s.size<=1099511627776):CallsD Γ prog 177 [.one (cS s)] (.one (cB (isNamed s))):=by
 refine CallsD.run [] Go.Proofs.Tryz.func177 rfl rfl rfl ?_;simp only [Go.Proofs.Tryz.f177];refine hgR ?_
 repeat' ((first | refine hfk ?_ ?_<;>intros | refine hik ?_ | with_reducible first | refine v6l (vv6 s hs) ?_ | refine vgi (vv6 s hs) ?_ | refine v6l (v7c s) ?_ | refine vgi (v7c s) ?_)<;>refine hgS ?_)
 all_goals refine lf1 @isNamed.eq_def ?_;first | exact trivial | rfl
theorem w3e (o:Int):CallsD Γ prog 178 [.one (cI o)] (.tup [.one (cS (zgj o)),.one (cB (isOp o))]):=by
 refine CallsD.run [] Go.Proofs.Tryz.func178 rfl rfl rfl ?_;simp only [Go.Proofs.Tryz.f178];refine hgR ?_
 repeat' ((first | refine hfk ?_ ?_<;>intros | refine hik ?_)<;>refine hgS ?_)
 all_goals refine lf2 @isOp.eq_def @zgj.eq_def ?_;first | exact trivial | rfl
theorem zyp (x:Ex) (hx:x.Sm):CallsD Γ prog 121 [.agg (exC x)] (.one (cB (yxn x))):=by
 have hu:=hx.u;have hs:=hx.s;have hl:=hx.len;obtain ⟨q,hq⟩:∃ q,CallsD Γ prog 176 [.one (cS x.unit)] (.tup [.one (cS q),.one (cB (wku x.unit))]):=yph x.unit (by omega);refine CallsD.run [] Go.Proofs.Tryz.func121 rfl rfl rfl ?_;simp only [Go.Proofs.Tryz.f121];refine hgR ?_
 repeat' ((first | refine hfk ?_ ?_<;>intros | refine hik ?_ | with_reducible first | refine v6l (hq) ?_ | refine vgi (hq) ?_ | refine v6l (xd2 x.name (by omega)) ?_ | refine vgi (xd2 x.name (by omega)) ?_ | refine v6l (w3e _) ?_ | refine vgi (w3e _) ?_)<;>refine hgS ?_)
 all_goals refine lf1 @yxn.eq_def ?_;first | exact trivial | rfl
theorem xcj (l:List Ex) (f:FuncId) (p:Ex->Bool) (hl:l.length<=1073741824) (h:∀ y∈l,CallsD Γ prog f [.agg (exC y)] (.one (cB (p y)))) :
 CallsD Γ prog 122 [.one (.sl 5 (l.map Ex.cells)),fN f] (.one (cI (idxF p l))):=by
 refine CallsD.run [] Go.Proofs.Tryz.func122 rfl rfl rfl ?_;simp only [Go.Proofs.Tryz.f122];refine hgR ?_;refine y55 [0,1,7] (fun i:Nat=>[(8,.one (.dat (cI i)))]) (fun _=>[]) (fun i=>i<=l.length/\∀ j,j<i->p (l.getD j default)=false) (fun i=>l.length-i) 0 ⟨Nat.zero_le _,fun j hj=>by omega⟩ ?_ ?_
 . refine hg ?_;exact StH.same svl rfl
 intro i hi;obtain ⟨hi,hj⟩:=hi;refine hg ?_
 repeat' ((first | refine hfk ?_ ?_<;>intros | refine hik ?_ | with_reducible first | refine v6l (h _ (w4t (show i<l.length by omega))) ?_ | refine vgi (h _ (w4t (show i<l.length by omega))) ?_)<;>refine hgS ?_)
 . rename_i hp;rw [(yo6 hi hj).2 (by omega) hp];exact RLe.ofEq rfl
 . rename_i hp;refine ⟨i+1,⟨by omega,fun j hj'=>?_⟩,by omega,StH.same svl rfl⟩
   rcases Nat.lt_or_eq_of_le (Nat.le_of_lt_succ hj') with h2 | h2
   . exact hj j h2
   . rw [h2];exact hp
 . rw [(yo6 hi hj).1 (by omega)];exact RLe.ofEq rfl
theorem ynb (l:List Ex) (f:FuncId) (p:Ex->Bool) (hl:l.length<=1073741824) (h:∀ y∈l,CallsD Γ prog f [.agg (exC y)] (.one (cB (p y)))) :
 CallsD Γ prog 75 [.one (.sl 5 (l.map Ex.cells)),fN f] (.one (cB (l.any p))):=by
 refine CallsD.run [] Go.Proofs.Tryz.func75 rfl rfl rfl ?_;simp only [Go.Proofs.Tryz.f75];refine hgR ?_
 repeat' ((first | refine hfk ?_ ?_<;>intros | refine hik ?_ | with_reducible first | refine v6l (xcj l f p hl h) ?_ | refine vgi (xcj l f p hl h) ?_)<;>refine hgS ?_)
 exact RLe.ofEq (by rw [<-wb5])
theorem zl5:∀ x:Ex,x.Sm->CallsD Γ prog 74 [.agg (exC x)] (.one (cB x.shaped)):=by
 refine Ex.ind (fun x ih hx=>?_);have hl:=hx.len
 have hw:∀ y∈x.args,CallsD Γ prog 120 [.agg (exC y)] (.one (cB (!y.shaped))):=fun y hy=>by
  refine CallsD.run [] Go.Proofs.Tryz.func120 rfl rfl rfl ?_;simp only [Go.Proofs.Tryz.f120];refine hgR ?_
  repeat' ((first | refine hfk ?_ ?_<;>intros | refine hik ?_ | with_reducible first | refine v6l (ih y hy (hx.arg y hy)) ?_ | refine vgi (ih y hy (hx.arg y hy)) ?_)<;>refine hgS ?_)
  exact RLe.ofEq rfl
 refine CallsD.run [] Go.Proofs.Tryz.func74 rfl rfl rfl ?_;simp only [Go.Proofs.Tryz.f74];refine hgR ?_
 repeat' ((first | refine hfk ?_ ?_<;>intros | refine hik ?_ | with_reducible first | refine v6l (zyp x hx) ?_ | refine vgi (zyp x hx) ?_ | refine v6l (ynb x.args _ _ hl hw) ?_ | refine vgi (ynb x.args _ _ hl hw) ?_)<;>refine hgS ?_)
 all_goals refine RLe.ofEq ?_
 . rename_i h;rw [Ex.xg3,h];simp [List.all_eq_not_any_not]
 . rename_i h;rw [Ex.xg3,h];rfl
abbrev nB (n:Int) (T:Option TypeId):SB:=.box [.dat (cI n)] T
theorem xmk:∀ x:Ex,x.Sm->∀(n lv:Int) (T:Option TypeId),0<=n->n<=1000->0<=lv->lv<=1000->
 vfe Γ prog 73 [nB n T] [.agg ((exC x).map .dat),.one (.ptr 0 0),.one (.dat (cI lv))] [nB (x.cnt n lv).2 T] (.one (.dat (cB (x.cnt n lv).1))):=by
 refine Ex.ind (fun x ih hx n lv T h0 h1 h2 h3=>?_);have hl:=hx.len
 have fin:∀(b:Bool) (k:Int),x.cnt n lv=(b,k)->StH Γ [nB n T] [SV.one (.dat (cB b))] [nB k T,.box ((exC x).map .dat) (some 24)] [SV.one (.dat (cB (x.cnt n lv).1))] [nB (x.cnt n lv).2 T]:=fun b k h=>by
  rw [h];exact StH.done 1 rfl (by kernel_rfl) rfl rfl
 refine vfe.run [] Go.Proofs.Tryz.func73 rfl rfl ?_;simp only [Go.Proofs.Tryz.f73];refine hgR ?_
 repeat' ((first | refine hfk ?_ ?_<;>intros | refine hik ?_)<;>refine hgS ?_)
 . exact fin _ _ (by rw [Ex.vrw];simp only [*];rfl)
 . have e0:x.cnt n lv=Ex.cntL x.args (n+1) (lv+1):=by rw [Ex.vrw];simp only [*];rfl
   refine y55 [1,2,23,24] (fun p:Nat×Int=>[(25,.one (.dat (cI p.1)))]) (fun p=>[nB p.2 T,.box ((exC x).map .dat) (some 24)]) (fun p=>p.1<=x.args.length/\0<=p.2/\p.2<=200/\Ex.cntL (x.args.drop p.1) p.2 (lv+1)=Ex.cntL x.args (n+1) (lv+1)) (fun p=>x.args.length-p.1) (0,n+1) ⟨Nat.zero_le _,by simp only;omega,by simp only;omega,rfl⟩ ?_ ?_
   . refine hg ?_;exact StH.same svl rfl
   rintro ⟨i,m⟩ ⟨hi,hm0,hm1,hc⟩;simp only at hi hm0 hm1 hc;refine hg ?_;refine vnx (fun hlt hd=>?_) (fun hlt _=>?_)
   . have hlt':i<x.args.length:=by omega
     have hy:=w4t hlt';rw [xqz hlt'] at hc;refine hg ?_;refine z4m [0] (ih _ hy (hx.arg _ hy) m (lv+1) T (by omega) (by omega) (by omega) (by omega)) rfl (by decide) rfl rfl rfl ?_;have hstep:=hc;rw [Ex.cntL] at hstep;generalize hr:(x.args.getD i default).cnt m (lv+1)=r at hstep ⊢;obtain ⟨b,k⟩:=r;refine hg ?_
     cases b with
     | true=>
      have hk:=Ex.v24 _ _ _ _ hr;refine hg ?_;exact ⟨(i+1,k),⟨by simp only;omega,by simp only;omega,hk.2,hstep⟩,by simp only;omega,StH.back [1,2,23,24,25] 2 2 2 rfl rfl rfl rfl rfl (by kernel_rfl) (StH.same svl rfl)⟩
     | false=>
      refine hg ?_;rw [e0,<-hstep];exact StH.done 1 rfl (by kernel_rfl) rfl rfl
   . refine hg ?_;rw [e0,<-hc,List.drop_eq_nil_of_le (by omega),Ex.cntL];exact StH.done 1 rfl (by kernel_rfl) rfl rfl
 . exact fin _ _ (by rw [Ex.vrw];simp only [*];rfl)
theorem xz2 (x:Ex) (hx:x.Sm):CallsD Γ prog 45 [.agg (exC x)] (.one (cB (xub x))):=by
 refine CallsD.run [] Go.Proofs.Tryz.func45 rfl rfl rfl ?_;simp only [Go.Proofs.Tryz.f45];refine hgR ?_;refine z4m [1] (xmk x hx 0 1 _ (by decide) (by decide) (by decide) (by decide)) rfl (by decide) rfl rfl rfl ?_;refine hg ?_
 repeat' ((first | refine hfk ?_ ?_<;>intros | refine hik ?_ | with_reducible first | refine v6l (zl5 x hx) ?_ | refine vgi (zl5 x hx) ?_)<;>refine hgS ?_)
 all_goals refine lf1 @xub.eq_def ?_;first | exact trivial | rfl
end Go.Hp.T
namespace Go.Hp
open Go Go.RowKit Go.Slot
variable {P:Program} {Γ:List (Nat×List Cell)}
theorem x8i {n N i:Nat} (h:i<n):atR (List.range n) N i=i:=v84 (by simp [h])
theorem vfe.pre {f:FuncId} {ηs ξ:List SB} {args:List SV} {res:SV} (h:vfe Γ P f ηs args ηs res) (hs:∀ r,ηs.map (rnSB r)=ηs) (ha:args.map (yo9 (atR (List.range ηs.length) (ηs++ξ).length))=args) (hr:rnSV (atR (List.range ηs.length) (ηs++ξ).length) res=res):vfe Γ P f (ηs++ξ) args (ηs++ξ) res:=by
 have hfix:∀(r:Nat->Nat) (i:Nat) (x:SB),ηs[i]? = some x->rnSB r x=x:=fun r i x hx=>by
  have:=congrArg (fun l=>l[i]?) (hs r)
  simp only [List.getElem?_map,hx,Option.map_some] at this;exact Option.some.inj this
 have hlt:∀ j∈List.range ηs.length,j<(ηs++ξ).length:=fun j hj=>by
  rw [List.mem_range] at hj;rw [List.length_append];omega
 have hk:=vfe.frame (φ:=List.range ηs.length) (η:=ηs++ξ) List.nodup_range hlt ⟨by simp,fun i x hx=>by
  have hi:i<ηs.length:=(List.getElem?_eq_some_iff.1 hx).1
  exact ⟨i,by simp [hi],by rw [hfix _ i x hx,List.getElem?_append_left hi];exact hx⟩⟩ (by simp) h
 rw [ha,hr] at hk
 have hp:putR (List.range ηs.length) (ηs++ξ) ηs=ηs++ξ:=by
  apply List.ext_getElem?;intro i;by_cases hi:i<ηs.length
  . have h1:=y6r (φ:=List.range ηs.length) (η:=ηs++ξ) (ηs':=ηs) List.nodup_range hlt (List.getElem?_eq_getElem hi);rw [x8i hi,hfix _ i _ (List.getElem?_eq_getElem hi)] at h1;rw [h1,List.getElem?_append_left hi,List.getElem?_eq_getElem hi]
  . by_cases hi2:i<(ηs++ξ).length
    . exact xxa hi2 (by simpa using hi)
    . rw [List.getElem?_eq_none (by rw [yvj];simp at hi2 ⊢;omega),List.getElem?_eq_none (by omega)]
 rw [hp] at hk;exact hk
theorem v44 {f:FuncId} {η ηs ξ:List SB} {args l:List SV} {res:SV} {K:Bool->List SB->SV->Prop} (h:vfe Γ P f ηs args ηs res) (hs:∀ r,ηs.map (rnSB r)=ηs) (hz:dzL η l=args) (hη:appL (frzE η (dzB η l)) η=ηs++ξ) (ha:args.map (yo9 (atR (List.range ηs.length) (ηs++ξ).length))=args) (hr:rnSV (atR (List.range ηs.length) (ηs++ξ).length) res=res) (hk:K true (ηs++ξ) res):x0t Γ P f η l K:=by
 subst hz;refine xwg (vfe.frz ?_) hk;rw [hη];exact vfe.pre h hs ha hr
end Go.Hp
namespace Go.Hp.T
open Go Go.RowKit Go.Slot Go.Hp
theorem xn1 {r:Nat->Nat} {l:List (ByteArray×Dm)}:rnSB r (.map (envE l))=.map (envE l):=by
 have:∀ l:List (ByteArray×Dm),(envE l).map (fun p=>(p.1,yo9 r p.2))=envE l:=by
  intro l
  induction l with
  | nil=>rfl
  | cons p l ih=>
   show _::(envE l).map _=_;rw [ih];rfl
 show SB.map _=_;rw [this]
theorem w1l (V T:List (ByteArray×Dm)):∀ r,[SB.map (envE V),SB.map (envE T)].map (rnSB r)=[SB.map (envE V),SB.map (envE T)]:=fun r=>by
 simp only [List.map_cons,List.map_nil,xn1]
theorem x6z {x:Ex} (h:yxn x=true) (h3:x.op≠3) (h0:x.args.length≠0):(x.op≠2->x.op≠4->2<=x.args.length)/\(x.op=5->3<=x.args.length):=by
 unfold yxn at h;by_cases a0:x.op=0
 . rw [decide_eq_true a0,cond_true] at h;simp only [Bool.and_eq_true,decide_eq_true_eq] at h;omega
 rw [decide_eq_false a0,cond_false] at h
 cases hb:(decide (¬x.n=0)||decide (¬x.unit.size=0)) with
 | true=>rw [hb,cond_true] at h;cases h
 | false=>
 rw [hb,cond_false] at h;by_cases a1:x.op=1
 . rw [decide_eq_true a1,cond_true] at h;simp only [Bool.and_eq_true,decide_eq_true_eq] at h;omega
 rw [decide_eq_false a1,cond_false] at h;by_cases a2:x.op=2
 . rw [decide_eq_true a2,cond_true] at h;simp only [Bool.and_eq_true,decide_eq_true_eq] at h;omega
 rw [decide_eq_false a2,cond_false] at h;by_cases a3:x.op=3
 . rw [decide_eq_true a3,cond_true] at h;simp only [Bool.and_eq_true,decide_eq_true_eq] at h;omega
 rw [decide_eq_false a3,cond_false] at h;by_cases a4:x.op=4
 . rw [decide_eq_true a4,cond_true] at h;simp only [Bool.and_eq_true,decide_eq_true_eq] at h;omega
 rw [decide_eq_false a4,cond_false] at h;by_cases a5:x.op=5
 . rw [decide_eq_true a5,cond_true] at h;simp only [Bool.and_eq_true,decide_eq_true_eq] at h;omega
 rw [decide_eq_false a5,cond_false] at h
 cases hc:(decide (x.op=10)||decide (x.op=11)) with
 | true=>rw [hc,cond_true] at h;simp only [Bool.and_eq_true,decide_eq_true_eq] at h;omega
 | false=>rw [hc,cond_false] at h;simp only [Bool.and_eq_true,decide_eq_true_eq] at h;omega
end Go.Hp.T
