/- The proof, part X36: E1, E2, E3, Ao, Wm, Gh, Gf. -/
import Derived.Test.YtpkininnjhbeaaaGreatDoorX34
import Derived.Test.YtpkininnjhbeaaaGreatDoorX35
import Derived.Test.YtpkininnjhbeaaaGreatDoorX33
import Derived.Test.YtpkininnjhbeaaaGreatDoorX32
namespace Go.Hp.T
open Go Go.RowKit Go.Slot Go.Hp Go.Slot.T
open Go.Proofs.Tryz (prog)
set_option maxRecDepth 100000
set_option maxHeartbeats 8000000
abbrev iq (n:Int):Rat:=(n:Rat)
def ss19:List Sl:=[⟨⟨⟨[97]⟩⟩,Af.of (iq 0) [iq 1,iq 0]⟩,⟨⟨⟨[98]⟩⟩,Af.of (iq 0) [iq 0,iq 1]⟩,⟨⟨⟨[99]⟩⟩,Af.of (iq 4) [iq 0,iq 0]⟩]
def ms19:List Tb:=[⟨⟨⟨[103,114,105,100]⟩⟩,⟨⟨[]⟩⟩,[⟨0,10⟩,⟨5,20⟩]⟩]
abbrev afX (k a b:Rat):List Cell:=[.raw (.int .i64 (qF (some k)).s),.ints .i64 (qF (some k)).L,.raw (.int .i64 (qF (some k)).t),.ints .i64 (qF (some k)).M,.sl 4 [qC (some a),qC (some b)]]
theorem voq (c a b:Int) (hc:inI c) (ha:inI a) (hb:inI b):CallsD Gs prog 34 [.one (cI c),.one (.ints .i64 [a,b])] (.agg (afC (iq c,[iq a,iq b]))):=by
 refine CallsD.run [] Go.Proofs.Tryz.func34 rfl rfl rfl ?_;simp only [Go.Proofs.Tryz.f34];refine hgR ?_
 repeat' ((first | refine hfk ?_ ?_<;>intros | refine hik ?_ | with_reducible refine v6k ?_ | with_reducible refine yp8 ?_ | with_reducible first | refine wml (oInt c hc) ?_ | refine ysj (oInt c hc) ?_ | refine wml (oInt a ha) ?_ | refine ysj (oInt a ha) ?_ | refine wml (oInt b hb) ?_ | refine ysj (oInt b hb) ?_)<;>refine hgS ?_)
 all_goals exact RLe.ofEq rfl
theorem xdb:∀ s∈ss19,(s.name.size<=1073741824/\s.f.l.length<=1048576/\s.f.le 67108864)/\s.sm 4300:=by
 have z:∀ n:Int,inI n->(Fc.of (iq n)).sz<=4:=fun n h=>x10 h
 have e:∀(nm:ByteArray) (c a b:Int),nm.size<=1073741824->inI c->inI a->inI b->((⟨nm,Af.of (iq c) [iq a,iq b]⟩:Sl).name.size<=1073741824/\(⟨nm,Af.of (iq c) [iq a,iq b]⟩:Sl).f.l.length<=1048576/\(⟨nm,Af.of (iq c) [iq a,iq b]⟩:Sl).f.le 67108864)/\(⟨nm,Af.of (iq c) [iq a,iq b]⟩:Sl).sm 4300:=fun nm c a b hn hc ha hb=>by
  have h1:=z c hc;have h2:=z a ha;have h3:=z b hb
  have hm:∀ f∈(Af.of (iq c) [iq a,iq b]).l,f.sz<=4:=fun f hf=>by
   have hf:f∈[Fc.of (iq a),Fc.of (iq b)]:=hf;simp only [List.mem_cons,List.not_mem_nil,or_false] at hf
   rcases hf with rfl | rfl<;>assumption
  exact ⟨⟨hn,by show 2<=1048576;decide,by show (Fc.of (iq c)).sz<=_;omega,fun f hf=>by have:=hm f hf;omega⟩,by show (Fc.of (iq c)).sz+10<=_;omega,fun f hf=>by have:=hm f hf;omega⟩
 intro s hs
 have hs':s=⟨⟨⟨[97]⟩⟩,Af.of (iq 0) [iq 1,iq 0]⟩\/s=⟨⟨⟨[98]⟩⟩,Af.of (iq 0) [iq 0,iq 1]⟩\/s=⟨⟨⟨[99]⟩⟩,Af.of (iq 4) [iq 0,iq 0]⟩:=by simpa [ss19] using hs
 rcases hs' with rfl | rfl | rfl
 . exact e _ _ _ _ (by decide) (by decide) (by decide) (by decide)
 . exact e _ _ _ _ (by decide) (by decide) (by decide) (by decide)
 . exact e _ _ _ _ (by decide) (by decide) (by decide) (by decide)
theorem zoi (s:ByteArray) (x:Ex) (hp:CallsD Gs prog 71 [.one (cS s)] (parR x)) (hx:x.Sm):CallsD Gs prog 32 [.one (cS s)] (afR (affF x ss19 ms19)):=by
 have ho:CallsD Gs prog 10 [.agg (exC x),.one (.sl 6 [cS ⟨⟨[97]⟩⟩::afX (iq 0) (iq 1) (iq 0),cS ⟨⟨[98]⟩⟩::afX (iq 0) (iq 0) (iq 1),cS ⟨⟨[99]⟩⟩::afX (iq 4) (iq 0) (iq 0)]),.one (.sl 3 [[cS ⟨⟨[103,114,105,100]⟩⟩,cS ⟨⟨[]⟩⟩,.sl 2 [[cI 0,cI 10],[cI 5,cI 20]]]])] (afR (affF x ss19 ms19)):=
  v0f (Γ:=Gs) (B:=4300) (by decide) (by decide) x ss19 ms19 hx (by decide) (by decide) (by decide) (fun s h=>(xdb s h).1) (fun s h=>(xdb s h).2) (fun t ht=>by
   cases List.mem_singleton.1 ht
   exact ⟨by decide,by decide,by decide⟩)
 have f1:=voq 0 1 0 (by decide) (by decide) (by decide);have f2:=voq 0 0 1 (by decide) (by decide) (by decide);have f3:=voq 4 0 0 (by decide) (by decide) (by decide);generalize affF x ss19 ms19=r at ho;obtain ⟨⟨t,i,v,l⟩,e⟩:=r;refine CallsD.run [] Go.Proofs.Tryz.func32 rfl rfl rfl ?_;simp only [Go.Proofs.Tryz.f32];refine hgR ?_
 repeat' ((first | refine hfk ?_ ?_<;>intros | refine hik ?_ | with_reducible first | refine wml (f1) ?_ | refine ysj (f1) ?_ | refine wml (f2) ?_ | refine ysj (f2) ?_ | refine wml (f3) ?_ | refine ysj (f3) ?_ | refine wml (hp) ?_ | refine ysj (hp) ?_ | refine wml (ho) ?_ | refine ysj (ho) ?_)<;>refine hgS ?_)
 all_goals refine lfE ?_;first | exact trivial | rfl
mutual
def Ex.smB:Ex->Bool
 | .mk _ _ u s l=>Nat.ble l.length 1073741824&&Nat.ble u.size 1073741824&&Nat.ble s.size 1073741824&&Ex.smBL l
def Ex.smBL:List Ex->Bool
 | []=>true
 | x::l=>Ex.smB x&&Ex.smBL l
end
theorem Ex.zxs:∀ l:List Ex,Ex.smBL l=l.all Ex.smB
 | []=>by rw [Ex.smBL];rfl
 | x::l=>by rw [Ex.smBL,Ex.zxs l];rfl
theorem Ex.Sm.of:∀ x:Ex,x.smB=true->x.Sm:=by
 refine Ex.ind ?_;intro x ih h
 cases x with
 | mk o n u s l=>
  rw [Ex.smB,Ex.zxs] at h;simp only [Bool.and_eq_true,Nat.ble_eq,List.all_eq_true] at h;obtain ⟨⟨⟨h1,h2⟩,h3⟩,h4⟩:=h;exact .mk _ h1 h2 h3 (fun y hy=>ih y hy (h4 y hy))
def zi9 (a b:Th×Int):Bool:=a.1.t==b.1.t&&a.1.i==b.1.i&&decide (a.1.c.map (·.num)=b.1.c.map (·.num))&&decide (a.1.c.map (·.den)=b.1.c.map (·.den))&&decide (a.1.l.map (·.num)=b.1.l.map (·.num))&&decide (a.1.l.map (·.den)=b.1.l.map (·.den))&&decide (a.2=b.2)
theorem wfu:∀{l m:List Rat},l.map (·.num)=m.map (·.num)->l.map (·.den)=m.map (·.den)->l=m
 | [],[],_,_=>rfl
 | [],_::_,h,_=>by cases h
 | _::_,[],h,_=>by cases h
 | x::l,y::m,h,k=>by
  simp only [List.map_cons,List.cons.injEq] at h k;rw [Rat.ext h.1 k.1,wfu h.2 k.2]
theorem vdn {a b:Th×Int} (h:zi9 a b=true):a=b:=by
 obtain ⟨⟨t,i,v,l⟩,e⟩:=a;obtain ⟨⟨t',i',v',l'⟩,e'⟩:=b;unfold zi9 at h;simp only [Bool.and_eq_true,beq_iff_eq,decide_eq_true_eq] at h;obtain ⟨⟨⟨⟨⟨⟨rfl,rfl⟩,h1⟩,h2⟩,h3⟩,h4⟩,rfl⟩:=h
 have:v=v':=by
  cases v<;>cases v'<;>simp at h1 h2
  . rfl
  . rw [Rat.ext h1 h2]
 rw [this,wfu h3 h4]
theorem on0:CallsD Gs prog 32 [.one (cS ⟨⟨[40,50,32,42,32,97,41,32,43,32,40,98,32,47,32,99,41]⟩⟩)] (afR (⟨false,false,some 0,[2,Rat.divInt 1 4]⟩,0)):=by
 have h:=zoi ⟨⟨sx0⟩⟩ ex0 par0 (Ex.Sm.of _ (by kernel_rfl));rw [show affF ex0 ss19 ms19=(⟨false,false,some 0,[2,Rat.divInt 1 4]⟩,0) from vdn (by kernel_rfl)] at h;exact h
theorem on1:CallsD Gs prog 32 [.one (cS ⟨⟨[40,97,32,45,32,51,41,32,42,32,108,111,111,107,40,103,114,105,100,44,32,99,32,43,32,50,41]⟩⟩)] (afR (⟨false,false,some (((-60:Int):Rat)),[((20:Int):Rat),((0:Int):Rat)]⟩,0)):=by
 have h:=zoi ⟨⟨sx1⟩⟩ ex1 par1 (Ex.Sm.of _ (by kernel_rfl));rw [show affF ex1 ss19 ms19=(⟨false,false,some (((-60:Int):Rat)),[((20:Int):Rat),((0:Int):Rat)]⟩,0) from vdn (by kernel_rfl)] at h;exact h
theorem on2:CallsD Gs prog 32 [.one (cS ⟨⟨[105,102,32,40,99,32,60,32,53,41,32,116,104,101,110,32,97,32,101,108,115,101,32,40,97,32,42,32,98,41]⟩⟩)] (afR (⟨false,false,some (((0:Int):Rat)),[((1:Int):Rat),((0:Int):Rat)]⟩,0)):=by
 have h:=zoi ⟨⟨sx2⟩⟩ ex2 par2 (Ex.Sm.of _ (by kernel_rfl));rw [show affF ex2 ss19 ms19=(⟨false,false,some (((0:Int):Rat)),[((1:Int):Rat),((0:Int):Rat)]⟩,0) from vdn (by kernel_rfl)] at h;exact h
theorem on3:CallsD Gs prog 32 [.one (cS ⟨⟨[97,32,47,32,40,99,32,45,32,52,41]⟩⟩)] (afR (Th.zero,15)):=by
 have h:=zoi ⟨⟨sx3⟩⟩ ex3 par3 (Ex.Sm.of _ (by kernel_rfl));rw [show affF ex3 ss19 ms19=(Th.zero,15) from vdn (by kernel_rfl)] at h;exact h
theorem on4:CallsD Gs prog 32 [.one (cS ⟨⟨[108,111,111,107,40,103,114,105,100,44,32,48,32,45,32,99,41]⟩⟩)] (afR (Th.zero,4)):=by
 have h:=zoi ⟨⟨sx4⟩⟩ ex4 par4 (Ex.Sm.of _ (by kernel_rfl));rw [show affF ex4 ss19 ms19=(Th.zero,4) from vdn (by kernel_rfl)] at h;exact h
theorem on5:CallsD Gs prog 32 [.one (cS ⟨⟨[97,32,42,32,98]⟩⟩)] (afR (Th.zero,13)):=by
 have h:=zoi ⟨⟨sx5⟩⟩ ex5 par5 (Ex.Sm.of _ (by kernel_rfl));rw [show affF ex5 ss19 ms19=(Th.zero,13) from vdn (by kernel_rfl)] at h;exact h
theorem on6:CallsD Gs prog 32 [.one (cS ⟨⟨[49,32,47,32,97]⟩⟩)] (afR (Th.zero,13)):=by
 have h:=zoi ⟨⟨sx6⟩⟩ ex6 par6 (Ex.Sm.of _ (by kernel_rfl));rw [show affF ex6 ss19 ms19=(Th.zero,13) from vdn (by kernel_rfl)] at h;exact h
theorem on7:CallsD Gs prog 32 [.one (cS ⟨⟨[109,105,110,40,97,44,32,49,41]⟩⟩)] (afR (Th.zero,13)):=by
 have h:=zoi ⟨⟨sx7⟩⟩ ex7 par7 (Ex.Sm.of _ (by kernel_rfl));rw [show affF ex7 ss19 ms19=(Th.zero,13) from vdn (by kernel_rfl)] at h;exact h
theorem on8:CallsD Gs prog 32 [.one (cS ⟨⟨[97,32,60,32,49]⟩⟩)] (afR (Th.zero,13)):=by
 have h:=zoi ⟨⟨sx8⟩⟩ ex8 par8 (Ex.Sm.of _ (by kernel_rfl));rw [show affF ex8 ss19 ms19=(Th.zero,13) from vdn (by kernel_rfl)] at h;exact h
theorem on9:CallsD Gs prog 32 [.one (cS ⟨⟨[108,111,111,107,40,103,114,105,100,44,32,97,41]⟩⟩)] (afR (Th.zero,13)):=by
 have h:=zoi ⟨⟨sx9⟩⟩ ex9 par9 (Ex.Sm.of _ (by kernel_rfl));rw [show affF ex9 ss19 ms19=(Th.zero,13) from vdn (by kernel_rfl)] at h;exact h
theorem on10:CallsD Gs prog 32 [.one (cS ⟨⟨[99,32,60,32,53]⟩⟩)] (afR (Th.zero,13)):=by
 have h:=zoi ⟨⟨sx10⟩⟩ ex10 ycv (Ex.Sm.of _ (by kernel_rfl));rw [show affF ex10 ss19 ms19=(Th.zero,13) from vdn (by kernel_rfl)] at h;exact h
end Go.Hp.T
namespace Go.Hp.T
open Go Go.RowKit Go.Slot Go.Hp Go.Slot.T
open Go.Proofs.Tryz (prog)
set_option maxRecDepth 100000
set_option maxHeartbeats 8000000
variable {Γ:List (Nat×List Cell)}
theorem xg8:CallsD Gs prog 8 [] (.one (cB true)):=by
 have q1:CallsD Gs prog 33 [.one (cI 1),.one (cI 4)] (qR (some (Rat.divInt 1 4)) 0):=qOf 1 4 (by decide) (by decide) (by decide)
 have sq:∀ q:Rat,qs q<=67108864->CallsD Gs prog 22 [.agg (qC (some q)),.agg (qC (some q))] (.one (cB true)):=fun q h=>by
  have:=xb9 (Γ:=Gs) (Fc.of q) (Fc.of q) h h
  rw [decide_eq_true rfl] at this;exact this
 have z:∀ n:Int,inI n->qs (iq n)<=67108864:=fun n h=>Nat.le_trans (show qs (iq n)<=4 from x10 h) (by decide)
 have s1:=sq (Rat.divInt 1 4) (by
  show max (dig (Rat.divInt 1 4).num.natAbs).length (dig (Rat.divInt 1 4).den).length<=67108864
  exact Nat.max_le.2 ⟨Nat.le_trans (y6j (of_decide_eq_true (by kernel_rfl))) (by decide),Nat.le_trans (y6j (of_decide_eq_true (by kernel_rfl))) (by decide)⟩)
 have s2:=sq (iq 2) (z 2 (by decide))
 have sA:∀(k a b:Rat),qs k<=67108864->qs a<=67108864->qs b<=67108864->CallsD Gs prog 15 [.agg (afX k a b),.agg (afX k a b)] (.one (cB true)):=fun k a b hk ha hb=>by
  have hz:(Af.of k [a,b]).le 67108864:=⟨hk,zf5 (fun q hq=>by
   simp only [List.mem_cons,List.not_mem_nil,or_false] at hq
   rcases hq with rfl | rfl<;>assumption)⟩
  have:=z4n (Γ:=Gs) (Af.of k [a,b]) (Af.of k [a,b]) (by show 2<=1048576;decide) (by show 2<=1048576;decide) hz hz
  rw [decide_eq_true rfl,y6w] at this;exact this
 have s3:=sA (iq (-60)) (iq 20) (iq 0) (z _ (by decide)) (z _ (by decide)) (z _ (by decide));have s4:=sA (iq 0) (iq 1) (iq 0) (z _ (by decide)) (z _ (by decide)) (z _ (by decide));have i2:=oInt (Γ:=Gs) 2 (by decide);have f1:=voq (-60) 20 0 (by decide) (by decide) (by decide);have f2:=voq 0 1 0 (by decide) (by decide) (by decide);refine CallsD.run [] Go.Proofs.Tryz.func8 rfl rfl rfl ?_;simp only [Go.Proofs.Tryz.f8];refine hgR ?_
 repeat' ((first | refine hfk ?_ ?_<;>intros | refine hik ?_ | with_reducible refine v6k ?_ | with_reducible refine yp8 ?_ | with_reducible first | refine wml (on0) ?_ | refine ysj (on0) ?_ | refine wml (on1) ?_ | refine ysj (on1) ?_ | refine wml (on2) ?_ | refine ysj (on2) ?_ | refine wml (on3) ?_ | refine ysj (on3) ?_ | refine wml (on4) ?_ | refine ysj (on4) ?_ | refine wml (on5) ?_ | refine ysj (on5) ?_ | refine wml (on6) ?_ | refine ysj (on6) ?_ | refine wml (on7) ?_ | refine ysj (on7) ?_ | refine wml (on8) ?_ | refine ysj (on8) ?_ | refine wml (on9) ?_ | refine ysj (on9) ?_ | refine wml (on10) ?_ | refine ysj (on10) ?_ | refine wml (q1) ?_ | refine ysj (q1) ?_ | refine wml (i2) ?_ | refine ysj (i2) ?_ | refine wml (f1) ?_ | refine ysj (f1) ?_ | refine wml (f2) ?_ | refine ysj (f2) ?_ | refine wml (s1) ?_ | refine ysj (s1) ?_ | refine wml (s2) ?_ | refine ysj (s2) ?_ | refine wml (s3) ?_ | refine ysj (s3) ?_ | refine wml (s4) ?_ | refine ysj (s4) ?_)<;>refine hgS ?_)
 all_goals first
  | (exfalso;omega)
  | refine lfE ?_;first | exact trivial | rfl
end Go.Hp.T
namespace Go.Hp.T
open Go Go.RowKit Go.Slot Go.Hp Go.Slot.T
open Go.Proofs.Tryz (prog)
set_option maxRecDepth 10000
set_option maxHeartbeats 4000000
variable {Γ:List (Nat×List Cell)}
variable {x:Ex} {ss:List Sl} {ms:List Tb}
structure Ar19 (x:Ex) (ss:List Sl) (ms:List Tb):Prop where
 x:x.Sm
 s:ss.length<=1048576
 m:ms.length<=1048576
 ss:∀ s∈ss,s.name.size<=1073741824/\AfS s.f
 ms:∀ t∈ms,t.Sm
theorem Ar19.few (h:Ar19 x ss ms):CallsD Γ prog 9 [.agg (exC x),.one (.sl 6 (ss.map Sl.C)),.one (.sl 3 (ms.map Tb.C))] (.one (cB (yw7 x ss ms))):=
 zt1 x h.x ss ms (by have:=h.s;omega) (fun s hs=>(h.ss s hs).2) (by have:=h.m;omega)
theorem wl2 (h:yw7 x ss ms=true):ss.length<=6/\∀ s∈ss,s.f.l.length<=6/\s.f.le 4:=by
 unfold yw7 at h;simp only [Bool.and_eq_true,decide_eq_true_eq] at h
 have hl:ss.length<=6:=by omega
 refine ⟨hl,fun s hs=>?_⟩;have h1:=h.1;rw [List.take_of_length_le (by omega),List.all_eq_true] at h1
 have:=h1 s hs
 simp only [Bool.and_eq_true,decide_eq_true_eq] at this;exact this.2
theorem vwh {n:Nat} (h:∀ s∈ss,s.f.l.length<=n):nOf ss<=n:=by
 cases ss with
 | nil=>exact Nat.zero_le _
 | cons s l=>exact h s (by simp)
theorem x8q {s:Sl} {n B:Nat} (h:s.f.le n) (hB:n+10<=B):s.sm B:=⟨by have:=h.1;omega,fun f hf=>by have:=h.2 f hf;omega⟩
theorem xtn (x:Ex) (ss:List Sl) (ms:List Tb) (hx:x.Sm) (hl:ss.length<=6) (hm:ms.length<=1048576) (hs:∀ s∈ss,s.name.size<=1073741824/\s.f.l.length<=6/\s.f.le 4) (hms:∀ t∈ms,t.Sm) :
 CallsD Γ prog 10 [.agg (exC x),.one (.sl 6 (ss.map Sl.C)),.one (.sl 3 (ms.map Tb.C))] (afR (affF x ss ms)):=
 v0f (B:=4300) (by decide) (by decide) x ss ms hx (vwh fun s h=>(hs s h).2.1) (by omega) (by omega) (fun s h=>⟨(hs s h).1,by have:=(hs s h).2.1;omega,Nat.le_trans (hs s h).2.2.1 (by decide),fun f hf=>Nat.le_trans ((hs s h).2.2.2 f hf) (by decide)⟩) (fun s h=>x8q (hs s h).2.2 (by decide)) hms
theorem Ar19.of (h:Ar19 x ss ms) (hf:yw7 x ss ms=true):CallsD Γ prog 10 [.agg (exC x),.one (.sl 6 (ss.map Sl.C)),.one (.sl 3 (ms.map Tb.C))] (afR (affF x ss ms)):=
 xtn x ss ms h.x (wl2 hf).1 h.m (fun s hs=>⟨(h.ss s hs).1,(wl2 hf).2 s hs⟩) h.ms
theorem w9s (hs:∀ s∈ss,s.f.l.length<=6/\s.f.le 4) (h:(affF x ss ms).2=0):(affF x ss ms).1.t=false/\(affF x ss ms).1.G (nOf ss) 860000:=by
 generalize hr:affF x ss ms=r at h ⊢;obtain ⟨r,e⟩:=r;simp only at h;subst h;obtain ⟨k1,k2,V,T,he,ha,ht⟩:=v57 hr;have hV:=zd4 (B:=4300) he (fun s hm=>x8q (hs s hm).2 (by decide));have hG:=xni (T:=T) (by decide) hV x (yvx k1) k2 (by rw [ha]);rw [ha] at hG;have hnd:=zvr k1;exact ⟨ht,hG.mono (by have:=Nat.mul_le_mul_left 4300 hnd;omega)⟩
end Go.Hp.T
namespace Go.Hp.T
open Go Go.RowKit Go.Slot Go.Hp Go.Slot.T
set_option maxRecDepth 10000
set_option maxHeartbeats 4000000
end Go.Hp.T
namespace Go.Hp.T
open Go Go.RowKit Go.Slot Go.Hp Go.Slot.T
open Go.Proofs.Tryz (prog)
set_option maxRecDepth 100000
set_option maxHeartbeats 8000000
attribute [local irreducible] hide
end Go.Hp.T
namespace Go.Hp.T
open Go Go.RowKit Go.Slot Go.Hp Go.Slot.T
open Go.Proofs.Tryz (prog)
set_option maxRecDepth 10000
set_option maxHeartbeats 4000000
variable {Γ:List (Nat×List Cell)}
abbrev scB:SB:=.box [.mp 1,.mp 2] (some 97)
theorem z3l (V:Vq) (T:Vt) (s:ByteArray) (hs:s.size<=1073741824) (a c d:SB):xpp Γ prog 103 [a,mQ V,mB T,scB,c,d] [.one (.dat (cS s)),.one (.ptr 3 0)] [a,mQ V,mB T,scB,c,d] (.one (.dat (cB (!((z2f V s).isSome||(z2f T s).isSome||!isName s||isWord s))))):=by
 cases h1:z2f V s with
 | none=>cases h2:z2f T s with
  | none=>
   refine xpp.run [] Go.Proofs.Tryz.func103 rfl rfl ?_;simp only [Go.Proofs.Tryz.f103];refine hgR ?_;refine hg2 @h1 @h2 ?_
   repeat' ((first | refine hfk ?_ ?_<;>intros | refine hik ?_ | with_reducible first | refine wml (vfk s (by omega)) ?_ | refine ysj (vfk s (by omega)) ?_ | refine wml (yko s) ?_ | refine ysj (yko s) ?_)<;>refine hgS ?_)
   all_goals exact StH.vzq rfl (by kernel_rfl) (by (((conv=>simp only [Bool.and_true,Bool.true_and,Bool.and_false,Bool.false_and,Bool.or_true,Bool.true_or,Bool.or_false,Bool.false_or,Bool.not_true,Bool.not_false,decide_true,decide_false,not_true_eq_false,not_false_eq_true,wiu,if_true,if_false,Bool.and_self,Bool.or_self,cond_true,cond_false,List.length_map,ne_eq,Int.reduceEq,Int.reduceLT,Int.reduceLE, *,h1,h2,Option.isSome])<;>try exact trivial))<;>first | rfl | trivial)
  | some t=>
   refine xpp.run [] Go.Proofs.Tryz.func103 rfl rfl ?_;simp only [Go.Proofs.Tryz.f103];refine hgR ?_;refine hg2 @h1 @h2 ?_
   repeat' ((first | refine hfk ?_ ?_<;>intros | refine hik ?_ | with_reducible first | refine wml (vfk s (by omega)) ?_ | refine ysj (vfk s (by omega)) ?_ | refine wml (yko s) ?_ | refine ysj (yko s) ?_)<;>refine hgS ?_)
   all_goals exact StH.vzq rfl (by kernel_rfl) (by (((conv=>simp only [Bool.and_true,Bool.true_and,Bool.and_false,Bool.false_and,Bool.or_true,Bool.true_or,Bool.or_false,Bool.false_or,Bool.not_true,Bool.not_false,decide_true,decide_false,not_true_eq_false,not_false_eq_true,wiu,if_true,if_false,Bool.and_self,Bool.or_self,cond_true,cond_false,List.length_map,ne_eq,Int.reduceEq,Int.reduceLT,Int.reduceLE, *,h1,h2,Option.isSome])<;>try exact trivial))<;>first | rfl | trivial)
 | some q=>cases h2:z2f T s with
  | none=>
   refine xpp.run [] Go.Proofs.Tryz.func103 rfl rfl ?_;simp only [Go.Proofs.Tryz.f103];refine hgR ?_;refine hg2 @h1 @h2 ?_
   repeat' ((first | refine hfk ?_ ?_<;>intros | refine hik ?_ | with_reducible first | refine wml (vfk s (by omega)) ?_ | refine ysj (vfk s (by omega)) ?_ | refine wml (yko s) ?_ | refine ysj (yko s) ?_)<;>refine hgS ?_)
   all_goals exact StH.vzq rfl (by kernel_rfl) (by (((conv=>simp only [Bool.and_true,Bool.true_and,Bool.and_false,Bool.false_and,Bool.or_true,Bool.true_or,Bool.or_false,Bool.false_or,Bool.not_true,Bool.not_false,decide_true,decide_false,not_true_eq_false,not_false_eq_true,wiu,if_true,if_false,Bool.and_self,Bool.or_self,cond_true,cond_false,List.length_map,ne_eq,Int.reduceEq,Int.reduceLT,Int.reduceLE, *,h1,h2,Option.isSome])<;>try exact trivial))<;>first | rfl | trivial)
  | some t=>
   refine xpp.run [] Go.Proofs.Tryz.func103 rfl rfl ?_;simp only [Go.Proofs.Tryz.f103];refine hgR ?_;refine hg2 @h1 @h2 ?_
   repeat' ((first | refine hfk ?_ ?_<;>intros | refine hik ?_ | with_reducible first | refine wml (vfk s (by omega)) ?_ | refine ysj (vfk s (by omega)) ?_ | refine wml (yko s) ?_ | refine ysj (yko s) ?_)<;>refine hgS ?_)
   all_goals exact StH.vzq rfl (by kernel_rfl) (by (((conv=>simp only [Bool.and_true,Bool.true_and,Bool.and_false,Bool.false_and,Bool.or_true,Bool.true_or,Bool.or_false,Bool.false_or,Bool.not_true,Bool.not_false,decide_true,decide_false,not_true_eq_false,not_false_eq_true,wiu,if_true,if_false,Bool.and_self,Bool.or_self,cond_true,cond_false,List.length_map,ne_eq,Int.reduceEq,Int.reduceLT,Int.reduceLE, *,h1,h2,Option.isSome])<;>try exact trivial))<;>first | rfl | trivial)
theorem wv3 (V:Vq) (T:Vt) (x:Ex) (hl:3<=x.args.length) (hl2:x.args.length<=1073741824)
 (h:∀ i,i<3->xpp Γ prog 59 [mQ V,mB T] [.agg [.mp 0,.mp 1],.agg ((exC (x.args.getD i default)).map .dat)] [mQ V,mB T] (rsS ((x.args.getD i default).cal V T))) :
 xpp Γ prog 106 [mQ V,mB T] [.agg [.mp 0,.mp 1],.agg ((exC x).map .dat)] [mQ V,mB T] (rsS (chV (x.args.map (Ex.cal V T)))):=by
 have h0:=h 0 (by decide);have h1:=h 1 (by decide);have h2:=h 2 (by decide);clear h
 have e:chV (x.args.map (Ex.cal V T))=bif decide (¬((x.args.getD 0 default).cal V T).2=0) then (Rs.zero,((x.args.getD 0 default).cal V T).2) else bif !((x.args.getD 0 default).cal V T).1.t then (Rs.zero,13) else bif ((x.args.getD 0 default).cal V T).1.i then (x.args.getD 1 default).cal V T else (x.args.getD 2 default).cal V T:=by
  unfold chV;rw [getD_map (show 0<x.args.length by omega),getD_map (show 1<x.args.length by omega),getD_map (show 2<x.args.length by omega)]
 rw [e];generalize (x.args.getD 0 default).cal V T=r0 at h0;generalize (x.args.getD 1 default).cal V T=r1 at h1;generalize (x.args.getD 2 default).cal V T=r2 at h2;obtain ⟨⟨t0,i0,v0⟩,e0⟩:=r0;simp only at h0 ⊢;refine xpp.run [] Go.Proofs.Tryz.func106 rfl rfl ?_;simp only [Go.Proofs.Tryz.f106];refine hgR ?_;refine hg ?_;refine xhw 2 (fun ξ=>xpp.pre h0 (zcx V T) rfl rfl) rfl rfl ?_;clear h0;refine hg ?_
 repeat' ((first | refine hfk ?_ ?_<;>intros | refine hik ?_)<;>refine hgS ?_)
 . exact StH.yaz rfl (by kernel_rfl) rfl rfl
 . exact StH.yaz rfl (by kernel_rfl) rfl rfl
 . refine xhw 2 (fun ξ=>xpp.pre h1 (zcx V T) rfl rfl) rfl rfl ?_;refine hg ?_
   repeat' ((first | refine hfk ?_ ?_<;>intros | refine hik ?_)<;>refine hgS ?_)
   exact StH.vzq rfl (by kernel_rfl) rfl
 . refine xhw 2 (fun ξ=>xpp.pre h2 (zcx V T) rfl rfl) rfl rfl ?_;refine hg ?_
   repeat' ((first | refine hfk ?_ ?_<;>intros | refine hik ?_)<;>refine hgS ?_)
   exact StH.vzq rfl (by kernel_rfl) rfl
theorem xr1 {B:Nat} (hB:4300<=B) (V:Vq) (T:Vt) (hV:Vsm B V) (hT:∀ s t,z2f T s=some t->t.Sm/\tbOk t=true):∀ x:Ex,x.Sm->x.shaped=true->x.wqm=false->B*x.nd<=67108864->xpp Γ prog 59 [mQ V,mB T] [.agg [.mp 0,.mp 1],.agg ((exC x).map .dat)] [mQ V,mB T] (rsS (x.cal V T)):=by
 refine Ex.ind (fun x ih hx hsh hcl hnd=>?_);have hl:=hx.len;have hu:=hx.u;have hcal:=Ex.yre V T x
 have hnode:xer x=true:=by rw [Ex.ypb,Bool.and_eq_true] at hsh;exact hsh.1
 have hargs:∀ y∈x.args,y.shaped=true:=by rw [Ex.ypb,Bool.and_eq_true,List.all_eq_true] at hsh;exact hsh.2
 have hcalls:x.op≠3/\∀ y∈x.args,y.wqm=false:=by
  rw [Ex.xrx,Bool.or_eq_false_iff,decide_eq_false_iff_not,List.any_eq_false] at hcl;exact ⟨hcl.1,fun y hy=>by simpa using hcl.2 y hy⟩
 have hnds:∀ y∈x.args,B*y.nd<=67108864:=fun y hy=>Nat.le_trans (Nat.mul_le_mul_left _ (by have:=Ex.xka hy;have:=Ex.xk0 x;omega)) hnd
 by_cases h0:x.op=0
 . rw [decide_eq_true h0,cond_true] at hcal;have hn:=xsm hnode h0
   have hin:inI x.n:=by unfold inI;omega
   have hz:=x10 hin;have ho:=oInt (Γ:=Γ) x.n hin;rw [hcal]
   rcases veq x.unit with ⟨u,h,hq⟩ | ⟨e,he,h⟩
   . have hr:=xyv (Γ:=Γ) hu h
     have e1:xoq x.n x.unit=numV (mulO (some (x.n:Rat)) (some u.f)) (erO (some (x.n:Rat)) (some u.f)):=by unfold xoq facO;rw [h];rfl
     have hm:=oMul (Γ:=Γ) (some (x.n:Rat)) (some u.f) (by omega) (by show qs u.f<=_;omega);rw [e1];refine xpp.run [] Go.Proofs.Tryz.func59 rfl rfl ?_;simp only [Go.Proofs.Tryz.f59];refine hgR ?_
     repeat' ((first | refine hfk ?_ ?_<;>intros | refine hik ?_ | with_reducible first | refine wml (hr) ?_ | refine ysj (hr) ?_ | refine wml (ho) ?_ | refine ysj (ho) ?_ | refine wml (hm) ?_ | refine ysj (hm) ?_ | refine wml (x7x _ _) ?_ | refine ysj (x7x _ _) ?_)<;>refine hgS ?_)
     all_goals first
      | (exfalso;omega)
      | exact StH.vzq rfl (by kernel_rfl) rfl
   . have hr:=xmw (Γ:=Γ) x.unit hu;rw [h] at hr
     have e1:xoq x.n x.unit=(⟨false,false,none⟩,14):=by unfold xoq;rw [h];simp only [decide_eq_true he,cond_true];rfl
     rw [e1];refine xpp.run [] Go.Proofs.Tryz.func59 rfl rfl ?_;simp only [Go.Proofs.Tryz.f59];refine hgR ?_
     repeat' ((first | refine hfk ?_ ?_<;>intros | refine hik ?_ | with_reducible first | refine wml (hr) ?_ | refine ysj (hr) ?_)<;>refine hgS ?_)
     all_goals first
      | (exfalso;omega)
      | exact StH.yaz rfl (by kernel_rfl) rfl rfl
 rw [decide_eq_false h0,cond_false] at hcal;by_cases h1:x.op=1
 . rw [decide_eq_true h1,cond_true] at hcal;rw [hcal];unfold y21
   cases hlk:z2f V x.name with
   | none=>
    show xpp _ _ _ _ _ _ (rsS (⟨false,false,none⟩,11));refine xpp.run [] Go.Proofs.Tryz.func59 rfl rfl ?_;simp only [Go.Proofs.Tryz.f59];refine hgR ?_
    repeat' ((first | refine hfk ?_ ?_<;>intros | refine hik ?_)<;>refine hgS ?_)
    all_goals try (exfalso;omega)
    refine hg1 @hlk ?_
    repeat' ((first | refine hfk ?_ ?_<;>intros | refine hik ?_)<;>refine hgS ?_)
    all_goals first
     | (exfalso;omega)
     | exact StH.yaz rfl (by kernel_rfl) rfl rfl
   | some q=>
    have hq:=hV _ _ hlk;have ho:=oInt (Γ:=Γ) 0 (by decide);have hz:=x10 (n:=0) (by decide);have ha:=oAdd (Γ:=Γ) (some q) (some ((0:Int):Rat)) (by show qs q<=_;have:=Ex.xk0 x;have:B<=B*x.nd:=Nat.le_mul_of_pos_right _ (by omega);omega) (by omega);show xpp _ _ _ _ _ _ (rsS (numV (addO (some q) (some ((0:Int):Rat))) 0));refine xpp.run [] Go.Proofs.Tryz.func59 rfl rfl ?_;simp only [Go.Proofs.Tryz.f59];refine hgR ?_
    repeat' ((first | refine hfk ?_ ?_<;>intros | refine hik ?_)<;>refine hgS ?_)
    all_goals try (exfalso;omega)
    refine hg1 @hlk ?_
    repeat' ((first | refine hfk ?_ ?_<;>intros | refine hik ?_ | with_reducible first | refine wml (ho) ?_ | refine ysj (ho) ?_ | refine wml (ha) ?_ | refine ysj (ha) ?_ | refine wml (x7x _ _) ?_ | refine ysj (x7x _ _) ?_)<;>refine hgS ?_)
    all_goals first
     | (exfalso;omega)
     | exact StH.vzq rfl (by kernel_rfl) rfl
 rw [decide_eq_false h1,cond_false] at hcal
 have hne:x.args.length≠0:=fun h=>by
  unfold xer at hnode;rw [decide_eq_false h0,decide_eq_false h1,h] at hnode;simp at hnode
 obtain ⟨hl2,hl3⟩:=zd3 hnode hcalls.1 hne;by_cases h5:x.op=5
 . rw [decide_eq_true h5,cond_true] at hcal;rw [hcal];have hl3':=hl3 h5
   have hch:=wv3 (Γ:=Γ) V T x hl3' hl (fun i hi=>by
    have hm:=y7p (show i<x.args.length by omega)
    exact ih _ hm (hx.arg _ hm) (hargs _ hm) (hcalls.2 _ hm) (hnds _ hm))
   refine xpp.run [] Go.Proofs.Tryz.func59 rfl rfl ?_;simp only [Go.Proofs.Tryz.f59];refine hgR ?_
   repeat' ((first | refine hfk ?_ ?_<;>intros | refine hik ?_)<;>refine hgS ?_)
   all_goals try (exfalso;omega)
   rw [show cI 5=cI x.op by rw [h5]];refine x6x (xpp.pre hch (zcx V T) rfl rfl) ?_;refine hg ?_;exact StH.vzq rfl (by kernel_rfl) rfl
 rw [decide_eq_false h5,cond_false] at hcal
 have hqz:∀ y∈x.args,qz (y.cal V T).1.v<=67108864:=fun y hy=>Nat.le_trans (zau hB hV y (hargs y hy) (hcalls.2 y hy)) (hnds y hy)
 rw [hcal];clear hcal hu hnd hV;generalize hS:seqV (x.args.map (Ex.cal V T))=S;refine xpp.run [] Go.Proofs.Tryz.func59 rfl rfl ?_;simp only [Go.Proofs.Tryz.f59];refine hgR ?_
 repeat' ((first | refine hfk ?_ ?_<;>intros | refine hik ?_)<;>refine hgS ?_)
 all_goals try (exfalso;omega)
 refine x20 [2,3,4,68,69] (fun p:Nat×List Rs=>[(10,.one (.sl 5 6 0 p.2.length)),(70,.one (.dat (cI p.1)))])
  (fun p=>[mQ V,mB T,.box [.mp 0,.mp 1] (some 97),.box ((exC x).map .dat) (some 24),.box ((rsZ false false).map .dat) (some 61),.arr (.sl 6 (p.2.map Rs.C)) 0 (some 61)])
  (fun p=>p.1<=x.args.length/\p.2.length=p.1/\(∀ r∈p.2,qz r.v<=67108864)/\S=match seqV ((x.args.drop p.1).map (Ex.cal V T)) with
    | .inl e=>.inl e
    | .inr r=>.inr (p.2++r)) (fun p=>x.args.length-p.1) (0,[]) ⟨Nat.zero_le _,rfl,fun r hr=>(by cases hr),by simp only [List.drop_zero,List.nil_append];rw [hS];cases S<;>rfl⟩ ?_ ?_
 . refine hg ?_;refine StH.trans (StH.empty (d:=10) (es:=6) (c:=.sl 6 []) (T:=some 61) rfl rfl (fun r hr=>by cases hr) rfl) ?_;refine hg ?_;exact StH.same svl rfl
 clear hS;rintro ⟨i,rs⟩ ⟨q1,q2,q3,q4⟩;simp only at q1 q2 q3 q4;refine hg ?_;refine vt2 (fun hlt _=>?_) (fun hlt _=>?_)
 . have hlt':i<x.args.length:=by omega
   have hy:=y7p hlt';rw [xfc hlt',List.map_cons] at q4;have hqy:=hqz _ hy;refine hg ?_;refine x6x (xpp.pre (ih _ hy (hx.arg _ hy) (hargs _ hy) (hcalls.2 _ hy) (hnds _ hy)) (zcx V T) rfl rfl) ?_;generalize hr:Ex.cal V T (x.args.getD i default)=r at q4 hqy ⊢;obtain ⟨t,e⟩:=r;rw [seqV] at q4;simp only at q4 hqy;refine hg ?_;refine vt2 (fun he hd=>?_) (fun he hd=>?_)
   . refine hg ?_
     have q4':S=.inl e:=by rw [q4,show decide (¬e=0)=true from hd];rfl
     rw [q4'];exact StH.yaz rfl (by kernel_rfl) rfl rfl
   . refine hg ?_;rw [show decide (¬e=0)=false from hd,cond_false] at q4
     have q4':S=match seqV ((x.args.drop (i+1)).map (Ex.cal V T)) with
      | .inl e=>.inl e
      | .inr r=>.inr ((rs++[t])++r):=by
      rw [q4]
      cases seqV ((x.args.drop (i+1)).map (Ex.cal V T)) with
      | inl e=>rfl
      | inr r=>simp only [List.append_assoc,List.singleton_append]
     have hmap:rs.map Rs.C++[rsC t]=(rs++[t]).map Rs.C:=by simp;rfl
     rw [hmap]
     refine ⟨(i+1,rs++[t]),⟨by dsimp only;omega,by dsimp only;rw [List.length_append,List.length_singleton,q2],fun r hr'=>by
      rcases List.mem_append.1 hr' with h | h
      . exact q3 r h
      . rw [List.mem_singleton.1 h];exact hqy,q4'⟩,by dsimp only;omega,?_⟩
     refine StH.z04 [2,3,4,10,68,69,70] 5 8 6 rfl rfl rfl rfl rfl rfl rfl (by kernel_rfl) ?_;refine hg ?_;exact StH.same svl rfl
 . have q4':S=.inr rs:=by rw [q4,List.drop_eq_nil_of_le (by omega)];show (match seqV [] with | .inl e=>Sum.inl e | .inr r=>Sum.inr (rs++r))=_;rw [seqV];simp only [List.append_nil]
   rw [q4'];clear q4 q4' ih
   have hlen:rs.length=x.args.length:=by omega
   have hr0:=q3 _ (y7p (show 0<rs.length by omega))
   have hlen0:0<rs.length:=by omega
   by_cases h2:x.op=2
   . have hk:=vp4 (Γ:=Γ) V T x.name (rs.getD 0 default) hT hr0;rw [show v24 T x.op x.name (.inr rs)=vi3 T x.name (rs.getD 0 default) by show opV T x.op x.name rs=_;unfold opV;rw [decide_eq_true h2];rfl];refine hg ?_
     repeat' ((first | refine hfk ?_ ?_<;>intros | refine hik ?_)<;>refine hgS ?_)
     all_goals try (exfalso;omega)
     refine xhw 2 (fun ξ=>xpp.pre hk (zcx V T) rfl rfl) rfl rfl ?_;generalize vi3 T x.name (rs.getD 0 default)=r;obtain ⟨⟨t,i,v⟩,e⟩:=r;refine hg ?_
     repeat' ((first | refine hfk ?_ ?_<;>intros | refine hik ?_)<;>refine hgS ?_)
     exact StH.vzq rfl (by kernel_rfl) rfl
   by_cases h4:x.op=4\/x.op=14\/x.op=15
   . have hk:=wo0 (Γ:=Γ) x.op rs (by omega)
     rw [show v24 T x.op x.name (.inr rs)=logV x.op rs by
      show opV T x.op x.name rs=_;unfold opV
      rw [decide_eq_false h2,show (decide (x.op=4)||decide (x.op=14)||decide (x.op=15))=true by rcases h4 with h | h | h<;>simp [h]];rfl]
     generalize logV x.op rs=r at hk;obtain ⟨⟨t,i,v⟩,e⟩:=r;refine hg ?_
     rcases h4 with h4 | h4 | h4
     all_goals
      rw [h4] at hk
      repeat' ((first | refine hfk ?_ ?_<;>intros | refine hik ?_ | with_reducible first | refine wml (hk) ?_ | refine ysj (hk) ?_)<;>refine hgS ?_)
      all_goals first
       | (exfalso;omega)
       | exact StH.vzq rfl (by kernel_rfl) rfl
   . have hl:=hl2 h2 (fun h=>h4 (.inl h))
     have hlen1:1<rs.length:=by omega
     have hr1:=q3 _ (y7p hlen1);have hk:=yd6 (Γ:=Γ) x.op (rs.getD 0 default) (rs.getD 1 default) hr0 hr1
     rw [show v24 T x.op x.name (.inr rs)=ariV x.op (rs.getD 0 default) (rs.getD 1 default) by
      show opV T x.op x.name rs=_;unfold opV
      rw [decide_eq_false h2,show (decide (x.op=4)||decide (x.op=14)||decide (x.op=15))=false by simp only [Bool.or_eq_false_iff,decide_eq_false_iff_not];exact ⟨⟨fun h=>h4 (.inl h),fun h=>h4 (.inr (.inl h))⟩,fun h=>h4 (.inr (.inr h))⟩];rfl]
     generalize ariV x.op (rs.getD 0 default) (rs.getD 1 default)=r at hk;obtain ⟨⟨t,i,v⟩,e⟩:=r;refine hg ?_
     repeat' ((first | refine hfk ?_ ?_<;>intros | refine hik ?_ | with_reducible first | refine wml (hk) ?_ | refine ysj (hk) ?_)<;>refine hgS ?_)
     all_goals first
      | (exfalso;omega)
      | exact StH.vzq rfl (by kernel_rfl) rfl
theorem wmd (f:FuncId) (l:List SV):vb5 (.clo f l)=l.flatMap wj3:=rfl
attribute [go_sem] wmd
theorem xaz (V:Vq) (T:Vt) (a c d:SB) (b:Bool):StH Γ [] [SV.tup [.agg [.mp 1,.mp 2],.one (.dat (cB b))]] [a,mQ V,mB T,c,d] [SV.tup [.agg [.mp 0,.mp 1],.one (.dat (cB b))]] [mQ V,mB T]:=by
 have e1:swL 0 1 [a,mQ V,mB T,c,d]=[mQ V,swSB 0 1 a,mB T,swSB 0 1 c,swSB 0 1 d]:=by
  show [swSB 0 1 (mQ V),swSB 0 1 a,swSB 0 1 (mB T),swSB 0 1 c,swSB 0 1 d]=_;rw [vp2,vcy]
 have e2:swL 1 2 [mQ V,swSB 0 1 a,mB T,swSB 0 1 c,swSB 0 1 d]=[mQ V,mB T,swSB 1 2 (swSB 0 1 a),swSB 1 2 (swSB 0 1 c),swSB 1 2 (swSB 0 1 d)]:=by
  show [swSB 1 2 (mQ V),swSB 1 2 (mB T),swSB 1 2 (swSB 0 1 a),swSB 1 2 (swSB 0 1 c),swSB 1 2 (swSB 0 1 d)]=_;rw [vp2,vcy]
 have h1:=StH.vim (Γ:=Γ) (e:=[]) (I:=[SV.tup [.agg [.mp 1,.mp 2],.one (.dat (cB b))]]) (J:=[a,mQ V,mB T,c,d]) (i:=0) (j:=1) (by decide) (by decide) (by simp) (by simp);have h2:=StH.vim (Γ:=Γ) (e:=[]) (I:=[SV.tup [.agg [.mp 0,.mp 2],.one (.dat (cB b))]]) (J:=[mQ V,swSB 0 1 a,mB T,swSB 0 1 c,swSB 0 1 d]) (i:=1) (j:=2) (by decide) (by decide) (by simp) (by simp)
 have h3:=StH.cutB (Γ:=Γ) (e:=[]) (I:=[SV.tup [.agg [.mp 0,.mp 1],.one (.dat (cB b))]]) (J:=[mQ V,mB T,swSB 1 2 (swSB 0 1 a),swSB 1 2 (swSB 0 1 c),swSB 1 2 (swSB 0 1 d)]) 2 (by decide) (by
  unfold yyj;show (_&&([mQ V,mB T].all fun x=>(vb5 x).all fun b=>Nat.blt b 2))=true
  simp only [List.all_cons,yce,wor,List.all_nil];rfl)
 rw [e1] at h1;rw [e2] at h2;exact h1.trans (h2.trans h3)
def entB:Option (Vq×Vt)->List SB
 | none=>[]
 | some p=>[mQ p.1,mB p.2]
def entR:Option (Vq×Vt)->SV
 | none=>.tup [.agg [.any,.any],.one (.dat (cB false))]
 | some _=>.tup [.agg [.mp 0,.mp 1],.one (.dat (cB true))]
theorem vmp (bs:List Bd) (ms:List Tb) (hb:bs.length<=1073741824) (hm:ms.length<=1073741824) (hbs:∀ b∈bs,b.name.size<=1073741824/\b.v.sz<=268435456) (hms:∀ t∈ms,t.Sm) :
 xpp Γ prog 58 [] [.one (.dat (.sl 5 (bs.map Bd.C))),.one (.dat (.sl 3 (ms.map Tb.C)))] (entB (entF bs ms)) (entR (entF bs ms)):=by
 refine xpp.run [(2,[.clo])] Go.Proofs.Tryz.func58 rfl rfl ?_;simp only [Go.Proofs.Tryz.f58];refine hgR ?_;refine x20 [0,1,4,6,7,16,17] (fun p:Nat×Vq=>[(18,.one (.dat (cI p.1)))]) (fun p=>[.box [.dat (.raw (.map none)),.dat (.raw (.map none))] (some 97),mQ p.2,mB [],scB,.clo 103 [.one (.ptr 3 0)]])
  (fun p=>p.1<=bs.length/\rB [] bs=rB p.2 (bs.drop p.1)) (fun p=>bs.length-p.1) (0,[]) ⟨Nat.zero_le _,rfl⟩ ?_ ?_
 . refine hg ?_;exact StH.same svl rfl
 rintro ⟨i,V⟩ ⟨h1,h2⟩;simp only at h1 h2;refine hg ?_;refine vt2 (fun hlt _=>?_) (fun hlt _=>?_)
 . have hlt':i<bs.length:=by omega
   have hy:=hbs _ (y7p hlt');rw [xfc hlt'] at h2
   have hbad:rB [] bs=none->entF bs ms=none:=fun h=>by unfold entF entG;rw [show gE Bd.name (fun b=>decide b.v.ok) (fun b=>b.v.val) (fun _=>false) [] bs=none from h]
   refine hg ?_;refine x6x (z3l V [] (bs.getD i default).name hy.1 _ _ _) ?_
   have h2':rB [] bs=bif ((z2f V (bs.getD i default).name).isSome||(z2f ([]:Vt) (bs.getD i default).name).isSome||!isName (bs.getD i default).name||isWord (bs.getD i default).name)||!decide (bs.getD i default).v.ok then none else rB (updF V (bs.getD i default).name (bs.getD i default).v.val) (bs.drop (i+1)):=h2
   clear h2;generalize ((z2f V (bs.getD i default).name).isSome||(z2f ([]:Vt) (bs.getD i default).name).isSome||!isName (bs.getD i default).name||isWord (bs.getD i default).name)=X at *;generalize bs.getD i default=b at *;obtain ⟨nm,v⟩:=b;simp only at hy h2';by_cases hok:v.ok
   . obtain ⟨q,rfl⟩:=zr1 hok;have hr:CallsD Γ prog 19 [.agg (qC (some q))] (.one (cB true)):=w7o (some q) hy.2;rw [decide_eq_true hok,show (qF (some q)).val=q from Fc.xhg q] at h2';clear hok
     cases X with
     | true=>
      rw [hbad h2'];refine hg ?_
      repeat' ((first | refine hfk ?_ ?_<;>intros | refine hik ?_)<;>refine hgS ?_)
      exact x2c
     | false=>
      refine hg ?_
      repeat' ((first | refine hfk ?_ ?_<;>intros | refine hik ?_ | with_reducible first | refine wml (hr) ?_ | refine ysj (hr) ?_)<;>refine hgS ?_)
      refine ⟨(i+1,updF V nm q),⟨by dsimp only;omega,by first | exact h2' | rfl⟩,by dsimp only;omega,?_⟩;refine StH.cutN [0,1,4,6,7,16,17,18] 5 rfl ?_ ?_
      . refine hg ?_;exact trivial
      exact StH.same svl rfl
   . have hr:CallsD Γ prog 19 [.agg [.raw (.int .i64 v.s),.ints .i64 v.L,.raw (.int .i64 v.t),.ints .i64 v.M]] (.one (cB false)):=by
      have:=wm4 (Γ:=Γ) v hy.2
      rw [decide_eq_false hok] at this;exact this
     rw [hbad (by rw [h2',decide_eq_false hok];cases X<;>rfl)];clear hbad h2' hok
     cases X with
     | true=>
      refine hg ?_
      repeat' ((first | refine hfk ?_ ?_<;>intros | refine hik ?_)<;>refine hgS ?_)
      exact x2c
     | false=>
      refine hg ?_
      repeat' ((first | refine hfk ?_ ?_<;>intros | refine hik ?_ | with_reducible first | refine wml (hr) ?_ | refine ysj (hr) ?_)<;>refine hgS ?_)
      exact x2c
 . have hV:rB [] bs=some V:=by rw [h2,List.drop_eq_nil_of_le (by omega)];rfl
   clear h2 h1 hlt hbs
   have hbad:rTb V [] ms=none->entF bs ms=none:=fun h=>by
    unfold entF entG;rw [show gE Bd.name (fun b=>decide b.v.ok) (fun b=>b.v.val) (fun _=>false) [] bs=some V from hV];show Option.map _ (rTb V [] ms)=none;rw [h];rfl
   have hgood:∀ T,rTb V [] ms=some T->entF bs ms=some (V,T):=fun T h=>by
    unfold entF entG;rw [show gE Bd.name (fun b=>decide b.v.ok) (fun b=>b.v.val) (fun _=>false) [] bs=some V from hV];show Option.map _ (rTb V [] ms)=_;rw [h];rfl
   clear hV;refine hg ?_;refine x20 [4,6,7,41,42] (fun p:Nat×Vt=>[(43,.one (.dat (cI p.1)))]) (fun p=>[.box [.dat (.raw (.map none)),.dat (.raw (.map none))] (some 97),mQ V,mB p.2,scB,.clo 103 [.one (.ptr 3 0)]])
    (fun p=>p.1<=ms.length/\rTb V [] ms=rTb V p.2 (ms.drop p.1)) (fun p=>ms.length-p.1) (0,[]) ⟨Nat.zero_le _,rfl⟩ ?_ ?_
   . refine hg ?_;exact StH.same svl rfl
   rintro ⟨j,T⟩ ⟨h1,h2⟩;simp only at h1 h2;refine hg ?_;refine vt2 (fun hlt _=>?_) (fun hlt _=>?_)
   . have hlt':j<ms.length:=by omega
     have hy:=hms _ (y7p hlt');rw [xfc hlt'] at h2;have hr:=w8d (Γ:=Γ) _ hy.n hy.u hy.r;refine hg ?_;refine x6x (z3l V T (ms.getD j default).name hy.n _ _ _) ?_
     have h3:rTb V [] ms=bif ((z2f T (ms.getD j default).name).isSome||(z2f V (ms.getD j default).name).isSome||!isName (ms.getD j default).name||isWord (ms.getD j default).name)||!vgr (fun s=>(xx7 s).2) (ms.getD j default) then none else rTb V (updF T (ms.getD j default).name (ms.getD j default)) (ms.drop (j+1)):=h2
     have h2':rTb V [] ms=bif ((z2f V (ms.getD j default).name).isSome||(z2f T (ms.getD j default).name).isSome||!isName (ms.getD j default).name||isWord (ms.getD j default).name)||!vgr (fun s=>(xx7 s).2) (ms.getD j default) then none else rTb V (updF T (ms.getD j default).name (ms.getD j default)) (ms.drop (j+1)):=by
      rw [h3,Bool.or_comm (z2f T (ms.getD j default).name).isSome]
     clear h3;clear h2 hy;generalize ((z2f V (ms.getD j default).name).isSome||(z2f T (ms.getD j default).name).isSome||!isName (ms.getD j default).name||isWord (ms.getD j default).name)=X at *;generalize vgr (fun s=>(xx7 s).2) (ms.getD j default)=Y at *
     cases X with
     | true=>
      rw [hbad h2'];refine hg ?_
      repeat' ((first | refine hfk ?_ ?_<;>intros | refine hik ?_)<;>refine hgS ?_)
      exact x2c
     | false=>cases Y with
      | false=>
       rw [hbad h2'];refine hg ?_
       repeat' ((first | refine hfk ?_ ?_<;>intros | refine hik ?_ | with_reducible first | refine wml (hr) ?_ | refine ysj (hr) ?_)<;>refine hgS ?_)
       exact x2c
      | true=>
       refine hg ?_
       repeat' ((first | refine hfk ?_ ?_<;>intros | refine hik ?_ | with_reducible first | refine wml (hr) ?_ | refine ysj (hr) ?_)<;>refine hgS ?_)
       refine ⟨(j+1,updF T (ms.getD j default).name (ms.getD j default)),⟨by dsimp only;omega,by first | exact h2' | rfl⟩,by dsimp only;omega,?_⟩;refine StH.cutN [4,6,7,41,42,43] 5 rfl ?_ ?_
       . refine hg ?_;exact trivial
       exact StH.same svl rfl
   . have hT:rTb V [] ms=some T:=by rw [h2,List.drop_eq_nil_of_le (by omega)];rfl
     rw [hgood T hT];clear h2 h1 hlt hbad hgood hT;refine hg ?_;exact xaz V T _ _ _ true
theorem vpt (x:Ex) (bs:List Bd) (ms:List Tb) (hx:x.Sm) (hb:bs.length<=1073741824) (hm:ms.length<=1073741824) (hbs:∀ b∈bs,b.name.size<=1073741824/\b.v.sz<=330000) (hms:∀ t∈ms,t.Sm) :
 CallsD Γ prog 24 [.agg (exC x),.one (.sl 5 (bs.map Bd.C)),.one (.sl 3 (ms.map Tb.C))] (rsR (valF x bs ms)):=by
 have hr:=vmp (Γ:=Γ) bs ms hb hm (fun b h=>⟨(hbs b h).1,Nat.le_trans (hbs b h).2 (by decide)⟩) hms;have c1:=zfy (Γ:=Γ) x hx;have c2:=xny (Γ:=Γ) x hx
 cases hr1:zqs x with
 | false=>
  rw [hr1] at c1;rw [show valF x bs ms=(⟨false,false,none⟩,2) by unfold valF;rw [hr1];rfl];refine CallsD.run [] Go.Proofs.Tryz.func24 rfl rfl rfl ?_;simp only [Go.Proofs.Tryz.f24];refine hgR ?_
  repeat' ((first | refine hfk ?_ ?_<;>intros | refine hik ?_ | with_reducible first | refine wml (c1) ?_ | refine ysj (c1) ?_)<;>refine hgS ?_)
  exact rsEq rfl
 | true=>cases hc1:x.wqm with
  | true=>
   rw [hr1] at c1;rw [hc1] at c2;rw [show valF x bs ms=(⟨false,false,none⟩,2) by unfold valF;rw [hr1,hc1];rfl];refine CallsD.run [] Go.Proofs.Tryz.func24 rfl rfl rfl ?_;simp only [Go.Proofs.Tryz.f24];refine hgR ?_
   repeat' ((first | refine hfk ?_ ?_<;>intros | refine hik ?_ | with_reducible first | refine wml (c1) ?_ | refine ysj (c1) ?_ | refine wml (c2) ?_ | refine ysj (c2) ?_)<;>refine hgS ?_)
   exact rsEq rfl
  | false=>
   rw [hr1] at c1;rw [hc1] at c2
   have hsh:x.shaped=true:=by unfold zqs at hr1;rw [Bool.and_eq_true] at hr1;exact hr1.2
   cases hrd:entF bs ms with
   | none=>
    rw [hrd] at hr;rw [show valF x bs ms=(⟨false,false,none⟩,1) by unfold valF;rw [hr1,hc1,hrd];rfl]
    have hr2:∀ a b:SB,xpp Γ prog 58 [a,b] [.one (.dat (.sl 5 (bs.map Bd.C))),.one (.dat (.sl 3 (ms.map Tb.C)))] [a,b] (.tup [.agg [.any,.any],.one (.dat (cB false))]):=fun a b=>xpp.at [] (J:=[a,b]) hr (by decide) rfl rfl rfl
    refine CallsD.run [] Go.Proofs.Tryz.func24 rfl rfl rfl ?_;simp only [Go.Proofs.Tryz.f24];refine hgR ?_
    repeat' ((first | refine hfk ?_ ?_<;>intros | refine hik ?_ | with_reducible first | refine wml (c1) ?_ | refine ysj (c1) ?_ | refine wml (c2) ?_ | refine ysj (c2) ?_)<;>refine hgS ?_)
    refine zqa (hr2 _ _) rfl ?_;refine hg ?_
    repeat' ((first | refine hfk ?_ ?_<;>intros | refine hik ?_)<;>refine hgS ?_)
    exact rsEq rfl
   | some p=>
    obtain ⟨V,T⟩:=p;rw [hrd] at hr;rw [show valF x bs ms=x.cal V T by unfold valF;rw [hr1,hc1,hrd];rfl]
    have hr2:∀ a b:SB,xpp Γ prog 58 [a,b] [.one (.dat (.sl 5 (bs.map Bd.C))),.one (.dat (.sl 3 (ms.map Tb.C)))] [a,b,mQ V,mB T] (.tup [.agg [.mp 2,.mp 3],.one (.dat (cB true))]):=fun a b=>by
     have h:=xpp.at [] (J:=[a,b]) hr (by decide) rfl rfl rfl
     have e:putR [] [a,b] (entB (some (V,T)))=[a,b,mQ V,mB T]:=by
      show [a,b,rnSB _ (mQ V),rnSB _ (mB T)]=_;rw [yi4,zgw]
     rw [e] at h;exact h
    have hnd:=zvr hr1;have hB:(335000:Nat)*x.nd<=67108864:=Nat.le_trans (Nat.mul_le_mul_left _ hnd) (by decide);have hc:=xr1 (Γ:=Γ) (B:=335000) (by decide) V T (x98 hrd (fun b h=>by have:=(hbs b h).2;omega)) (wed hrd hms) x hx hsh hc1 hB;refine CallsD.run [] Go.Proofs.Tryz.func24 rfl rfl rfl ?_;simp only [Go.Proofs.Tryz.f24];refine hgR ?_
    repeat' ((first | refine hfk ?_ ?_<;>intros | refine hik ?_ | with_reducible first | refine wml (c1) ?_ | refine ysj (c1) ?_ | refine wml (c2) ?_ | refine ysj (c2) ?_)<;>refine hgS ?_)
    refine zqa (hr2 _ _) rfl ?_;refine hg ?_;refine x6x (xpp.ro [2,3] hc (zcx V T) (by decide) rfl rfl) ?_;refine hg ?_;exact RLe.ofEq rfl
end Go.Hp.T
