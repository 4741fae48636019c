/- The proof, part W36: E1, E2, E3, Ao, Wm, Ap, Ja, Jb, Jd. -/
import Derived.Test.YtpkininnjhbeaaaGreatDoorW34
import Derived.Test.YtpkininnjhbeaaaGreatDoorW35
import Derived.Test.YtpkininnjhbeaaaGreatDoorW33
import Derived.Test.YtpkininnjhbeaaaGreatDoorW32
import Derived.Test.YtpkininnjhbeaaaGreatDoorW11
import Derived.WalkKit
import Derived.ProofKit
import Derived.OpenShut
import Derived.JoinedCond
import Derived.ChangeBook
import Derived.ChangeStays
namespace Go.Hp.T
open Go Go.RowKit Go.Slot Go.Hp Go.Slot.T
open Go.Proofs.Tryz (prog)
set_option maxRecDepth 100000
set_option maxHeartbeats 8000000
abbrev iq (n:Int):Rat:=(n:Rat)
def ss19:List Sl:=[⟨⟨⟨[97]⟩⟩,Af.of (iq 0) [iq 1,iq 0]⟩,⟨⟨⟨[98]⟩⟩,Af.of (iq 0) [iq 0,iq 1]⟩,⟨⟨⟨[99]⟩⟩,Af.of (iq 4) [iq 0,iq 0]⟩]
def ms19:List Tb:=[⟨⟨⟨[103,114,105,100]⟩⟩,⟨⟨[]⟩⟩,[⟨0,10⟩,⟨5,20⟩]⟩]
abbrev afX (k a b:Rat):List Cell:=[.raw (.int .i64 (qF (some k)).s),.ints .i64 (qF (some k)).L,.raw (.int .i64 (qF (some k)).t),.ints .i64 (qF (some k)).M,.sl 4 [qC (some a),qC (some b)]]
theorem voq (c a b:Int) (hc:inI c) (ha:inI a) (hb:inI b):CallsD Gs prog 34 [.one (cI c),.one (.ints .i64 [a,b])] (.agg (afC (iq c,[iq a,iq b]))):=by
 refine CallsD.run [] Go.Proofs.Tryz.func34 rfl rfl rfl ?_;simp only [Go.Proofs.Tryz.f34];refine hgR ?_
 repeat' ((first | refine hfk ?_ ?_<;>intros | refine hik ?_ | with_reducible refine v6k ?_ | with_reducible refine yp8 ?_ | with_reducible first | refine wml (oInt c hc) ?_ | refine ysj (oInt c hc) ?_ | refine wml (oInt a ha) ?_ | refine ysj (oInt a ha) ?_ | refine wml (oInt b hb) ?_ | refine ysj (oInt b hb) ?_)<;>refine hgS ?_)
 all_goals exact RLe.ofEq rfl
theorem xdb:∀ s∈ss19,(s.name.size<=1073741824/\s.f.l.length<=1048576/\s.f.le 67108864)/\s.sm 4300:=by
 have z:∀ n:Int,inI n->(Fc.of (iq n)).sz<=4:=fun n h=>x10 h
 have e:∀(nm:ByteArray) (c a b:Int),nm.size<=1073741824->inI c->inI a->inI b->((⟨nm,Af.of (iq c) [iq a,iq b]⟩:Sl).name.size<=1073741824/\(⟨nm,Af.of (iq c) [iq a,iq b]⟩:Sl).f.l.length<=1048576/\(⟨nm,Af.of (iq c) [iq a,iq b]⟩:Sl).f.le 67108864)/\(⟨nm,Af.of (iq c) [iq a,iq b]⟩:Sl).sm 4300:=fun nm c a b hn hc ha hb=>by
  have h1:=z c hc;have h2:=z a ha;have h3:=z b hb
  have hm:∀ f∈(Af.of (iq c) [iq a,iq b]).l,f.sz<=4:=fun f hf=>by
   have hf:f∈[Fc.of (iq a),Fc.of (iq b)]:=hf;simp only [List.mem_cons,List.not_mem_nil,or_false] at hf
   rcases hf with rfl | rfl<;>assumption
  exact ⟨⟨hn,by show 2<=1048576;decide,by show (Fc.of (iq c)).sz<=_;omega,fun f hf=>by have:=hm f hf;omega⟩,by show (Fc.of (iq c)).sz+10<=_;omega,fun f hf=>by have:=hm f hf;omega⟩
 intro s hs
 have hs':s=⟨⟨⟨[97]⟩⟩,Af.of (iq 0) [iq 1,iq 0]⟩\/s=⟨⟨⟨[98]⟩⟩,Af.of (iq 0) [iq 0,iq 1]⟩\/s=⟨⟨⟨[99]⟩⟩,Af.of (iq 4) [iq 0,iq 0]⟩:=by simpa [ss19] using hs
 rcases hs' with rfl | rfl | rfl
 . exact e _ _ _ _ (by decide) (by decide) (by decide) (by decide)
 . exact e _ _ _ _ (by decide) (by decide) (by decide) (by decide)
 . exact e _ _ _ _ (by decide) (by decide) (by decide) (by decide)
theorem zoi (s:ByteArray) (x:Ex) (hp:CallsD Gs prog 71 [.one (cS s)] (parR x)) (hx:x.Sm):CallsD Gs prog 32 [.one (cS s)] (afR (affF x ss19 ms19)):=by
 have ho:CallsD Gs prog 10 [.agg (exC x),.one (.sl 6 [cS ⟨⟨[97]⟩⟩::afX (iq 0) (iq 1) (iq 0),cS ⟨⟨[98]⟩⟩::afX (iq 0) (iq 0) (iq 1),cS ⟨⟨[99]⟩⟩::afX (iq 4) (iq 0) (iq 0)]),.one (.sl 3 [[cS ⟨⟨[103,114,105,100]⟩⟩,cS ⟨⟨[]⟩⟩,.sl 2 [[cI 0,cI 10],[cI 5,cI 20]]]])] (afR (affF x ss19 ms19)):=
  v0f (Γ:=Gs) (B:=4300) (by decide) (by decide) x ss19 ms19 hx (by decide) (by decide) (by decide) (fun s h=>(xdb s h).1) (fun s h=>(xdb s h).2) (fun t ht=>by
   cases List.mem_singleton.1 ht
   exact ⟨by decide,by decide,by decide⟩)
 have f1:=voq 0 1 0 (by decide) (by decide) (by decide);have f2:=voq 0 0 1 (by decide) (by decide) (by decide);have f3:=voq 4 0 0 (by decide) (by decide) (by decide);generalize affF x ss19 ms19=r at ho;obtain ⟨⟨t,i,v,l⟩,e⟩:=r;refine CallsD.run [] Go.Proofs.Tryz.func32 rfl rfl rfl ?_;simp only [Go.Proofs.Tryz.f32];refine hgR ?_
 repeat' ((first | refine hfk ?_ ?_<;>intros | refine hik ?_ | with_reducible first | refine wml (f1) ?_ | refine ysj (f1) ?_ | refine wml (f2) ?_ | refine ysj (f2) ?_ | refine wml (f3) ?_ | refine ysj (f3) ?_ | refine wml (hp) ?_ | refine ysj (hp) ?_ | refine wml (ho) ?_ | refine ysj (ho) ?_)<;>refine hgS ?_)
 all_goals refine lfE ?_;first | exact trivial | rfl
mutual
def Ex.smB:Ex->Bool
 | .mk _ _ u s l=>Nat.ble l.length 1073741824&&Nat.ble u.size 1073741824&&Nat.ble s.size 1073741824&&Ex.smBL l
def Ex.smBL:List Ex->Bool
 | []=>true
 | x::l=>Ex.smB x&&Ex.smBL l
end
theorem Ex.zxs:∀ l:List Ex,Ex.smBL l=l.all Ex.smB
 | []=>by rw [Ex.smBL];rfl
 | x::l=>by rw [Ex.smBL,Ex.zxs l];rfl
theorem Ex.Sm.of:∀ x:Ex,x.smB=true->x.Sm:=by
 refine Ex.ind ?_;intro x ih h
 cases x with
 | mk o n u s l=>
  rw [Ex.smB,Ex.zxs] at h;simp only [Bool.and_eq_true,Nat.ble_eq,List.all_eq_true] at h;obtain ⟨⟨⟨h1,h2⟩,h3⟩,h4⟩:=h;exact .mk _ h1 h2 h3 (fun y hy=>ih y hy (h4 y hy))
def zi9 (a b:Th×Int):Bool:=a.1.t==b.1.t&&a.1.i==b.1.i&&decide (a.1.c.map (·.num)=b.1.c.map (·.num))&&decide (a.1.c.map (·.den)=b.1.c.map (·.den))&&decide (a.1.l.map (·.num)=b.1.l.map (·.num))&&decide (a.1.l.map (·.den)=b.1.l.map (·.den))&&decide (a.2=b.2)
theorem wfu:∀{l m:List Rat},l.map (·.num)=m.map (·.num)->l.map (·.den)=m.map (·.den)->l=m
 | [],[],_,_=>rfl
 | [],_::_,h,_=>by cases h
 | _::_,[],h,_=>by cases h
 | x::l,y::m,h,k=>by
  simp only [List.map_cons,List.cons.injEq] at h k;rw [Rat.ext h.1 k.1,wfu h.2 k.2]
theorem vdn {a b:Th×Int} (h:zi9 a b=true):a=b:=by
 obtain ⟨⟨t,i,v,l⟩,e⟩:=a;obtain ⟨⟨t',i',v',l'⟩,e'⟩:=b;unfold zi9 at h;simp only [Bool.and_eq_true,beq_iff_eq,decide_eq_true_eq] at h;obtain ⟨⟨⟨⟨⟨⟨rfl,rfl⟩,h1⟩,h2⟩,h3⟩,h4⟩,rfl⟩:=h
 have:v=v':=by
  cases v<;>cases v'<;>simp at h1 h2
  . rfl
  . rw [Rat.ext h1 h2]
 rw [this,wfu h3 h4]
theorem on0:CallsD Gs prog 32 [.one (cS ⟨⟨[40,50,32,42,32,97,41,32,43,32,40,98,32,47,32,99,41]⟩⟩)] (afR (⟨false,false,some 0,[2,Rat.divInt 1 4]⟩,0)):=by
 have h:=zoi ⟨⟨sx0⟩⟩ ex0 par0 (Ex.Sm.of _ (by kernel_rfl));rw [show affF ex0 ss19 ms19=(⟨false,false,some 0,[2,Rat.divInt 1 4]⟩,0) from vdn (by kernel_rfl)] at h;exact h
theorem on1:CallsD Gs prog 32 [.one (cS ⟨⟨[40,97,32,45,32,51,41,32,42,32,108,111,111,107,40,103,114,105,100,44,32,99,32,43,32,50,41]⟩⟩)] (afR (⟨false,false,some (((-60:Int):Rat)),[((20:Int):Rat),((0:Int):Rat)]⟩,0)):=by
 have h:=zoi ⟨⟨sx1⟩⟩ ex1 par1 (Ex.Sm.of _ (by kernel_rfl));rw [show affF ex1 ss19 ms19=(⟨false,false,some (((-60:Int):Rat)),[((20:Int):Rat),((0:Int):Rat)]⟩,0) from vdn (by kernel_rfl)] at h;exact h
theorem on2:CallsD Gs prog 32 [.one (cS ⟨⟨[105,102,32,40,99,32,60,32,53,41,32,116,104,101,110,32,97,32,101,108,115,101,32,40,97,32,42,32,98,41]⟩⟩)] (afR (⟨false,false,some (((0:Int):Rat)),[((1:Int):Rat),((0:Int):Rat)]⟩,0)):=by
 have h:=zoi ⟨⟨sx2⟩⟩ ex2 par2 (Ex.Sm.of _ (by kernel_rfl));rw [show affF ex2 ss19 ms19=(⟨false,false,some (((0:Int):Rat)),[((1:Int):Rat),((0:Int):Rat)]⟩,0) from vdn (by kernel_rfl)] at h;exact h
theorem on3:CallsD Gs prog 32 [.one (cS ⟨⟨[97,32,47,32,40,99,32,45,32,52,41]⟩⟩)] (afR (Th.zero,15)):=by
 have h:=zoi ⟨⟨sx3⟩⟩ ex3 par3 (Ex.Sm.of _ (by kernel_rfl));rw [show affF ex3 ss19 ms19=(Th.zero,15) from vdn (by kernel_rfl)] at h;exact h
theorem on4:CallsD Gs prog 32 [.one (cS ⟨⟨[108,111,111,107,40,103,114,105,100,44,32,48,32,45,32,99,41]⟩⟩)] (afR (Th.zero,4)):=by
 have h:=zoi ⟨⟨sx4⟩⟩ ex4 par4 (Ex.Sm.of _ (by kernel_rfl));rw [show affF ex4 ss19 ms19=(Th.zero,4) from vdn (by kernel_rfl)] at h;exact h
theorem on5:CallsD Gs prog 32 [.one (cS ⟨⟨[97,32,42,32,98]⟩⟩)] (afR (Th.zero,13)):=by
 have h:=zoi ⟨⟨sx5⟩⟩ ex5 par5 (Ex.Sm.of _ (by kernel_rfl));rw [show affF ex5 ss19 ms19=(Th.zero,13) from vdn (by kernel_rfl)] at h;exact h
theorem on6:CallsD Gs prog 32 [.one (cS ⟨⟨[49,32,47,32,97]⟩⟩)] (afR (Th.zero,13)):=by
 have h:=zoi ⟨⟨sx6⟩⟩ ex6 par6 (Ex.Sm.of _ (by kernel_rfl));rw [show affF ex6 ss19 ms19=(Th.zero,13) from vdn (by kernel_rfl)] at h;exact h
theorem on7:CallsD Gs prog 32 [.one (cS ⟨⟨[109,105,110,40,97,44,32,49,41]⟩⟩)] (afR (Th.zero,13)):=by
 have h:=zoi ⟨⟨sx7⟩⟩ ex7 par7 (Ex.Sm.of _ (by kernel_rfl));rw [show affF ex7 ss19 ms19=(Th.zero,13) from vdn (by kernel_rfl)] at h;exact h
theorem on8:CallsD Gs prog 32 [.one (cS ⟨⟨[97,32,60,32,49]⟩⟩)] (afR (Th.zero,13)):=by
 have h:=zoi ⟨⟨sx8⟩⟩ ex8 par8 (Ex.Sm.of _ (by kernel_rfl));rw [show affF ex8 ss19 ms19=(Th.zero,13) from vdn (by kernel_rfl)] at h;exact h
theorem on9:CallsD Gs prog 32 [.one (cS ⟨⟨[108,111,111,107,40,103,114,105,100,44,32,97,41]⟩⟩)] (afR (Th.zero,13)):=by
 have h:=zoi ⟨⟨sx9⟩⟩ ex9 par9 (Ex.Sm.of _ (by kernel_rfl));rw [show affF ex9 ss19 ms19=(Th.zero,13) from vdn (by kernel_rfl)] at h;exact h
theorem on10:CallsD Gs prog 32 [.one (cS ⟨⟨[99,32,60,32,53]⟩⟩)] (afR (Th.zero,13)):=by
 have h:=zoi ⟨⟨sx10⟩⟩ ex10 ycv (Ex.Sm.of _ (by kernel_rfl));rw [show affF ex10 ss19 ms19=(Th.zero,13) from vdn (by kernel_rfl)] at h;exact h
end Go.Hp.T
namespace Go.Hp.T
open Go Go.RowKit Go.Slot Go.Hp Go.Slot.T
open Go.Proofs.Tryz (prog)
set_option maxRecDepth 100000
set_option maxHeartbeats 8000000
variable {Γ:List (Nat×List Cell)}
theorem xg8:CallsD Gs prog 8 [] (.one (cB true)):=by
 have q1:CallsD Gs prog 33 [.one (cI 1),.one (cI 4)] (qR (some (Rat.divInt 1 4)) 0):=qOf 1 4 (by decide) (by decide) (by decide)
 have sq:∀ q:Rat,qs q<=67108864->CallsD Gs prog 22 [.agg (qC (some q)),.agg (qC (some q))] (.one (cB true)):=fun q h=>by
  have:=xb9 (Γ:=Gs) (Fc.of q) (Fc.of q) h h
  rw [decide_eq_true rfl] at this;exact this
 have z:∀ n:Int,inI n->qs (iq n)<=67108864:=fun n h=>Nat.le_trans (show qs (iq n)<=4 from x10 h) (by decide)
 have s1:=sq (Rat.divInt 1 4) (by
  show max (dig (Rat.divInt 1 4).num.natAbs).length (dig (Rat.divInt 1 4).den).length<=67108864
  exact Nat.max_le.2 ⟨Nat.le_trans (y6j (of_decide_eq_true (by kernel_rfl))) (by decide),Nat.le_trans (y6j (of_decide_eq_true (by kernel_rfl))) (by decide)⟩)
 have s2:=sq (iq 2) (z 2 (by decide))
 have sA:∀(k a b:Rat),qs k<=67108864->qs a<=67108864->qs b<=67108864->CallsD Gs prog 15 [.agg (afX k a b),.agg (afX k a b)] (.one (cB true)):=fun k a b hk ha hb=>by
  have hz:(Af.of k [a,b]).le 67108864:=⟨hk,zf5 (fun q hq=>by
   simp only [List.mem_cons,List.not_mem_nil,or_false] at hq
   rcases hq with rfl | rfl<;>assumption)⟩
  have:=z4n (Γ:=Gs) (Af.of k [a,b]) (Af.of k [a,b]) (by show 2<=1048576;decide) (by show 2<=1048576;decide) hz hz
  rw [decide_eq_true rfl,y6w] at this;exact this
 have s3:=sA (iq (-60)) (iq 20) (iq 0) (z _ (by decide)) (z _ (by decide)) (z _ (by decide));have s4:=sA (iq 0) (iq 1) (iq 0) (z _ (by decide)) (z _ (by decide)) (z _ (by decide));have i2:=oInt (Γ:=Gs) 2 (by decide);have f1:=voq (-60) 20 0 (by decide) (by decide) (by decide);have f2:=voq 0 1 0 (by decide) (by decide) (by decide);refine CallsD.run [] Go.Proofs.Tryz.func8 rfl rfl rfl ?_;simp only [Go.Proofs.Tryz.f8];refine hgR ?_
 repeat' ((first | refine hfk ?_ ?_<;>intros | refine hik ?_ | with_reducible refine v6k ?_ | with_reducible refine yp8 ?_ | with_reducible first | refine wml (on0) ?_ | refine ysj (on0) ?_ | refine wml (on1) ?_ | refine ysj (on1) ?_ | refine wml (on2) ?_ | refine ysj (on2) ?_ | refine wml (on3) ?_ | refine ysj (on3) ?_ | refine wml (on4) ?_ | refine ysj (on4) ?_ | refine wml (on5) ?_ | refine ysj (on5) ?_ | refine wml (on6) ?_ | refine ysj (on6) ?_ | refine wml (on7) ?_ | refine ysj (on7) ?_ | refine wml (on8) ?_ | refine ysj (on8) ?_ | refine wml (on9) ?_ | refine ysj (on9) ?_ | refine wml (on10) ?_ | refine ysj (on10) ?_ | refine wml (q1) ?_ | refine ysj (q1) ?_ | refine wml (i2) ?_ | refine ysj (i2) ?_ | refine wml (f1) ?_ | refine ysj (f1) ?_ | refine wml (f2) ?_ | refine ysj (f2) ?_ | refine wml (s1) ?_ | refine ysj (s1) ?_ | refine wml (s2) ?_ | refine ysj (s2) ?_ | refine wml (s3) ?_ | refine ysj (s3) ?_ | refine wml (s4) ?_ | refine ysj (s4) ?_)<;>refine hgS ?_)
 all_goals first
  | (exfalso;omega)
  | refine lfE ?_;first | exact trivial | rfl
end Go.Hp.T
namespace Go.Hp.T
open Go Go.RowKit Go.Slot Go.Hp Go.Slot.T
open Go.Proofs.Tryz (prog)
set_option maxRecDepth 10000
set_option maxHeartbeats 4000000
variable {Γ:List (Nat×List Cell)}
variable {x:Ex} {ss:List Sl} {ms:List Tb}
structure Ar19 (x:Ex) (ss:List Sl) (ms:List Tb):Prop where
 x:x.Sm
 s:ss.length<=1048576
 m:ms.length<=1048576
 ss:∀ s∈ss,s.name.size<=1073741824/\AfS s.f
 ms:∀ t∈ms,t.Sm
theorem Ar19.few (h:Ar19 x ss ms):CallsD Γ prog 9 [.agg (exC x),.one (.sl 6 (ss.map Sl.C)),.one (.sl 3 (ms.map Tb.C))] (.one (cB (yw7 x ss ms))):=
 zt1 x h.x ss ms (by have:=h.s;omega) (fun s hs=>(h.ss s hs).2) (by have:=h.m;omega)
theorem wl0 (h:yw7 x ss ms=true):ss.length<=6/\∀ s∈ss,s.f.l.length<=6/\s.f.le 4:=by
 unfold yw7 at h;simp only [Bool.and_eq_true,decide_eq_true_eq] at h
 have hl:ss.length<=6:=by omega
 refine ⟨hl,fun s hs=>?_⟩;have h1:=h.1;rw [List.take_of_length_le (by omega),List.all_eq_true] at h1
 have:=h1 s hs
 simp only [Bool.and_eq_true,decide_eq_true_eq] at this;exact this.2
theorem vwh {n:Nat} (h:∀ s∈ss,s.f.l.length<=n):nOf ss<=n:=by
 cases ss with
 | nil=>exact Nat.zero_le _
 | cons s l=>exact h s (by simp)
theorem x8q {s:Sl} {n B:Nat} (h:s.f.le n) (hB:n+10<=B):s.sm B:=⟨by have:=h.1;omega,fun f hf=>by have:=h.2 f hf;omega⟩
theorem xtn (x:Ex) (ss:List Sl) (ms:List Tb) (hx:x.Sm) (hl:ss.length<=6) (hm:ms.length<=1048576) (hs:∀ s∈ss,s.name.size<=1073741824/\s.f.l.length<=6/\s.f.le 4) (hms:∀ t∈ms,t.Sm) :
 CallsD Γ prog 10 [.agg (exC x),.one (.sl 6 (ss.map Sl.C)),.one (.sl 3 (ms.map Tb.C))] (afR (affF x ss ms)):=
 v0f (B:=4300) (by decide) (by decide) x ss ms hx (vwh fun s h=>(hs s h).2.1) (by omega) (by omega) (fun s h=>⟨(hs s h).1,by have:=(hs s h).2.1;omega,Nat.le_trans (hs s h).2.2.1 (by decide),fun f hf=>Nat.le_trans ((hs s h).2.2.2 f hf) (by decide)⟩) (fun s h=>x8q (hs s h).2.2 (by decide)) hms
theorem Ar19.of (h:Ar19 x ss ms) (hf:yw7 x ss ms=true):CallsD Γ prog 10 [.agg (exC x),.one (.sl 6 (ss.map Sl.C)),.one (.sl 3 (ms.map Tb.C))] (afR (affF x ss ms)):=
 xtn x ss ms h.x (wl0 hf).1 h.m (fun s hs=>⟨(h.ss s hs).1,(wl0 hf).2 s hs⟩) h.ms
theorem w9s (hs:∀ s∈ss,s.f.l.length<=6/\s.f.le 4) (h:(affF x ss ms).2=0):(affF x ss ms).1.t=false/\(affF x ss ms).1.G (nOf ss) 860000:=by
 generalize hr:affF x ss ms=r at h ⊢;obtain ⟨r,e⟩:=r;simp only at h;subst h;obtain ⟨k1,k2,V,T,he,ha,ht⟩:=v57 hr;have hV:=zd4 (B:=4300) he (fun s hm=>x8q (hs s hm).2 (by decide));have hG:=xni (T:=T) (by decide) hV x (yvx k1) k2 (by rw [ha]);rw [ha] at hG;have hnd:=zvr k1;exact ⟨ht,hG.mono (by have:=Nat.mul_le_mul_left 4300 hnd;omega)⟩
end Go.Hp.T
namespace Go.Hp.T
open Go Go.RowKit Go.Slot Go.Hp Go.Slot.T
set_option maxRecDepth 10000
set_option maxHeartbeats 4000000
theorem wfe {a:Af} {n:Nat} (h:a.ok n):a.l.length=n:=h.1
end Go.Hp.T
namespace Go.Hp.T
open Go Go.RowKit Go.Slot Go.Hp Go.Slot.T
open Go.Proofs.Tryz (prog)
set_option maxRecDepth 100000
set_option maxHeartbeats 8000000
attribute [local irreducible] hide
theorem leM {a:Af} {m n:Nat} (h:a.le m) (hn:m<=n):a.le n:=⟨Nat.le_trans h.1 hn,fun f hf=>Nat.le_trans (h.2 f hf) hn⟩
end Go.Hp.T
namespace Go.Hp.T
open Go Go.RowKit Go.Slot Go.Hp Go.Slot.T
set_option maxRecDepth 10000
set_option maxHeartbeats 4000000
variable {g:List Fm} {l:List Rat} {i:Nat}
theorem v5s:∀{l v:List Rat} {x y:Rat},l.length=v.length->dot (l++[x]) (v++[y])=dot l v+x*y
 | [],[],x,y,_=>by rw [List.nil_append,List.nil_append,wkb,yvy,Rat.add_zero,Rat.zero_add]
 | [],_::_,_,_,h=>by cases h
 | _::_,[],_,_,h=>by cases h
 | a::l,b::v,x,y,h=>by
  rw [List.cons_append,List.cons_append,wkb,wkb,v5s (by simpa using h),Rat.add_assoc]
def wK (g:List Fm) (l:List Rat) (q:Rat) (i:Nat):Rat:=subC (g.take i) (l.take i) q
def wL (m:Nat) (g:List Fm) (l:List Rat) (i:Nat):List Rat:=subL m (g.take i) (l.take i)
theorem x0i (g:List Fm) (l:List Rat) (q:Rat):wK g l q 0=q:=by
 unfold wK subC;rw [List.take_zero,List.take_zero,List.map_nil,yvy,Rat.add_zero]
theorem w1q (m:Nat) (g:List Fm) (l:List Rat):wL m g l 0=List.replicate m 0:=by
 unfold wL;rw [List.take_zero];exact vxg (fun q hq=>by cases hq)
theorem wb9 (h:l.length=g.length) (q:Rat):wK g l q g.length=subC g l q:=by
 unfold wK;rw [List.take_length,<-h,List.take_length]
theorem w8m (h:l.length=g.length) (m:Nat):wL m g l g.length=subL m g l:=by
 unfold wL;rw [List.take_length,<-h,List.take_length]
theorem x4e {α:Type} {l:List α} (d:α) (h:i<l.length):l.take (i+1)=l.take i++[l.getD i d]:=by
 rw [List.take_add_one];simp [h]
theorem xg5 (h:l.length=g.length) (hi:i<g.length) (q:Rat):wK g l q (i+1)=wK g l q i+(g.getD i default).1*l.getD i 0:=by
 unfold wK subC;rw [x4e default hi,x4e 0 (by omega),List.map_append,List.map_cons,List.map_nil,v5s (by simp;omega),<-Rat.add_assoc,Rat.mul_comm (l.getD i 0)]
theorem vru (m:Nat) (g:List Fm) (l:List Rat) (i:Nat):(wL m g l i).length=m:=zdi _ _ _
theorem z8s {m:Nat} (h:l.length=g.length) (hi:i<g.length) (hm:(g.getD i default).2.length=m):wL m g l (i+1)=List.zipWith (· + ·) (wL m g l i) ((g.getD i default).2.map (· * l.getD i 0)):=by
 apply List.ext_getElem
 . rw [vru,List.length_zipWith,vru,List.length_map,hm,Nat.min_self]
 intro k h1 h2;rw [vru] at h1;simp only [wL,subL,List.getElem_zipWith,List.getElem_map,List.getElem_range];rw [x4e default hi,x4e 0 (by omega),List.map_append,List.map_cons,List.map_nil,v5s (by simp;omega),Rat.mul_comm (l.getD i 0)]
 congr 2
 rw [List.getD_eq_getElem?_getD,List.getElem?_eq_getElem (by omega)];rfl
theorem x3i {m:Nat} {g:List Fm} {l:List Rat} {S:Nat} (h:l.length=g.length) (hg:∀ f∈g,f.2.length=m/\qs f.1<=4/\∀ x∈f.2,qs x<=4) (hl:∀ x∈l,qs x<=S):∀ i,i<=g.length->∀ x∈wL m g l i,qs x<=1+i*(S+5)
 | 0,_,x,hx=>by
  rw [w1q] at hx;rw [List.eq_of_mem_replicate hx];exact Nat.le_trans z3n (by omega)
 | i+1,hi,x,hx=>by
  have hm:g.getD i default∈g:=y7p (by omega);obtain ⟨h1,_,h3⟩:=hg _ hm;rw [z8s h (by omega) h1] at hx;obtain ⟨a,ha,b,hb,rfl⟩:=ycf hx;obtain ⟨c,hc,rfl⟩:=List.mem_map.1 hb;have e1:=x3i h hg hl i (by omega) a ha;have e2:=h3 c hc
  have e3:qs (l.getD i 0)<=S:=hl _ (by
   have:i<l.length:=by omega
   simp [this])
  have e4:=vmu c (l.getD i 0);have e5:=xa0 a (c*l.getD i 0);have e6:(i+1)*(S+5)=i*(S+5)+(S+5):=Nat.succ_mul i (S+5);omega
theorem zv6 {g:List Fm} {l:List Rat} {q:Rat} {S:Nat} (h:l.length=g.length) (hg:∀ f∈g,qs f.1<=4) (hl:∀ x∈l,qs x<=S) (hq:qs q<=S):∀ i,i<=g.length->qs (wK g l q i)<=S+i*(S+5)
 | 0,_=>by rw [x0i];omega
 | i+1,hi=>by
  have hm:g.getD i default∈g:=y7p (by omega);rw [xg5 h (by omega)];have e1:=zv6 h hg hl hq i (by omega);have e2:=hg _ hm
  have e3:qs (l.getD i 0)<=S:=hl _ (by
   have:i<l.length:=by omega
   simp [this])
  have e4:=vmu (g.getD i default).1 (l.getD i 0);have e5:=xa0 (wK g l q i) ((g.getD i default).1*l.getD i 0);have e6:(i+1)*(S+5)=i*(S+5)+(S+5):=Nat.succ_mul i (S+5);omega
end Go.Hp.T
namespace Go.Slot
open Go Go.RowKit Go.ChangeShapes
variable {P:Program} {H:Type} {enc:TypeId×Value->H} {w:World} {spare:Nat->Bool} {held:Bool}
variable {a:Addr}
inductive Sp where
 | int (k:IntKind)
 | bool
 | str
 | ints (k:IntKind)
 | sl (l:List Sp)
inductive Fit (N:Nat):Sp->Cell->Prop
 | int {k:IntKind} {n:Int} (h:k.min<=n/\n<=k.max):Fit N (.int k) (.raw (.int k n))
 | bool {b:Bool}:Fit N .bool (.raw (.bool b))
 | str {s:ByteArray} (h:s.size<=N):Fit N .str (.raw (.string s))
 | ints {k:IntKind} {L:List Int} (hl:L.length<=N) (h:∀ x∈L,k.min<=x/\x<=k.max):Fit N (.ints k) (.ints k L)
 | sl {l:List Sp} {rows:List (List Cell)} (hl:rows.length<=N) (hlen:∀ r∈rows,r.length=l.length) (h:∀(r:List Cell),r∈rows->∀(i:Nat) (s:Sp) (c:Cell),l[i]? = some s->r[i]? = some c->Fit N s c):Fit N (.sl l) (.sl l.length rows)
def FitL (N:Nat) (l:List Sp) (cs:List Cell):Prop:=cs.length=l.length/\∀(i:Nat) (s:Sp) (c:Cell),l[i]? = some s->cs[i]? = some c->Fit N s c
theorem FitL.cons {N:Nat} {s:Sp} {l:List Sp} {cs:List Cell} (h:FitL N (s::l) cs):∃ c r,cs=c::r/\Fit N s c/\FitL N l r:=by
 obtain ⟨h1,h2⟩:=h
 cases cs with
 | nil=>simp at h1
 | cons c r=>exact ⟨c,r,rfl,h2 0 s c rfl rfl,by simpa using h1,fun i s' c' hs hc=>h2 (i+1) s' c' (by simpa using hs) (by simpa using hc)⟩
theorem FitL.nil {N:Nat} {cs:List Cell} (h:FitL N [] cs):cs=[]:=List.eq_nil_of_length_eq_zero h.1
theorem FitL.one {N:Nat} {s:Sp} {c:Cell} (h:Fit N s c):FitL N [s] [c]:=⟨rfl,fun i s' c' hs hc=>by
 cases i with
 | zero=>simp at hs hc;subst hs hc;exact h
 | succ i=>simp at hs⟩
theorem FitL.append {N:Nat} {l l':List Sp} {cs cs':List Cell} (h:FitL N l cs) (h':FitL N l' cs'):FitL N (l++l') (cs++cs'):=by
 refine ⟨by simp [h.1,h'.1],fun i s c hs hc=>?_⟩
 rcases Nat.lt_or_ge i l.length with hi | hi
 . rw [List.getElem?_append_left hi] at hs;rw [List.getElem?_append_left (by rw [h.1];exact hi)] at hc;exact h.2 i s c hs hc
 . rw [List.getElem?_append_right hi] at hs;rw [List.getElem?_append_right (by rw [h.1];exact hi),h.1] at hc;exact h'.2 _ s c hs hc
structure Bulk (bk:DataW H->Nat):Prop where
 str:∀ b,b.length<=bk (.lit (.string b))
 elems:∀ l r,l.length<=bk (.slice l r)
 elem:∀ l r d,d∈l->bk d<=bk (.slice l r)
 part:∀ l d,d∈l->bk d<=bk (.agg l)
theorem RdD.app0 {M:Nat->Nat->Prop} {w:World}:∀{vs us:List Value} {cs ds:List Cell},RdD M w vs cs->RdD M w us ds->RdD M w (vs++us) (cs++ds)
 | [],_,[],_,_,h=>h
 | _::_,_,_::_,_,h,h'=>⟨h.1,RdD.app0 h.2 h'⟩
theorem cellAt {v:Value} (h:w.cell? a=some v):a.spot=none:=by
 unfold World.cell? at h;split at h
 . split at h
   . cases h
   . rename_i hs;simpa using hs
 . cases h
theorem addrAt (h:a.spot=none) (n:Nat):a.add n=⟨a.block,a.off+n,none⟩:=by
 unfold Addr.add
 split
 . rename_i e;subst e;cases a;simp at h;subst h;rfl
 . rfl
section
variable {bk:DataW H->Nat} {N:Nat}
end
end Go.Slot
namespace Go.Slot
open Go Go.RowKit Go.ChangeShapes Go.WideShapes
variable {P:Program} {H:Type} {enc:TypeId×Value->H}
variable {W W':World}
def M0:Nat->Nat->Prop:=fun _ _=>False
section
variable {w:World} {spare:Nat->Bool} {held:Bool} {bk:DataW H->Nat} {N:Nat} {r:Reach} {b0:Nat}
end
theorem y0e (hl:laidOutB P=true) {W W':World} (hb:Below W.heap.size W W') {sp:Nat->Bool}:∀{ts:List TypeId} {vs:List Value} {ds:List (DataW H)} {ps:List MemPlace},(∀ t∈ts,P.readableRec t=true/\t<P.types.size)->
 DataW.TrodAll enc P W 0 (fun _=>true) true ts vs ds ps->(∀ p∈ps,p.block<W.heap.size)->(∀ p∈ps,sp p.block=true)->DataW.TrodAll enc P W' 0 sp true ts vs ds ps
 | [],vs,ds,ps,_,h,_,_=>by
  obtain ⟨rfl,rfl,rfl⟩:=trodAll_nil h;exact trodAll_mk0
 | t::ts,vs,ds,ps,hts,h,hlt,hsp=>by
  obtain ⟨v,vs',d,ds',p,q,rfl,rfl,rfl,⟨fuel,h1⟩,h2⟩:=trodAll_cons h;have ht:=hts t (by simp)
  exact ⟨p,q,⟨fuel,DataW.trod_stays (kids_book hl ht.1) (book_sized ht.1) (fun h=>by cases h) ⟨ht.2,book_self t⟩ h1 (fun x hx=>hb.same (hlt x (by simp [hx]))) (fun x hx=>hsp x (by simp [hx]))⟩,
   y0e hl hb (fun u hu=>hts u (by simp [hu])) h2 (fun x hx=>hlt x (by simp [hx])) (fun x hx=>hsp x (by simp [hx])),rfl⟩
theorem y4c {may:MemPlace->Prop} (hb:Below W.heap.size W W'):W.keptBut W' may:=by
 refine ⟨hb.os,hb.output,fun i hi=>?_⟩;rw [hb.block i hi]
 split
 . rename_i h1 h2;rw [h1] at h2;cases h2;exact ⟨rfl,rfl,rfl,fun _ _=>rfl⟩
 . rename_i h1 h2;rw [h1] at h2;cases h2;exact .inr ⟨rfl,rfl⟩
 . rfl
theorem xkt (hb:Below W.heap.size W W') {a:Addr} (h:a.block<W.heap.size):W'.frozen? a=W.frozen? a:=by
 unfold World.frozen?;rw [hb.block _ h]
theorem yfo (hl:laidOutB P=true) {f:Func} {s:ChangeSpec} {apart fresh handsOn again:Bool} {args:Array Value} {ds gs:List (DataW H)} {before:List MemPlace} {tb:TypeId}
 (hts:∀ t∈f.params.toList,P.readableRec t=true/\t<P.types.size) (hv:s.vars=[]) (hrt:f.resultTypes=#[tb]) (htb:P.underlying tb=some .bool)
 (hfn:∀ ds gs:List (DataW H),DataW.TrodAll enc P W 0 (fun _=>true) true f.params.toList args.toList ds before->gs=[]->(s.fn H (ds++gs)).results=[.lit (.bool true)]/\(s.fn H (ds++gs)).args=ds/\(s.fn H (ds++gs)).vars=[])
 (hW:DataW.Whole enc P f.params.toList s.vars apart W args.toList ds gs before) (hb:Below W.heap.size W W'):s.post enc P f apart fresh handsOn again W args (.bool true) W':=by
 have hlt:∀ p∈before,p.block<W.heap.size:=fun p hp=>hW.lt p hp
 have hW':=hW;obtain ⟨p,q,hA,hV,rfl,hfz,hnd⟩:=hW;rw [hv] at hV;obtain ⟨rfl,rfl⟩:=trodVars_none hV;rw [List.append_nil] at hW' hlt hfz hnd hfn;obtain ⟨e1,e2,e3⟩:=hfn ds [] hA rfl
 have hres:∀(b:Nat) (sp:Nat->Bool) (hd:Bool),DataW.TrodAll enc P W' b sp hd f.resultTypes.toList ((Value.bool true).resultList f.resultTypes.size) (s.fn H (ds++[])).results []:=fun b sp hd=>by
  rw [e1,hrt];exact trodAll_cons_mk (shut_bool htb true) trodAll_mk0
 have hargs:∀ sp:Nat->Bool,(∀ x∈p,sp x.block=true)->DataW.TrodAll enc P W' 0 sp true f.params.toList args.toList (s.fn H (ds++[])).args p:=fun sp hsp=>by
  rw [e2];exact y0e hl hb hts hA hlt hsp
 have hvars:∀ sp:Nat->Bool,DataW.TrodVars enc P W' sp s.vars (s.fn H (ds++[])).vars []:=fun sp=>by
  rw [e3,hv];exact rfl
 refine ⟨ds,[],p,[],p,[],hW',hres _ _ _,hargs _ (fun x hx=>by simpa using hlt x hx),hvars _,y4c hb,fun _=>⟨?_,_,_,([]++p)++[],⟨[]++p,[],trodAll_append (hargs _ (fun _ _=>rfl)) (hres _ _ _),hvars _,rfl,?_,?_⟩,?_⟩⟩
 . exact ok_one hrt rfl (okWide_bool_mk htb true)
 . intro b off hp
   have hp':MemPlace.cell b off∈p:=by simpa using hp
   rw [xkt hb (hlt _ hp')];exact hfz b off hp'
 . intro ha;simpa using hnd ha
 . intro x hx _;simpa using hx
end Go.Slot
namespace Go.Slot
open Go Go.RowKit Go.ChangeShapes
variable {k:IntKind} {e:TypeId}
def z8p (P:Program):Nat->List Field->Bool
 | _,[]=>true
 | off,f::r=>f.offset==off&&z8p P (off+P.cellsOf f.type) r
def yuz (P:Program):List Field->Nat
 | []=>0
 | f::r=>P.cellsOf f.type+yuz P r
def vj2 (P:Program) (L:List TypeId):Bool:=L.all fun t=>match P.underlying t with
 | some .bool=>true
 | some (.int _)=>true
 | some .string=>true
 | some (.slice e)=>L.contains e&&(P.cellsOf e != 0)&&(match P.underlying e with | some (.int _)=>P.cellsOf e==1 | _=>true)
 | some (.array n e)=>L.contains e&&(P.cellsOf t==n*P.cellsOf e)
 | some (.struct fs)=>(fs.toList.all fun f=>L.contains f.type)&&z8p P 0 fs.toList&&(P.cellsOf t==yuz P fs.toList)
 | _=>false
inductive FitT (P:Program) (N:Nat):TypeId->List Cell->Prop
 | int {t:TypeId} {k:IntKind} {n:Int} (ht:P.underlying t=some (.int k)) (h:k.min<=n/\n<=k.max):FitT P N t [.raw (.int k n)]
 | bool {t:TypeId} {b:Bool} (ht:P.underlying t=some .bool):FitT P N t [.raw (.bool b)]
 | str {t:TypeId} {s:ByteArray} (ht:P.underlying t=some .string) (h:s.size<=N):FitT P N t [.raw (.string s)]
 | ints {t e:TypeId} {k:IntKind} {l:List Int} (ht:P.underlying t=some (.slice e)) (he:P.underlying e=some (.int k)) (hl:l.length<=N) (h:∀ x∈l,k.min<=x/\x<=k.max):FitT P N t [.ints k l]
 | sl {t e:TypeId} {rows:List (List Cell)} (ht:P.underlying t=some (.slice e)) (he:∀ k,P.underlying e≠some (.int k)) (hl:rows.length<=N) (h:∀ r∈rows,FitT P N e r):FitT P N t [.sl (P.cellsOf e) rows]
 | struct {t:TypeId} {fs:Array Field} {rows:List (List Cell)} (ht:P.underlying t=some (.struct fs)) (hl:rows.length=fs.size) (h:∀(i:Nat) (f:Field) (r:List Cell),fs.toList[i]? = some f->rows[i]? = some r->FitT P N f.type r):FitT P N t rows.flatten
 | array {t e:TypeId} {n:Nat} {rows:List (List Cell)} (ht:P.underlying t=some (.array n e)) (hl:rows.length=n) (h:∀ r∈rows,FitT P N e r):FitT P N t rows.flatten
section
variable {P:Program} {N:Nat} {t:TypeId} {cs:List Cell}
theorem FitT.y1i (h:FitT P N t cs) (ht:P.underlying t=some (.int k)):∃ n,cs=[.raw (.int k n)]/\k.min<=n/\n<=k.max:=by
 cases h with
 | int h1 h2=>rw [ht] at h1;cases h1;exact ⟨_,rfl,h2⟩
 | bool h1=>rw [ht] at h1;cases h1
 | str h1=>rw [ht] at h1;cases h1
 | ints h1=>rw [ht] at h1;cases h1
 | sl h1=>rw [ht] at h1;cases h1
 | struct h1=>rw [ht] at h1;cases h1
 | array h1=>rw [ht] at h1;cases h1
theorem FitT.wkk (h:FitT P N t cs) (ht:P.underlying t=some .string):∃ s,cs=[.raw (.string s)]/\s.size<=N:=by
 cases h with
 | int h1 h2=>rw [ht] at h1;cases h1
 | bool h1=>rw [ht] at h1;cases h1
 | str h1 h2=>exact ⟨_,rfl,h2⟩
 | ints h1=>rw [ht] at h1;cases h1
 | sl h1=>rw [ht] at h1;cases h1
 | struct h1=>rw [ht] at h1;cases h1
 | array h1=>rw [ht] at h1;cases h1
theorem FitT.zsh (h:FitT P N t cs) (ht:P.underlying t=some (.slice e)) (he:P.underlying e=some (.int k)):∃ l,cs=[.ints k l]/\l.length<=N/\∀ x∈l,k.min<=x/\x<=k.max:=by
 cases h with
 | int h1 h2=>rw [ht] at h1;cases h1
 | bool h1=>rw [ht] at h1;cases h1
 | str h1 h2=>rw [ht] at h1;cases h1
 | ints h1 h2 h3 h4=>rw [ht] at h1;cases h1;rw [he] at h2;cases h2;exact ⟨_,rfl,h3,h4⟩
 | sl h1 h2=>rw [ht] at h1;cases h1;exact absurd he (h2 _)
 | struct h1=>rw [ht] at h1;cases h1
 | array h1=>rw [ht] at h1;cases h1
theorem FitT.wl9 (h:FitT P N t cs) (ht:P.underlying t=some (.slice e)) (he:∀ k,P.underlying e≠some (.int k)):∃ rows,cs=[.sl (P.cellsOf e) rows]/\rows.length<=N/\∀ r∈rows,FitT P N e r:=by
 cases h with
 | int h1 h2=>rw [ht] at h1;cases h1
 | bool h1=>rw [ht] at h1;cases h1
 | str h1 h2=>rw [ht] at h1;cases h1
 | ints h1 h2 h3 h4=>rw [ht] at h1;cases h1;exact absurd h2 (he _)
 | sl h1 h2 h3 h4=>rw [ht] at h1;cases h1;exact ⟨_,rfl,h3,h4⟩
 | struct h1=>rw [ht] at h1;cases h1
 | array h1=>rw [ht] at h1;cases h1
theorem FitT.ytp (h:FitT P N t cs) {fs:Array Field} (ht:P.underlying t=some (.struct fs)):∃ rows:List (List Cell),cs=rows.flatten/\rows.length=fs.size/\
 ∀(i:Nat) (f:Field) (r:List Cell),fs.toList[i]? = some f->rows[i]? = some r->FitT P N f.type r:=by
 cases h with
 | int h1 h2=>rw [ht] at h1;cases h1
 | bool h1=>rw [ht] at h1;cases h1
 | str h1 h2=>rw [ht] at h1;cases h1
 | ints h1 h2 h3 h4=>rw [ht] at h1;cases h1
 | sl h1 h2 h3 h4=>rw [ht] at h1;cases h1
 | struct h1 h2 h3=>rw [ht] at h1;cases h1;exact ⟨_,rfl,h2,h3⟩
 | array h1=>rw [ht] at h1;cases h1
end
variable {P:Program} {H:Type} {enc:TypeId×Value->H} {w:World} {spare:Nat->Bool} {held:Bool} {bk:DataW H->Nat} {N:Nat}
theorem RdD.wgf {M:Nat->Nat->Prop}:∀{vs:List Value} {cs:List Cell},RdD M w vs cs->∀ j (hj:j<cs.length),RdC M w (vs.getD j Go.undef) cs[j]
 | [],[],_,j,hj=>by simp at hj
 | _::_,[],h,_,_=>h.elim
 | [],_::_,h,_,_=>h.elim
 | _::_,_::_,h,0,_=>h.1
 | _::vs,_::cs,h,j+1,hj=>by simpa using RdD.wgf (vs:=vs) (cs:=cs) h.2 j (by simpa using hj)
theorem vou {L:List TypeId} {fuel:Nat} (hrec:∀(t:TypeId),t∈L->∀(cs:List Value) (x:DataW H×List MemPlace),DataW.trod enc P w 0 spare held fuel t cs=some x->bk x.1<=N->
 ∃ cells,RdD (fun _ _=>False) w cs cells/\FitT P N t cells) :
 ∀(fs:List Field) (off:Nat) (cs:List Value) (xs:List (DataW H×List MemPlace)),z8p P off fs=true->(∀ f∈fs,f.type∈L)->cs.length=off+yuz P fs->xs.length=fs.length->
  (∀(i:Nat) (f:Field),fs[i]? = some f->DataW.trod enc P w 0 spare held fuel f.type ((cs.drop f.offset).take (P.cellsOf f.type))=xs[i]?)->(∀ x∈xs,bk x.1<=N)->
  ∃ rows:List (List Cell),RdD (fun _ _=>False) w (cs.drop off) rows.flatten/\rows.length=fs.length/\∀(i:Nat) (f:Field) (r:List Cell),fs[i]? = some f->rows[i]? = some r->FitT P N f.type r
 | [],off,cs,xs,_,_,hlen,_,_,_=>by
  refine ⟨[],?_,rfl,fun i f r hf=>by simp at hf⟩;rw [List.drop_eq_nil_of_le (by simp [yuz] at hlen;omega)];exact trivial
 | f::fs,off,cs,xs,ht,hL,hlen,hxs,hx,hb=>by
  simp only [z8p,Bool.and_eq_true,beq_iff_eq] at ht;obtain ⟨hoff,ht⟩:=ht;simp only [yuz] at hlen
  cases xs with
  | nil=>simp at hxs
  | cons x xs=>
   have h0:=hx 0 f rfl;simp only [List.getElem?_cons_zero] at h0;obtain ⟨c0,r0,f0⟩:=hrec f.type (hL f (by simp)) _ x h0 (hb x (by simp))
   obtain ⟨rows,r1,f1,f2⟩:=vou hrec fs (off+P.cellsOf f.type) cs xs ht (fun g hg=>hL g (by simp [hg])) (by omega) (by simpa using hxs) (fun i f' hf=>by
    have:=hx (i+1) f' (by simpa using hf)
    simpa using this) (fun y hy=>hb y (by simp [hy]))
   refine ⟨c0::rows,?_,by simp [f1],fun i f' r hf hr=>?_⟩
   . have:cs.drop off=(cs.drop f.offset).take (P.cellsOf f.type)++cs.drop (off+P.cellsOf f.type):=by
      rw [hoff,<-List.drop_drop,List.take_append_drop]
     rw [this,List.flatten_cons];exact r0.app0 r1
   . cases i with
     | zero=>simp at hf hr;subst hf hr;exact f0
     | succ i=>exact f2 i f' r (by simpa using hf) (by simpa using hr)
theorem wet {e:TypeId} {fuel:Nat} (hrec:∀(cs:List Value) (x:DataW H×List MemPlace),DataW.trod enc P w 0 spare held fuel e cs=some x->bk x.1<=N->
 ∃ cells,RdD (fun _ _=>False) w cs cells/\FitT P N e cells) (cs:List Value) :
 ∀(n k:Nat) (xs:List (DataW H×List MemPlace)),cs.length=(k+n)*P.cellsOf e->xs.length=k+n->
  (∀(i:Nat),k<=i->i<k+n->DataW.trod enc P w 0 spare held fuel e ((cs.drop (i*P.cellsOf e)).take (P.cellsOf e))=xs[i]?)->(∀ x∈xs,bk x.1<=N)->
  ∃ rows:List (List Cell),RdD (fun _ _=>False) w (cs.drop (k*P.cellsOf e)) rows.flatten/\rows.length=n/\∀ r∈rows,FitT P N e r
 | 0,k,xs,hlen,_,_,_=>by
  refine ⟨[],?_,rfl,fun r hr=>by cases hr⟩;rw [List.drop_eq_nil_of_le (by rw [hlen];simp)];exact trivial
 | n+1,k,xs,hlen,hxs,hx,hb=>by
  have hk:k<xs.length:=by omega
  have h0:=hx k (Nat.le_refl _) (by omega);rw [List.getElem?_eq_getElem hk] at h0;obtain ⟨c0,r0,f0⟩:=hrec _ _ h0 (hb _ (List.getElem_mem hk));obtain ⟨rows,r1,f1,f2⟩:=wet hrec cs n (k+1) xs (by rw [hlen];congr 1;omega) (by omega) (fun i h1 h2=>hx i (by omega) (by omega)) hb;refine ⟨c0::rows,?_,by simp [f1],fun r hr=>?_⟩
  . have:cs.drop (k*P.cellsOf e)=(cs.drop (k*P.cellsOf e)).take (P.cellsOf e)++cs.drop ((k+1)*P.cellsOf e):=by
     rw [Nat.add_mul,Nat.one_mul,<-List.drop_drop,List.take_append_drop]
    rw [this,List.flatten_cons];exact r0.app0 r1
  . cases List.mem_cons.1 hr with
    | inl h=>subst h;exact f0
    | inr h=>exact f2 r h
theorem xlu (hB:Bulk bk) {L:List TypeId} (hL:vj2 P L=true):∀(fuel:Nat) (t:TypeId),t∈L->∀(cs:List Value) (x:DataW H×List MemPlace),DataW.trod enc P w 0 spare held fuel t cs=some x->bk x.1<=N->
 ∃ cells,RdD (fun _ _=>False) w cs cells/\FitT P N t cells:=by
 intro fuel
 induction fuel with
 | zero=>intro t _ cs x h;simp [DataW.trod] at h
 | succ fuel ih=>
  intro t htL cs x hx hb;have hok:=List.all_eq_true.1 hL t htL;split at hok
  . rename_i ht;obtain ⟨b,rfl,rfl⟩:=DataW.trod_bool ht hx;exact ⟨[.raw (.bool b)],⟨.raw rfl,trivial⟩,.bool ht⟩
  . rename_i k ht;obtain ⟨m,rfl,rfl,hw⟩:=DataW.trod_int ht hx;exact ⟨[.raw (.int k m)],⟨.raw rfl,trivial⟩,.int ht (by simpa [Lit.wf] using hw)⟩
  . rename_i ht;obtain ⟨s,rfl,rfl,_⟩:=DataW.trod_string ht hx;refine ⟨[.raw (.string s)],⟨.raw rfl,trivial⟩,.str ht ?_⟩;have h1:=hB.str s.data.toList;have e:s.data.toList.length=s.size:=Array.length_toList;have hb:bk (.lit (.string s.data.toList))<=N:=hb;omega
  . rename_i e ht;simp only [Bool.and_eq_true,bne_iff_ne,ne_eq] at hok;obtain ⟨⟨heL,hc0⟩,hk⟩:=hok
    have heL:e∈L:=by simpa using heL
    by_cases hint:∃ k,P.underlying e=some (.int k)
    . obtain ⟨k,he⟩:=hint;rw [he] at hk
      have hc:P.cellsOf e=1:=by simpa using hk
      rcases open_ints ht he hc hx with ⟨rfl,rfl⟩ | ⟨a,len,cap,zs,rfl,_,hlc,_,hzl,rfl,hcell,hwf⟩
      . exact ⟨[.ints k []],⟨.ints 0 0 rfl (Nat.le_refl _) (fun h=>absurd rfl h) (fun i hi=>absurd hi (Nat.not_lt_zero i)),trivial⟩,.ints ht he (Nat.zero_le _) (fun x hx=>by cases hx)⟩
      . have hle:len<=zs.length:=by rw [hzl];split<;>omega
        have htl:(zs.take len).length=len:=by simp;omega
        refine ⟨[.ints k (zs.take len)],⟨.ints a.block a.off htl.symm hlc (fun hne=>?_) (fun i hi=>⟨fun h=>h,?_⟩),trivial⟩,.ints ht he ?_ (fun x hx=>?_)⟩
        . have hpos:0<zs.length:=by
           have:=List.length_pos_iff.2 hne
           omega
          have h0:=cellAt (hcell 0 hpos)
          have h0:a.spot=none:=by simpa [Addr.add] using h0
          cases a;simp at h0;subst h0;rfl
        . have hi':i<zs.length:=by omega
          have h1:=hcell i hi'
          have hs:a.spot=none:=by
           have h0:=cellAt (hcell 0 (by omega));simpa [Addr.add] using h0
          rw [addrAt hs] at h1;rw [h1];simp [hi']
        . have:=hB.elems (lits (H:=H) k (zs.take len)) (lits k (zs.drop len))
          have e1:(lits (H:=H) k (zs.take len)).length=len:=by simp [lits];omega
          have hb:bk (.slice (lits k (zs.take len)) (lits k (zs.drop len)))<=N:=hb;omega
        . have:=hwf x (List.mem_of_mem_take hx)
          simpa [Lit.wf] using this
    . have hint:∀ k,P.underlying e≠some (.int k):=fun k hk=>hint ⟨k,hk⟩
      rcases DataW.trod_slice ht hx with ⟨rfl,rfl⟩ | ⟨a,len,cap,elems,rest,m,hm,rfl,rfl,_,hlc,_,hlen,hel,_,_⟩
      . exact ⟨[.sl (P.cellsOf e) []],⟨.sl 0 0 (fun _ _=>Go.undef) rfl (Nat.le_refl _) (fun h=>absurd rfl h) (fun r hr=>by cases hr) (fun i hi=>absurd hi (Nat.not_lt_zero i)) (fun i hi=>absurd hi (Nat.not_lt_zero i)),trivial⟩,
         .sl ht hint (Nat.zero_le _) (fun r hr=>by cases hr)⟩
      . obtain rfl:fuel=m:=by omega
        have each:∀ i,i<len->∃(vs:List Value) (row:List Cell),vs.length=P.cellsOf e/\(∀ j,j<P.cellsOf e->w.cell? ((a.add (i*P.cellsOf e)).add j)=vs[j]?)/\RdD (fun _ _=>False) w vs row/\FitT P N e row:=fun i hi=>by
         have h1:=hel i hi
         have hi':i<elems.length:=by omega
         rw [List.getElem?_eq_getElem hi'] at h1;simp only [Option.bind_eq_some_iff] at h1;obtain ⟨vs,hvs,htr⟩:=h1;obtain ⟨_,h2,h3⟩:=World.cells?_some hvs;have hbe:bk elems[i].1<=N:=Nat.le_trans (hB.elem (elems.map (·.1)) (rest.map (·.1)) elems[i].1 (List.mem_map.2 ⟨_,List.getElem_mem hi',rfl⟩)) hb;obtain ⟨row,r1,r2⟩:=ih e heL vs _ htr hbe;exact ⟨vs,row,h2,h3,r1,r2⟩
        have hlN:len<=N:=by
         have h1:=hB.elems (elems.map (·.1)) (rest.map (·.1));rw [List.length_map] at h1;have hb:bk (.slice (elems.map (·.1)) (rest.map (·.1)))<=N:=hb;omega
        have pick:∃(V:Nat->List Value) (R:Nat->List Cell),∀ i,i<len->(V i).length=P.cellsOf e/\(∀ j,j<P.cellsOf e->w.cell? ((a.add (i*P.cellsOf e)).add j)=(V i)[j]?)/\RdD (fun _ _=>False) w (V i) (R i)/\FitT P N e (R i):=by
         refine ⟨fun i=>if h:i<len then Classical.choose (each i h) else [],fun i=>if h:i<len then Classical.choose (Classical.choose_spec (each i h)) else [],fun i hi=>?_⟩;simp only [dif_pos hi];exact Classical.choose_spec (Classical.choose_spec (each i hi))
        obtain ⟨V,R,hVR⟩:=pick
        have hspot:∀ i j,i<len->j<P.cellsOf e->a.spot=none:=fun i j hi hj=>by
         have h0:0<len:=by omega
         have h2:=(hVR 0 h0).2.1 0 (by omega)
         have hl0':0<(V 0).length:=by rw [(hVR 0 h0).1];omega
         rw [List.getElem?_eq_getElem hl0'] at h2
         have:=cellAt h2
         simpa [Addr.add] using this
        have hrl:∀ i,i<len->(R i).length=P.cellsOf e:=fun i hi=>by rw [<-(hVR i hi).2.2.1.length];exact (hVR i hi).1
        refine ⟨[.sl (P.cellsOf e) ((List.range len).map R)],⟨.sl a.block a.off (fun i j=>(V i).getD j Go.undef) (by simp) hlc (fun hne=>?_) (fun r hr=>?_) (fun i hi j hj=>⟨fun h=>h,?_⟩) (fun i hi j hj=>?_),trivial⟩,.sl ht hint (by simpa using hlN) (fun r hr=>?_)⟩
        . have h0:0<len:=by
           rcases Nat.eq_zero_or_pos len with h | h
           . subst h;simp at hne
           . exact h
          have h1:=hspot 0 0 h0 (by omega)
          cases a;simp at h1;subst h1;rfl
        . obtain ⟨i,hi,rfl⟩:=List.mem_map.1 hr;exact hrl i (List.mem_range.1 hi)
        . simp at hi;have h1:=(hVR i hi).2.1 j hj
          have hjl:j<(V i).length:=by rw [(hVR i hi).1];exact hj
          rw [addrAt (hspot i j hi hj),addrAt rfl] at h1;simp only at h1;rw [h1,List.getElem?_eq_getElem hjl];simp [hjl]
        . simp at hi;simp only [List.getElem_map,List.getElem_range] at hj ⊢;exact RdD.wgf (hVR i hi).2.2.1 j hj
        . obtain ⟨i,hi,rfl⟩:=List.mem_map.1 hr;exact (hVR i (List.mem_range.1 hi)).2.2.2
  . rename_i n e ht;simp only [Bool.and_eq_true,beq_iff_eq] at hok;obtain ⟨heL,hc⟩:=hok
    have heL:e∈L:=by simpa using heL
    obtain ⟨xs,m,hm,rfl,hcl,hxl,hel⟩:=DataW.trod_array ht hx
    obtain rfl:fuel=m:=by omega
    obtain ⟨rows,r1,r2,r3⟩:=wet (fun cs' x' h1 h2=>ih e heL cs' x' h1 h2) cs n 0 xs (by rw [hcl,hc,Nat.zero_add]) (by omega) (fun i _ h2=>hel i (by omega)) (fun y hy=>
     Nat.le_trans (hB.part (xs.map (·.1)) y.1 (List.mem_map.2 ⟨y,hy,rfl⟩)) hb)
    exact ⟨rows.flatten,by simpa using r1,.array ht r2 r3⟩
  . rename_i fs ht;simp only [Bool.and_eq_true,beq_iff_eq] at hok;obtain ⟨⟨hfL,htt⟩,hc⟩:=hok;obtain ⟨xs,m,hm,rfl,hcl,hxl,hf⟩:=DataW.trod_struct ht hx
    obtain rfl:fuel=m:=by omega
    obtain ⟨rows,r1,r2,r3⟩:=vou (fun t' hL' cs' x' h1 h2=>ih t' hL' cs' x' h1 h2) fs.toList 0 cs xs htt (fun f hf=>by simpa using List.all_eq_true.1 hfL f hf) (by omega) (by simpa using hxl) (fun i f hf'=>hf i f (by simpa using hf')) (fun y hy=>
     Nat.le_trans (hB.part (xs.map (·.1)) y.1 (List.mem_map.2 ⟨y,hy,rfl⟩)) hb)
    exact ⟨rows.flatten,by simpa using r1,.struct ht (by simpa using r2) r3⟩
  . cases hok
end Go.Slot
