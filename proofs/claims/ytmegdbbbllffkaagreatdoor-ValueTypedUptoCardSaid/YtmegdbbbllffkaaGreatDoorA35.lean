/- The proof, part A35: Rm, Gt, Xd, Vp, Ge. -/
import Derived.Test.YtmegdbbbllffkaaGreatDoorA33
import Derived.Test.YtmegdbbbllffkaaGreatDoorA34
import Derived.Test.YtmegdbbbllffkaaGreatDoorA12
import Derived.Test.YtmegdbbbllffkaaGreatDoorA13
import Derived.Test.YtmegdbbbllffkaaGreatDoorA26
import Derived.Test.YtmegdbbbllffkaaGreatDoorRows
import Derived.Deep.DeepHandedRow
import Derived.LaidMore
import Derived.MakeChecks
import Derived.ProofKit
namespace Go.Slot.T
open Go Go.RowKit Go.Slot
open Go.Proofs.Tryz (prog)
set_option maxRecDepth 10000
set_option maxHeartbeats 4000000
theorem v2q {α:Type} {l:List α} {i:Nat} (d:α) (h:i<l.length):l.take (i+1)=l.take i++[l.getD i d]:=by
 rw [List.take_add_one];simp [h]
theorem rFew (f:Fc) (n:Int) (_h1:f.L.length<=1099511627776) (_h2:f.M.length<=1099511627776) :
 yn2 prog 25 [.agg f.C,.one (.raw (.int .i64 n))] (.one (.raw (.bool (decide ((f.sz:Int)<=n))))):=by
 have e:((f.sz:Nat):Int)=max (f.L.length:Int) f.M.length:=by unfold Fc.sz;omega
 refine yn2.run [] Go.Proofs.Tryz.func25 rfl rfl ?_;simp only [Go.Proofs.Tryz.f25];refine rgR ?_;refine z4u (fun h=>?_) (fun h=>?_)
 . have h':=decide_eq_true h;refine rg1 @h' ?_;exact ⟨_,rfl,by rw [show decide ((f.sz:Int)<=n)=decide ((f.M.length:Int)<=n) from decide_eq_decide.2 (by omega)];exact .one (.refl _)⟩
 . have h':=decide_eq_false h;refine rg1 @h' ?_;exact ⟨_,rfl,by rw [decide_eq_false (by omega)];exact .one (.refl _)⟩
theorem wr8 (f:Fc) (h1:f.L.length<=1099511627776) (h2:f.M.length<=1099511627776) :
 yn2 prog 25 [.agg f.C,.one (.raw (.int .i64 4))] (.one (.raw (.bool (decide (f.sz<=4))))):=by
 have:=rFew f 4 h1 h2
 rwa [decide_eq_decide.2 (show (f.sz:Int)<=4↔f.sz<=4 by omega)] at this
theorem zoo (s:Int) (L:List Int) (s':Int) (M:List Int) (lL:L.length<=1073741824) (_lM:M.length<=1073741824) :
 yn2 prog 80 [.agg [.raw (.int .i64 s),.ints .i64 L],.agg [.raw (.int .i64 s'),.ints .i64 M]] (.one (.raw (.bool (decide (s=s'/\L=M))))):=by
 obtain ⟨r,hr⟩:∃ r,r=decide (s=s'/\L=M):=⟨_,rfl⟩;rw [<-hr]
 have bad:¬(s=s'/\L=M)->false=r:=fun h=>by rw [hr,decide_eq_false h]
 by_cases h1:s=s'
 . subst h1;by_cases h2:(L.length:Int)=M.length
   . have hl:L.length=M.length:=by omega
     have h2':¬((L.length:Int)≠M.length):=fun h=>h h2
     refine yn2.run [] Go.Proofs.Tryz.func80 rfl rfl ?_;simp only [Go.Proofs.Tryz.f80];refine rgR ?_;refine z08 (fun h=>absurd h h2') (fun _=>?_);refine rg ?_;refine vxs [] (fun i:Nat=>[(5,.one (.raw (.int .i64 i)))]) (fun i=>i<=L.length/\L.take i=M.take i) (fun i=>L.length-i) 0 ⟨Nat.zero_le _,rfl⟩ ?_ ?_
     . refine rg ?_;exact StLe.weaken (by repeat' first | exact .nil | refine .cons (by first | exact .refl _ | exact .any _) ?_) rfl
     rintro i ⟨hi,he⟩;refine rg ?_;refine z08 (fun h1=>?_) (fun h1=>?_)
     . have hg:∀(l:List Int),i<l.length->l.take (i+1)=l.take i++[l.getD i 0]:=fun l h=>v2q 0 h
       refine rg ?_;refine indk (by kernel_rfl) ?_;refine rg ?_;refine z08 (fun h2=>?_) (fun h2=>?_)
       . refine rg ?_;exact ⟨_,rfl,by rw [bad (fun e=>h2 (by rw [e.2]))];exact .one (.refl _)⟩
       . have h2:L.getD i 0=M.getD i 0:=by omega
         refine rg ?_;refine ⟨i+1,⟨by omega,?_⟩,by omega,StLe.weaken (by repeat' first | exact .nil | refine .cons (by first | exact .refl _ | exact .any _) ?_) rfl⟩;rw [hg L (by omega),hg M (by omega),he,h2]
     . have hi:i=L.length:=by omega
       subst hi;rw [List.take_length,hl,List.take_length] at he
       have e:true=r:=by rw [hr,decide_eq_true ⟨rfl,he⟩]
       refine rg ?_;exact ⟨_,rfl,by rw [e];exact .one (.refl _)⟩
   . have h2:(L.length:Int)≠M.length:=h2;refine yn2.run [] Go.Proofs.Tryz.func80 rfl rfl ?_;simp only [Go.Proofs.Tryz.f80];refine rgR ?_;refine z08 (fun _=>?_) (fun h=>absurd h2 h);refine rg ?_;exact ⟨_,rfl,by rw [bad (fun e=>h2 (by rw [e.2]))];exact .one (.refl _)⟩
 . have h1':=decide_eq_true (show s≠s' from h1);refine yn2.run [] Go.Proofs.Tryz.func80 rfl rfl ?_;simp only [Go.Proofs.Tryz.f80];refine rgR ?_;refine xjr (fun h=>absurd h1 h) (fun h=>?_);refine rg1 @h1' ?_;exact ⟨_,rfl,by rw [bad (fun e=>h1 e.1)];exact .one (.refl _)⟩
theorem ywv (a b:Fc) (ha:a.sz<=67108864) (hb:b.sz<=67108864):yn2 prog 37 [.agg a.C,.agg b.C] (.one (.raw (.bool (decide (a=b))))):=by
 have la:=szL ha;have lb:=szL hb;obtain ⟨r,hr⟩:∃ r,r=decide (a=b):=⟨_,rfl⟩;rw [<-hr];by_cases h:a.s=b.s/\a.L=b.L
 . have h1:=zoo a.s a.L b.s b.L (by omega) (by omega);rw [decide_eq_true h] at h1;have h2:=zoo a.t a.M b.t b.M (by omega) (by omega)
   have e:decide (a.t=b.t/\a.M=b.M)=r:=by
    rw [hr];apply decide_eq_decide.2;constructor
    . intro h';cases a;cases b;simp at h h';simp [h,h']
    . intro h';rw [h'];exact ⟨rfl,rfl⟩
   rw [e] at h2;refine yn2.run [] Go.Proofs.Tryz.func37 rfl rfl ?_;simp only [Go.Proofs.Tryz.f37];refine rgR ?_;refine v1h h1 ?_;refine rg ?_;refine v1h h2 ?_;refine rg ?_;exact ⟨_,rfl,.one (.refl _)⟩
 . have h1:=zoo a.s a.L b.s b.L (by omega) (by omega);rw [decide_eq_false h] at h1
   have e:r=false:=by rw [hr,decide_eq_false (fun e=>h (by rw [e];exact ⟨rfl,rfl⟩))]
   subst e;refine yn2.run [] Go.Proofs.Tryz.func37 rfl rfl ?_;simp only [Go.Proofs.Tryz.f37];refine rgR ?_;refine v1h h1 ?_;refine rg ?_;exact ⟨_,rfl,.one (.refl _)⟩
end Go.Slot.T
namespace Go.Hp.T
open Go Go.RowKit Go.Slot Go.Hp
set_option maxRecDepth 10000
theorem nc0:((0:Nat):Int)=0:=rfl
theorem nc1:((1:Nat):Int)=1:=rfl
theorem nc2:((2:Nat):Int)=2:=rfl
theorem nc3:((3:Nat):Int)=3:=rfl
attribute [go_sem] decide_true decide_false nc0 nc1 nc2 nc3
theorem z3r {x:Ex} (h:yxn x=true) (hne:x.args.length≠0):2<=x.op/\x.op<=15:=by
 unfold yxn at h;by_cases a0:x.op=0
 . rw [decide_eq_true a0,cond_true] at h;simp only [Bool.and_eq_true,decide_eq_true_eq] at h;omega
 rw [decide_eq_false a0,cond_false] at h
 cases hb:(decide (¬x.n=0)||decide (¬x.unit.size=0)) with
 | true=>rw [hb,cond_true] at h;cases h
 | false=>
 rw [hb,cond_false] at h;by_cases a1:x.op=1
 . rw [decide_eq_true a1,cond_true] at h;simp only [Bool.and_eq_true,decide_eq_true_eq] at h;omega
 rw [decide_eq_false a1,cond_false] at h;by_cases a2:x.op=2
 . omega
 by_cases a3:x.op=3
 . omega
 by_cases a4:x.op=4
 . omega
 by_cases a5:x.op=5
 . omega
 rw [decide_eq_false a2,decide_eq_false a3,decide_eq_false a4,decide_eq_false a5] at h;simp only [cond_false] at h;by_cases a6:x.op=10\/x.op=11
 . omega
 rw [decide_eq_false (fun h=>a6 (.inl h)),decide_eq_false (fun h=>a6 (.inr h))] at h;simp only [Bool.or_self,cond_false,Bool.and_eq_true] at h
 have:=h.1.1
 unfold isOp at this;simp only [Bool.or_eq_true,decide_eq_true_eq] at this;omega
end Go.Hp.T
namespace Go.Hp.T
open Go Go.RowKit Go.Slot Go.Hp Go.Slot.T
open Go.Proofs.Tryz (prog)
set_option maxRecDepth 10000
set_option maxHeartbeats 4000000
variable {Γ:List (Nat×List Cell)}
theorem vkw {B : Nat} (hB : 4300 ≤ B) {x : Ex} {bs : List Bd} {ms : List Tb} (hb : ∀ b ∈ bs, b.v.sz + 10 ≤ B) : qz (valF x bs ms).1.v ≤ B * 200 := by
 unfold valF
 cases h1:xub x with
 | false=>exact Nat.zero_le _
 | true=>cases h2:x.xi4 with
  | true=>exact Nat.zero_le _
  | false=>cases h3:entF bs ms with
   | none=>exact Nat.zero_le _
   | some p=>
    have hsh:x.shaped=true:=by unfold xub at h1;rw [Bool.and_eq_true] at h1;exact h1.2
    have h4:=v6n (V:=p.1) (T:=p.2) hB (y2d (V:=p.1) (T:=p.2) h3 hb) x hsh h2;have h5:=wl8 h1;exact Nat.le_trans h4 (Nat.mul_le_mul_left _ h5)
theorem ypj (a b:Option Rat) (ha:qz a<=67108864) (hb:qz b<=67108864):CallsD Γ prog 37 [.agg (qC a),.agg (qC b)] (.one (cB (decide (a=b)))):=by
 have h:=toD (Γ:=Γ) (ywv (qF a) (qF b) ha hb);rw [show decide (qF a=qF b)=decide (a=b) from decide_eq_decide.2 ⟨zym,fun h=>by rw [h]⟩] at h;exact h
theorem x6g (a b:Rs) (ha:qz a.v<=67108864) (hb:qz b.v<=67108864):CallsD Γ prog 13 [.agg (rsC a),.agg (rsC b)] (.one (cB (decide (a=b)))):=by
 have h:=ypj (Γ:=Γ) a.v b.v ha hb;obtain ⟨t,i,v⟩:=a;obtain ⟨u,j,w⟩:=b;simp only at h
 have e:decide ((⟨t,i,v⟩:Rs)=⟨u,j,w⟩)=(t==u&&(i==j&&decide (v=w))):=by
  apply Bool.eq_iff_iff.2;simp only [Rs.mk.injEq,decide_eq_true_eq,Bool.and_eq_true,beq_iff_eq]
 rw [e];generalize decide (v=w)=r at h
 cases t<;>cases u<;>cases i<;>cases j
 all_goals
  refine CallsD.run [] Go.Proofs.Tryz.func13 rfl rfl rfl ?_;simp only [Go.Proofs.Tryz.f13];refine hgR ?_
  repeat' ((first | refine hfk ?_ ?_<;>intros | refine hik ?_ | with_reducible first | refine v6l (h) ?_ | refine vgi (h) ?_)<;>refine hgS ?_)
  all_goals refine lfE ?_;first | exact trivial | rfl
def zpp (t:Tb):Bool:=decide ((t.rows.length:Int)<=110)&&(decide ((t.name.size:Int)<=40)&&decide ((t.unit.size:Int)<=40))
theorem zbw (t:Tb) (_h3:t.rows.length<=1073741824):CallsD Γ prog 62 [.agg (tbC t)] (.one (cB (zpp t))):=by
 refine CallsD.run [] Go.Proofs.Tryz.func62 rfl rfl rfl ?_;simp only [Go.Proofs.Tryz.f62];refine hgR ?_
 repeat' ((first | refine hfk ?_ ?_<;>intros | refine hik ?_)<;>refine hgS ?_)
 all_goals refine lf1 @zpp.eq_def ?_;first | exact trivial | rfl
def y4d (ms:List Tb):Bool:=(ms.take 7).all zpp&&decide ((ms.length:Int)<=6)
theorem y0q (ms:List Tb) (_hm:ms.length<=1073741824) (hms:∀ t∈ms,t.Sm):CallsD Γ prog 31 [.one (.sl 3 (ms.map Tb.C))] (.one (cB (y4d ms))):=by
 refine CallsD.run [] Go.Proofs.Tryz.func31 rfl rfl rfl ?_;simp only [Go.Proofs.Tryz.f31];refine hgR ?_;refine y55 [0] (fun n:Nat=>[(3,.one (.dat (cI n)))]) (fun _=>[]) (fun n=>n<=ms.length/\n<=7/\∀ j,j<n->zpp (ms.getD j default)=true) (fun n=>ms.length-n) 0 ⟨Nat.zero_le _,by omega,fun j hj=>by omega⟩ ?_ ?_
 . refine hg ?_;exact StH.same svl rfl
 rintro n ⟨hn,hn7,hj⟩
 have hc:n<ms.length->CallsD Γ prog 62 [.agg (tbC (ms.getD n default))] (.one (cB (zpp (ms.getD n default)))):=fun h=>zbw _ (hms _ (w4t h)).r
 refine hg ?_
 repeat' ((first | refine hfk ?_ ?_<;>intros | refine hik ?_ | with_reducible first | refine v6l (hc (by omega)) ?_ | refine vgi (hc (by omega)) ?_)<;>refine hgS ?_)
 . rename_i h;exact RLe.ofEq (by unfold y4d;rw [vep (n:=7) (i:=n) (by omega) (by omega) h];rfl)
 . rename_i h;exact ⟨n+1,⟨by omega,by omega,xf4 hj h⟩,by omega,StH.same svl rfl⟩
 . have e:y4d ms=decide ((ms.length:Int)<=6):=by unfold y4d;rw [zpv hj (by omega)];rfl
   rw [e];exact RLe.ofEq rfl
 . have e:y4d ms=decide ((ms.length:Int)<=6):=by unfold y4d;rw [zpv hj (by omega)];rfl
   rw [e];exact RLe.ofEq rfl
def zi2 (b:Bd):Bool:=decide ((b.name.size:Int)<=40)&&decide (b.v.sz<=4)
def yta (x:Ex):Bool:=decide (0<=x.rsz 40 9)||(!decide (0<=x.rsz 200 20)&&decide (0<=x.rsz 260 30))
def wjp (x:Ex) (bs:List Bd) (ms:List Tb):Bool:=yta x&&((bs.take 13).all zi2&&(decide ((bs.length:Int)<=12)&&y4d ms))
structure Bd.Sm (b:Bd):Prop where
 n:b.name.size<=1073741824
 l:b.v.L.length<=1073741824
 m:b.v.M.length<=1073741824
theorem wc3 (x:Ex) (bs:List Bd) (ms:List Tb) (hx:x.Sm) (hb:bs.length<=1073741824) (hbs:∀ b∈bs,b.Sm) (hm:ms.length<=1073741824) (hms:∀ t∈ms,t.Sm):CallsD Γ prog 10 [.agg (exC x),.one (.sl 5 (bs.map Bd.C)),.one (.sl 3 (ms.map Tb.C))] (.one (cB (wjp x bs ms))):=by
 have f1:=rFew (Γ:=Γ) x hx 40 9 (by decide) (by decide) (by decide) (by decide);have f2:=rFew (Γ:=Γ) x hx 200 20 (by decide) (by decide) (by decide) (by decide);have f3:=rFew (Γ:=Γ) x hx 260 30 (by decide) (by decide) (by decide) (by decide);have f4:=y0q (Γ:=Γ) ms hm hms;unfold wjp yta;generalize decide (0<=x.rsz 40 9)=b1 at f1;generalize decide (0<=x.rsz 200 20)=b2 at f2;generalize decide (0<=x.rsz 260 30)=b3 at f3;generalize y4d ms=b4 at f4;clear hms hx
 have main:∀ R:Bool,((bs.take 13).all zi2&&(decide ((bs.length:Int)<=12)&&b4))=R->(b1||(!b2&&b3))=true->CallsD Γ prog 10 [.agg (exC x),.one (.sl 5 (bs.map Bd.C)),.one (.sl 3 (ms.map Tb.C))] (.one (cB R)):=by
  intro R hR hb1;refine CallsD.run [] Go.Proofs.Tryz.func10 rfl rfl rfl ?_;simp only [Go.Proofs.Tryz.f10];refine hgR ?_
  repeat' ((first | refine hfk ?_ ?_<;>intros | refine hik ?_ | with_reducible first | refine v6l (f1) ?_ | refine vgi (f1) ?_ | refine v6l (f2) ?_ | refine vgi (f2) ?_ | refine v6l (f3) ?_ | refine vgi (f3) ?_)<;>refine hgS ?_)
  all_goals try (exfalso;simp_all;done)
  all_goals
   clear hb1;refine y55 [1,2,3] (fun n:Nat=>[(7,.one (.dat (cI n)))]) (fun _=>[.box ((exC x).map .dat) (some 24)]) (fun n=>n<=bs.length/\n<=13/\∀ j,j<n->zi2 (bs.getD j default)=true) (fun n=>bs.length-n) 0 ⟨Nat.zero_le _,by omega,fun j hj=>by omega⟩ ?_ ?_
   . refine hg ?_;exact StH.same svl rfl
   rintro n ⟨hn,hn13,hj⟩
   have hc:n<bs.length->CallsD Γ prog 25 [.agg [.raw (.int .i64 (bs.getD n default).v.s),.ints .i64 (bs.getD n default).v.L,.raw (.int .i64 (bs.getD n default).v.t),.ints .i64 (bs.getD n default).v.M],.one (cI 4)] (.one (cB (decide ((bs.getD n default).v.sz<=4)))):=fun h=>toD (wr8 _ (by have:=(hbs _ (w4t h)).l;omega) (by have:=(hbs _ (w4t h)).m;omega))
   refine hg ?_
   repeat' ((first | refine hfk ?_ ?_<;>intros | refine hik ?_ | with_reducible first | refine v6l (hc (by omega)) ?_ | refine vgi (hc (by omega)) ?_ | refine v6l (f4) ?_ | refine vgi (f4) ?_)<;>refine hgS ?_)
   all_goals first
    | exact ⟨n+1,⟨by omega,by omega,xf4 hj (by unfold zi2;simp only [Bool.and_eq_true,decide_eq_true_eq];omega)⟩,by omega,StH.same svl rfl⟩
    | (rw [<-hR,vep (n:=13) (i:=n) (by omega) (by omega) (by unfold zi2;simp only [Bool.and_eq_false_iff,decide_eq_false_iff_not];omega)];exact RLe.ofEq rfl)
    | (rw [<-hR,zpv hj (by omega)];refine lfE ?_;first | exact trivial | rfl)
 cases h:(b1||(!b2&&b3)) with
 | true=>exact main _ rfl h
 | false=>
  refine CallsD.run [] Go.Proofs.Tryz.func10 rfl rfl rfl ?_;simp only [Go.Proofs.Tryz.f10];refine hgR ?_
  repeat' ((first | refine hfk ?_ ?_<;>intros | refine hik ?_ | with_reducible first | refine v6l (f1) ?_ | refine vgi (f1) ?_ | refine v6l (f2) ?_ | refine vgi (f2) ?_ | refine v6l (f3) ?_ | refine vgi (f3) ?_)<;>refine hgS ?_)
  all_goals first
   | exact RLe.ofEq rfl
   | (exfalso;simp_all;done)
end Go.Hp.T
namespace Go.Slot
open Go Go.RowKit Go.ChangeShapes Go.WideShapes
variable {L:List TypeId} {t e:TypeId} {v:Value}
section
variable {P:Program} {H:Type} {enc:TypeId×Value->H} {w:World} {spare:Nat->Bool} {held:Bool} {bk:DataW H->Nat} {N:Nat} {r:Reach} {b0:Nat}
theorem zx9 (hB:Bulk bk) (hL:wgl P L=true) (htL:t∈L) {d:DataW H} {p:List MemPlace} {fs:Array Field} (ht:P.underlying t=some (.struct fs))
 (hval:Value.okWide P w r b0 t v) (hd:DataW.Trod enc P w 0 spare held t v d p) (hb:bk d<=N):∃ cells,FitT P N t cells/\RdB M0 w v (.agg cells):=by
 obtain ⟨cs,rfl,_⟩:=okWide_struct ht hval;obtain ⟨fuel,hf⟩:=hd;obtain ⟨cells,h1,h2⟩:=w7c hB hL fuel t htL _ (d,p) hf hb;exact ⟨cells,h2,⟨cs.toList,by simp,h1⟩⟩
theorem yfe (hB:Bulk bk) (hL:wgl P L=true) (htL:t∈L) {d:DataW H} {p:List MemPlace} (hv:v.cells=#[v])
 (hd:DataW.Trod enc P w 0 spare held t v d p) (hb:bk d<=N):∃ c,FitT P N t [c]/\RdB M0 w v (.one c):=by
 obtain ⟨fuel,hf⟩:=hd;obtain ⟨cells,h1,h2⟩:=w7c hB hL fuel t htL _ (d,p) hf hb;rw [hv] at h1
 match cells,h1,h2 with
 | [c],h1,h2=>exact ⟨c,h2,h1.1⟩
theorem yqq (hB:Bulk bk) (hL:wgl P L=true) (htL:t∈L) {d:DataW H} {p:List MemPlace} (ht:P.underlying t=some (.slice e))
 (hval:Value.okWide P w r b0 t v) (hd:DataW.Trod enc P w 0 spare held t v d p) (hb:bk d<=N):∃ c,FitT P N t [c]/\RdB M0 w v (.one c):=by
 obtain ⟨a,len,cap,rfl⟩:=okWide_slice ht hval;exact yfe hB hL htL rfl hd hb
end
theorem vmb {P:Program} {H:Type} {enc:TypeId×Value->H} {w:World} {sp:Nat->Bool} {held:Bool} {fuel:Nat} {n:Nat} {k:IntKind} {l:List Int} {cs:List Value} {p:List MemPlace}
 (ht:P.underlying t=some (.array n e)) (he:P.underlying e=some (.int k)) (hc:P.cellsOf e=1) (hct:P.cellsOf t=n)
 (h:DataW.trod enc P w 0 sp held fuel t cs=some (.agg (l.map fun z=>.lit (.int k z)),p)):cs=l.map (fun z=>Value.int k z):=by
 obtain ⟨xs,m,rfl,hx1,hlen,hn,hel⟩:=DataW.trod_array ht h;simp only [Prod.mk.injEq,DataW.agg.injEq] at hx1
 have hl:l.length=n:=by
  have:=congrArg List.length hx1.1
  simp at this;omega
 apply List.ext_getElem
 . rw [hlen,hct,List.length_map,hl]
 intro i h1 h2
 have hi:i<n:=by rw [hlen,hct] at h1;exact h1
 have h3:=hel i hi
 have hix:i<xs.length:=by omega
 rw [hc,Nat.mul_one,List.getElem?_eq_getElem hix] at h3
 have e1:(cs.drop i).take 1=[cs[i]]:=by
  rw [List.drop_eq_getElem_cons h1];rfl
 rw [e1] at h3;obtain ⟨z,e2,e3,_⟩:=DataW.trod_int he h3
 have e4:(l.map fun z=>(DataW.lit (.int k z):DataW H))[i]? = (xs.map (·.1))[i]?:=by rw [hx1.1]
 rw [List.getElem?_map,List.getElem?_map,List.getElem?_eq_getElem hix,List.getElem?_eq_getElem (by omega),e3] at e4;simp only [Option.map_some,Option.some.injEq,DataW.lit.injEq,Lit.int.injEq,true_and] at e4;rw [List.cons.injEq] at e2;rw [e2.1,List.getElem_map,e4]
end Go.Slot
namespace Go.Proofs.YtmegdbbbllffkaaGreatDoor
set_option maxRecDepth 100000
open Go Go.Slot Go.Hp Go.Hp.T Go.ChangeShapes Go.WideShapes Go.RowKit
variable {H α:Type} {cs:List Cell} {W:World} {f:FuncId}
theorem y56:ownKnob Tryz.prog.godebug=none:=by kernel_rfl
theorem wi8:laidOutB Tryz.prog=true:=by kernel_rfl
theorem wsz (d:DataW H):1<=Rows.uptoBulk d:=by
 cases d with
 | lit l=>cases l<;>simp [Rows.uptoBulk]
 | nil=>simp [Rows.uptoBulk]
 | ptr d=>simp [Rows.uptoBulk]
 | slice elems spare=>simp [Rows.uptoBulk]
 | agg parts=>simp [Rows.uptoBulk]
 | iface t d=>simp [Rows.uptoBulk]
 | map entries=>simp [Rows.uptoBulk]
 | held h=>simp [Rows.uptoBulk]
theorem vtu {d:DataW H} {l:List (DataW H)} (h:d∈l):Rows.uptoBulk d<=Rows.uptoBulkAll l:=by
 induction l with
 | nil=>cases h
 | cons x r ih=>
  simp only [Rows.uptoBulkAll]
  cases List.mem_cons.1 h with
  | inl e=>subst e;omega
  | inr e=>have:=ih e;omega
theorem w7w (l:List (DataW H)):l.length<=Rows.uptoBulkAll l:=by
 induction l with
 | nil=>simp [Rows.uptoBulkAll]
 | cons x r ih=>have:=wsz x;simp only [Rows.uptoBulkAll,List.length_cons];omega
theorem bulk:Bulk (H:=H) Rows.uptoBulk where
 str b:=by simp [Rows.uptoBulk]
 elems l r:=by
  have:=w7w l
  simp only [Rows.uptoBulk];omega
 elem l r d h:=by
  have:=vtu h
  simp only [Rows.uptoBulk];omega
 part l d h:=by
  have:=vtu h
  simp only [Rows.uptoBulk];omega
theorem w8i {l:List (DataW H)} (hk:Rows.uptoSmall H l=true):∀ d∈l,Rows.uptoBulk d<=1048576:=fun d hd=>by
 have h:=vtu hd;have h2:Rows.uptoBulkAll l<=1048576:=of_decide_eq_true hk;omega
def argTypes:List TypeId:=[24,22,66,61,60,26,159,58,42,3,9,55,25,33,62,31,29]
theorem zvc:wgl Tryz.prog argTypes=true:=by kernel_rfl
theorem xs1:Tryz.prog.cellsOf 24=5:=by kernel_rfl
theorem wc2:Tryz.prog.cellsOf 66=7:=by kernel_rfl
theorem w1y:Tryz.prog.cellsOf 60=3:=by kernel_rfl
theorem wbw:Tryz.prog.cellsOf 33=4:=by kernel_rfl
theorem xu1:Tryz.prog.cellsOf 159=2:=by kernel_rfl
theorem v5a {t:TypeId} {d:TypeDesc} (h:Tryz.prog.underlying t=some d) (hd:∀ k,d≠.int k):∀ k,Tryz.prog.underlying t≠some (.int k):=fun k hk=>by
 rw [h] at hk;cases hk;exact hd k rfl
theorem vni {α:Type} {C:α->List Cell} {Q:α->Prop}:∀ rows:List (List Cell),(∀ r∈rows,∃ x,r=C x/\Q x)->∃ xs:List α,rows=xs.map C/\∀ x∈xs,Q x
 | [],_=>⟨[],rfl,fun x hx=>by cases hx⟩
 | r::rows,h=>by
  obtain ⟨x,hx,hq⟩:=h r (by simp);obtain ⟨xs,hxs,hqs⟩:=vni rows (fun r' hr'=>h r' (by simp [hr']))
  exact ⟨x::xs,by rw [hx,hxs];rfl,fun y hy=>by
   rcases List.mem_cons.1 hy with rfl | hy
   . exact hq
   . exact hqs y hy⟩
theorem len2 {l:List α} (h:l.length=2):∃ a b,l=[a,b]:=by
 match l,h with
 | [a,b],_=>exact ⟨a,b,rfl⟩
theorem len3 {l:List α} (h:l.length=3):∃ a b c,l=[a,b,c]:=by
 match l,h with
 | [a,b,c],_=>exact ⟨a,b,c,rfl⟩
theorem len5 {l:List α} (h:l.length=5):∃ a b c d e,l=[a,b,c,d,e]:=by
 match l,h with
 | [a,b,c,d,e],_=>exact ⟨a,b,c,d,e,rfl⟩
theorem len6 {l:List α} (h:l.length=6):∃ a b c d e f,l=[a,b,c,d,e,f]:=by
 match l,h with
 | [a,b,c,d,e,f],_=>exact ⟨a,b,c,d,e,f,rfl⟩
theorem x9z:∀(t:TypeId) (cs:List Cell),FitT Tryz.prog 1048576 t cs->(t=24->∃ x:Ex,cs=exC x/\x.Sm)/\(t=22->∃ l:List Ex,cs=[.sl 5 (l.map Ex.cells)]/\l.length<=1048576/\∀ y∈l,y.Sm):=by
 intro t cs h
 induction h with
 | int ht=>exact ⟨fun e=>(by subst e;rw [Tryz.underlying24] at ht;cases ht),fun e=>(by subst e;rw [Tryz.underlying22] at ht;cases ht)⟩
 | bool ht=>exact ⟨fun e=>(by subst e;rw [Tryz.underlying24] at ht;cases ht),fun e=>(by subst e;rw [Tryz.underlying22] at ht;cases ht)⟩
 | str ht=>exact ⟨fun e=>(by subst e;rw [Tryz.underlying24] at ht;cases ht),fun e=>(by subst e;rw [Tryz.underlying22] at ht;cases ht)⟩
 | ints ht he=>exact ⟨fun e=>(by subst e;rw [Tryz.underlying24] at ht;cases ht),fun e=>(by subst e;rw [Tryz.underlying22] at ht;cases ht;rw [Tryz.underlying24] at he;cases he)⟩
 | array ht=>exact ⟨fun e=>(by subst e;rw [Tryz.underlying24] at ht;cases ht),fun e=>(by subst e;rw [Tryz.underlying22] at ht;cases ht)⟩
 | sl ht he hl h ih=>
  refine ⟨fun e=>(by subst e;rw [Tryz.underlying24] at ht;cases ht),fun e=>?_⟩;subst e;rw [Tryz.underlying22] at ht
  cases ht
  obtain ⟨xs,rfl,hxs⟩:=vni (C:=Ex.cells) (Q:=Ex.Sm) _ (fun r hr=>by
   obtain ⟨x,h1,h2⟩:=(ih r hr).1 rfl
   exact ⟨x,by rw [h1,Ex.vle],h2⟩)
  exact ⟨xs,by rw [xs1],by simpa using hl,hxs⟩
 | struct ht hl h ih=>
  refine ⟨fun e=>?_,fun e=>(by subst e;rw [Tryz.underlying22] at ht;cases ht)⟩;subst e;rw [Tryz.underlying24] at ht
  cases ht;obtain ⟨r0,r1,r2,r3,r4,rfl⟩:=len5 hl;obtain ⟨o,rfl,_⟩:=(h 0 _ r0 rfl rfl).yny (Tryz.underlying3);obtain ⟨n,rfl,_⟩:=(h 1 _ r1 rfl rfl).yny (Tryz.underlying3);obtain ⟨u,rfl,hu⟩:=(h 2 _ r2 rfl rfl).x0a (Tryz.underlying9);obtain ⟨s,rfl,hs⟩:=(h 3 _ r3 rfl rfl).x0a (Tryz.underlying9);obtain ⟨l,rfl,hll,hls⟩:=(ih 4 _ r4 rfl rfl).2 rfl;exact ⟨.mk o n u s l,rfl,.mk _ (Nat.le_trans hll (by decide)) (Nat.le_trans hu (by decide)) (Nat.le_trans hs (by decide)) hls⟩
theorem voz (h:FitT Tryz.prog 1048576 42 cs):∃ d:Dm,cs=dmC d:=by
 obtain ⟨rows,rfl,hl,hr⟩:=h.zst Tryz.underlying42;obtain ⟨r0,r1,r2,r3,r4,r5,rfl⟩:=len6 hl;obtain ⟨a,rfl,_⟩:=(hr r0 (by simp)).yny (Tryz.underlying3);obtain ⟨b,rfl,_⟩:=(hr r1 (by simp)).yny (Tryz.underlying3);obtain ⟨c,rfl,_⟩:=(hr r2 (by simp)).yny (Tryz.underlying3);obtain ⟨d,rfl,_⟩:=(hr r3 (by simp)).yny (Tryz.underlying3);obtain ⟨e,rfl,_⟩:=(hr r4 (by simp)).yny (Tryz.underlying3);obtain ⟨f,rfl,_⟩:=(hr r5 (by simp)).yny (Tryz.underlying3);exact ⟨⟨a,b,c,d,e,f⟩,rfl⟩
theorem xog (h:FitT Tryz.prog 1048576 66 cs):∃ x:Vr,cs=x.C/\x.name.size<=1073741824:=by
 obtain ⟨rows,rfl,hl,hr⟩:=h.vtw Tryz.underlying66;obtain ⟨r0,r1,rfl⟩:=len2 hl;obtain ⟨s,rfl,hs⟩:=(hr 0 _ r0 rfl rfl).x0a (Tryz.underlying9);obtain ⟨d,rfl⟩:=voz (hr 1 _ r1 rfl rfl);exact ⟨⟨s,d⟩,rfl,Nat.le_trans hs (by decide)⟩
theorem vem (h:FitT Tryz.prog 1048576 31 cs):∃(s:Int) (L:List Int),cs=[.raw (.int .i64 s),.ints .i64 L]/\L.length<=1048576:=by
 obtain ⟨rows,rfl,hl,hr⟩:=h.vtw Tryz.underlying31;obtain ⟨r0,r1,rfl⟩:=len2 hl;obtain ⟨s,rfl,_⟩:=(hr 0 _ r0 rfl rfl).yny (Tryz.underlying3);obtain ⟨L,rfl,hL,_⟩:=(hr 1 _ r1 rfl rfl).wtu (Tryz.underlying29) (Tryz.underlying3);exact ⟨s,L,rfl,hL⟩
theorem wme (h:FitT Tryz.prog 1048576 33 cs):∃ f:Fc,cs=f.C/\f.sz<=1048576:=by
 obtain ⟨rows,rfl,hl,hr⟩:=h.vtw Tryz.underlying33;obtain ⟨r0,r1,rfl⟩:=len2 hl;obtain ⟨s,L,rfl,hL⟩:=vem (hr 0 _ r0 rfl rfl);obtain ⟨t,M,rfl,hM⟩:=vem (hr 1 _ r1 rfl rfl);exact ⟨⟨s,L,t,M⟩,rfl,Nat.max_le.2 ⟨hL,hM⟩⟩
theorem xv9 (h:FitT Tryz.prog 1048576 159 cs):∃ x:Rw,cs=x.C/\True:=by
 obtain ⟨rows,rfl,hl,hr⟩:=h.vtw Tryz.underlying159;obtain ⟨r0,r1,rfl⟩:=len2 hl;obtain ⟨a,rfl,_⟩:=(hr 0 _ r0 rfl rfl).yny (Tryz.underlying3);obtain ⟨b,rfl,_⟩:=(hr 1 _ r1 rfl rfl).yny (Tryz.underlying3);exact ⟨⟨a,b⟩,rfl,trivial⟩
theorem yt1 (h:FitT Tryz.prog 1048576 60 cs):∃ x:Tb,cs=x.C/\x.Sm:=by
 obtain ⟨rows,rfl,hl,hr⟩:=h.vtw Tryz.underlying60;obtain ⟨r0,r1,r2,rfl⟩:=len3 hl;obtain ⟨s,rfl,hs⟩:=(hr 0 _ r0 rfl rfl).x0a (Tryz.underlying9);obtain ⟨u,rfl,hu⟩:=(hr 1 _ r1 rfl rfl).x0a (Tryz.underlying9);obtain ⟨rs,rfl,hrl,hrr⟩:=(hr 2 _ r2 rfl rfl).z1z (Tryz.underlying58) (v5a Tryz.underlying159 (fun k h=>by cases h));obtain ⟨xs,rfl,_⟩:=vni (C:=Rw.C) (Q:=fun _=>True) _ (fun r hr'=>xv9 (hrr r hr'));refine ⟨⟨s,u,xs⟩,by rw [xu1];try rfl,⟨Nat.le_trans hs (by decide),Nat.le_trans hu (by decide),?_⟩⟩
 have:xs.length<=1048576:=by simpa using hrl
 exact Nat.le_trans this (by decide)
section
variable {H:Type} {enc:TypeId×Value->H} {W:World} {v:Value} {d:DataW H} {p:List MemPlace} {b:Nat}
theorem v80 (hval:Value.okWide Tryz.prog W .any b 24 v) (hd:DataW.Trod enc Tryz.prog W 0 (fun _=>true) true 24 v d p) (hb:Rows.uptoBulk d<=1048576) :
 ∃ x:Ex,RdB M0 W v (.agg (exC x))/\x.Sm:=by
 obtain ⟨cells,h1,h2⟩:=zx9 bulk zvc (by decide) Tryz.underlying24 hval hd hb;obtain ⟨x,rfl,h3⟩:=(x9z _ _ h1).1 rfl;exact ⟨x,h2,h3⟩
theorem vc4 (hval:Value.okWide Tryz.prog W .any b 61 v) (hd:DataW.Trod enc Tryz.prog W 0 (fun _=>true) true 61 v d p) (hb:Rows.uptoBulk d<=1048576) :
 ∃ l:List Vr,RdB M0 W v (.one (.sl 7 (l.map Vr.C)))/\l.length<=1048576/\∀ x∈l,x.name.size<=1073741824:=by
 obtain ⟨c,h1,h2⟩:=yqq bulk zvc (by decide) Tryz.underlying61 hval hd hb;obtain ⟨rows,e,hl,hr⟩:=h1.z1z (Tryz.underlying61) (v5a Tryz.underlying66 (fun k h=>by cases h));obtain ⟨xs,rfl,hx⟩:=vni (C:=Vr.C) (Q:=fun x=>x.name.size<=1073741824) _ (fun r hr'=>xog (hr r hr'))
 cases e;rw [wc2] at h2;exact ⟨xs,h2,by simpa using hl,hx⟩
theorem vf8 (hval:Value.okWide Tryz.prog W .any b 26 v) (hd:DataW.Trod enc Tryz.prog W 0 (fun _=>true) true 26 v d p) (hb:Rows.uptoBulk d<=1048576) :
 ∃ l:List Tb,RdB M0 W v (.one (.sl 3 (l.map Tb.C)))/\l.length<=1048576/\∀ x∈l,x.Sm:=by
 obtain ⟨c,h1,h2⟩:=yqq bulk zvc (by decide) Tryz.underlying26 hval hd hb;obtain ⟨rows,e,hl,hr⟩:=h1.z1z (Tryz.underlying26) (v5a Tryz.underlying60 (fun k h=>by cases h));obtain ⟨xs,rfl,hx⟩:=vni (C:=Tb.C) (Q:=Tb.Sm) _ (fun r hr'=>yt1 (hr r hr'))
 cases e;rw [w1y] at h2;exact ⟨xs,h2,by simpa using hl,hx⟩
theorem y97 (hval:Value.okWide Tryz.prog W .any b 62 v) (hd:DataW.Trod enc Tryz.prog W 0 (fun _=>true) true 62 v d p) (hb:Rows.uptoBulk d<=1048576) :
 ∃ l:List Fc,RdB M0 W v (.one (.sl 4 (l.map Fc.C)))/\l.length<=1048576/\∀ x∈l,x.sz<=1048576:=by
 obtain ⟨c,h1,h2⟩:=yqq bulk zvc (by decide) Tryz.underlying62 hval hd hb;obtain ⟨rows,e,hl,hr⟩:=h1.z1z (Tryz.underlying62) (v5a Tryz.underlying33 (fun k h=>by cases h));obtain ⟨xs,rfl,hx⟩:=vni (C:=Fc.C) (Q:=fun x=>x.sz<=1048576) _ (fun r hr'=>wme (hr r hr'))
 cases e;rw [wbw] at h2;exact ⟨xs,h2,by simpa using hl,hx⟩
end
def vzf:List (String×DataW Unit):=Rows.valueTellsUptoRow.laid
def zs5:String:=(vzf.headD (Tryz.f0.name,.nil)).1
theorem xw2:Tryz.prog.globalNamed zs5=some 0:=by kernel_rfl
theorem zot:(Tryz.prog.globals[0]?).map (·.type)=some 213:=by kernel_rfl
theorem yuz (h:laidMetH Tryz.prog vzf W):y7g Gs M0 W:=by
 rw [MakeChecks.laidMetH_plain _ _ _ (by kernel_rfl)] at h;obtain ⟨ps,⟨g0,t0,cs0,f0,p0,q0,hg0,ht0,hv0,hd0,_,_⟩,_,_⟩:=h;obtain rfl:=Option.some.inj (xw2.symm.trans hg0);obtain rfl:=Option.some.inj (zot.symm.trans ht0);have e:=vmb (l:=[40,41,44,59,58,61,60,43,45,42,47,123,125]) Tryz.underlying213 Tryz.underlying5 (by kernel_rfl) (by kernel_rfl) hd0;intro g cs hg;have hg':=List.mem_singleton.1 hg
 cases hg';refine ⟨cs0.toList,fun j u hu=>⟨fun h=>h,?_⟩,?_⟩
 . rw [World.var?_cell hg0 hv0 j,<-Array.getElem?_toList];exact hu
 . rw [e];exact ⟨.raw rfl,.raw rfl,.raw rfl,.raw rfl,.raw rfl,.raw rfl,.raw rfl,.raw rfl,.raw rfl,.raw rfl,.raw rfl,.raw rfl,.raw rfl,trivial⟩
theorem x1i (os:Os) (args:Array Value):laidMetH Tryz.prog vzf ((World.doorLaid Tryz.prog 14 os).forCall (fun _ _=>0) ⟨#[],args,[]⟩).memory:=
 laidMetH_of_parts3 (fuel:=8) (laidMet_of_run' 8 (by kernel_rfl) (by kernel_rfl)) (by kernel_rfl) (by kernel_rfl)
theorem yg2 {C:Checked} {os:Os} {fn:Func} {enc:TypeId×Value->H} {s:OpenSpec} {k:(H:Type)->List (DataW H)->Bool} (hk:s.cond=some k) {conds:List PathCond} {apart:Bool} {laid:List (String×DataW Unit)} (modest:Bool) (n:Nat) (args:Array Value) (fuel:Nat)
 (hsh:((World.doorLaid C.prog n os).forCall (fun _ _=>0) ⟨#[],args,[]⟩).Shaped C.prog)
 (hok:Input.okWideB C.prog ((World.doorLaid C.prog n os).forCall (fun _ _=>0) ⟨#[],args,[]⟩) f ⟨#[],args,[]⟩=true)
 {x:List (DataW H)×List (DataW H)×List MemPlace} (hx:DataW.whole enc C.prog ((World.doorLaid C.prog n os).forCall (fun _ _=>0) ⟨#[],args,[]⟩).memory fn.params.toList s.vars apart args.toList fuel=some x)
 (hconds:conds.all (PathCond.test C.prog ⟨fn.params.toList,x.1,s.bare.plain.varTypes C.prog,x.2.1⟩)=true) (hkk:k H (x.1++x.2.1)=true)
 (hsz:s.bare.sizedB enc C.prog fn apart ((World.doorLaid C.prog n os).forCall (fun _ _=>0) ⟨#[],args,[]⟩).memory args fuel=true)
 (hl:laidMetH C.prog laid ((World.doorLaid C.prog n os).forCall (fun _ _=>0) ⟨#[],args,[]⟩).memory) :
 ∃(w:World) (tape:Tape) (i:Input),w.os=os/\(w.forCall tape i).Shaped C.prog/\i.vars=[]/\Input.okWide C.prog (w.forCall tape i) .any w.heap.size f i/\
  s.preRow enc C.prog fn conds apart laid (w.forCall tape i).memory i.args/\({ modest:=modest }:Assume).holds C.prog (lone (Frame.enter C.prog f i.args .normal) [] (w.forCall tape i)):=
 ⟨World.doorLaid C.prog n os,fun _ _=>0,⟨#[],args,[]⟩,rfl,hsh,(Input.okWide_of_okWideB (base:=0) hok).1,(Input.okWide_of_okWideB hok).2,
  ⟨⟨(OpenSpec.pre_some hk conds apart _ _).2 ⟨x.1,x.2.1,x.2.2,DataW.Whole_of_whole hx,hconds,hkk⟩,hl⟩,sizedMet_of_sizedB hsz⟩,by
  simp only [Assume.holds]
  exact ⟨by simp,by simp,fun _=>Modest.zero,by simp,by simp⟩⟩
theorem ended {args:List AV} {vs:List Value} (hc:Go.Hp.CallsD Gs Tryz.prog f args (.one (cB true))) (hg:y7g Gs M0 W) (hr:RdBL M0 W vs args):Calls Tryz.prog f vs.toArray W fun e W'=>e=.returned (.bool true)/\Below W.heap.size W W':=
 (hc.2 M0 W vs (fun b o h=>h.elim) hg hr).mono (fun e W' ⟨v,he,hb,hr',_⟩=>by
   have hv:v=.bool true:=RdC.zb5 hr';rw [hv] at he
   exact ⟨he,hb⟩)
def zE:Value:=.agg #[.int .i64 0,.int .i64 0,.string ⟨#[]⟩,.string ⟨#[]⟩,.slice none 0 0]
def dI {H:Type}:DataW H:=.lit (.int .i64 0)
def dS {H:Type}:DataW H:=.lit (.string [])
def dE {H:Type}:DataW H:=.agg [dI,dI,dS,dS,.nil]
end Go.Proofs.YtmegdbbbllffkaaGreatDoor
namespace Go.Hp.T
open Go Go.RowKit Go.Slot Go.Hp Go.Slot.T
open Go.Proofs.Tryz (prog)
set_option maxRecDepth 10000
set_option maxHeartbeats 4000000
variable {Γ:List (Nat×List Cell)}
variable {α:Type} {r:Nat->Nat}
theorem z9v {C:α->SV} (h:∀ r a,yo9 r (C a)=C a) (r:Nat->Nat) (l:List (ByteArray×α)):rnSB r (.map (envM C l))=.map (envM C l):=by
 have:(envM C l).map (fun p=>(p.1,yo9 r p.2))=envM C l:=by
  induction l with
  | nil=>rfl
  | cons p l ih=>
   show (Value.string p.1,yo9 r (C p.2))::(envM C l).map _=_;rw [ih,h];rfl
 show SB.map _=_;rw [this]
theorem y07 {C:α->SV} (h:∀ i j a,wmz i j (C a)=C a) (i j:Nat) (l:List (ByteArray×α)):swSB i j (.map (envM C l))=.map (envM C l):=by
 have:(envM C l).map (fun p=>(p.1,wmz i j p.2))=envM C l:=by
  induction l with
  | nil=>rfl
  | cons p l ih=>
   show (Value.string p.1,wmz i j (C p.2))::(envM C l).map _=_;rw [ih,h];rfl
 show SB.map _=_;rw [this]
theorem y51 {C:α->SV} (h:∀ a,vp6 (C a)=[]) (l:List (ByteArray×α)):z0y (.map (envM C l))=[]:=by
 show (envM C l).flatMap (fun p=>vp6 p.2)=[]
 induction l with
 | nil=>rfl
 | cons p l ih=>show vp6 (C p.2)++(envM C l).flatMap _=[];rw [ih,h];rfl
theorem y5z {l:Vq}:rnSB r (.map (envQ l))=.map (envQ l):=z9v (fun _ _=>rfl) r l
theorem xqg {l:Vt}:rnSB r (.map (envB l))=.map (envB l):=z9v (fun _ _=>rfl) r l
theorem v9y (i j:Nat) (l:Vq):swSB i j (.map (envQ l))=.map (envQ l):=y07 (fun _ _ _=>rfl) i j l
theorem w2a (i j:Nat) (l:Vt):swSB i j (.map (envB l))=.map (envB l):=y07 (fun _ _ _=>rfl) i j l
theorem xia (l:Vq):z0y (.map (envQ l))=[]:=y51 (fun _=>rfl) l
theorem y7o (l:Vt):z0y (.map (envB l))=[]:=y51 (fun _=>rfl) l
attribute [go_sem] xia y7o
attribute [go_sem 20000] y5z xqg v9y w2a
abbrev mQ (l:Vq):SB:=.map (envQ l)
abbrev mB (l:Vt):SB:=.map (envB l)
theorem wlf (V:Vq) (T:Vt):∀ r,[mQ V,mB T].map (rnSB r)=[mQ V,mB T]:=fun r=>by
 simp only [List.map_cons,List.map_nil,mQ,mB,y5z,xqg]
theorem yvk (o:Int) (l:List Rs) (hl:l.length<=1073741824):CallsD Γ prog 72 [.one (cI o),.one (.sl 6 (l.map Rs.C))] (rsR (logV o l)):=by
 generalize hR:logV o l=R;refine CallsD.run [] Go.Proofs.Tryz.func72 rfl rfl rfl ?_;simp only [Go.Proofs.Tryz.f72];refine hgR ?_;refine y55 [0,1,4,10,11] (fun i:Nat=>[(6,.one (.dat (cB ((l.take i).all (·.i))))),(7,.one (.dat (cB ((l.take i).any (·.i))))),(12,.one (.dat (cI i)))]) (fun _=>[.box ((rsZ false false).map .dat) (some 35)])
  (fun i=>i<=l.length/\∀ j,j<i->(l.getD j default).t=true) (fun i=>l.length-i) 0 ⟨Nat.zero_le _,fun j hj=>by omega⟩ ?_ ?_
 . refine hg ?_;exact StH.same svl rfl
 rintro i ⟨hi,hj⟩;refine hg ?_;refine vnx (fun hlt _=>?_) (fun hlt _=>?_)
 . have hlt':i<l.length:=by omega
   have hbad:(l.getD i default).t=false->R=(⟨false,false,none⟩,13):=fun h=>by
    rw [<-hR];unfold logV;rw [show l.any (fun r=>!r.t)=true from List.any_eq_true.2 ⟨_,w4t hlt',by rw [h];rfl⟩];rfl
   have hA:(l.take (i+1)).all (·.i)=((l.take i).all (·.i)&&(l.getD i default).i):=by rw [z4f hlt',List.all_append];simp
   have hS:(l.take (i+1)).any (·.i)=((l.take i).any (·.i)||(l.getD i default).i):=by rw [z4f hlt',List.any_append];simp
   have hnext:=fun h=>xrx (p:=fun j=>(l.getD j default).t=true) hj h
   clear hj hR;generalize (l.take i).all (·.i)=A at *;generalize (l.take i).any (·.i)=S at *;refine hg ?_
   repeat' ((first | refine hfk ?_ ?_<;>intros | refine hik ?_)<;>refine hgS ?_)
   all_goals first
    | exact rsEq rfl
    | (rw [hbad (by assumption)];exact rsEq rfl)
    | (refine ⟨i+1,⟨by omega,hnext (by assumption)⟩,by omega,?_⟩
       rw [hA,hS];simp only [*,Bool.true_and,Bool.false_and,Bool.true_or,Bool.false_or]
       exact StH.back [0,1,4,6,7,10,11,12] 0 0 1 rfl rfl rfl rfl rfl (by kernel_rfl) (StH.same svl rfl))
 . have e:i=l.length:=by omega
   have hall:l.any (fun r=>!r.t)=false:=by
    rw [List.any_eq_false];intro r hr;obtain ⟨j,hj',rfl⟩:=List.getElem_of_mem hr
    have:=hj j (by omega)
    rw [show l.getD j default=l[j] from by simp [hj']] at this;simp [this]
   have e2:R=bif decide (o=14) then truV (l.all (·.i)) else bif decide (o=15) then truV (l.any (·.i)) else truV (!l.all (·.i)):=by rw [<-hR];unfold logV;rw [hall];rfl
   rw [e2,e,List.take_length];generalize l.all (·.i)=A;generalize l.any (·.i)=S;refine hg ?_
   repeat' ((first | refine hfk ?_ ?_<;>intros | refine hik ?_ | with_reducible first | refine v6l (yln _) ?_ | refine vgi (yln _) ?_)<;>refine hgS ?_)
   all_goals refine lfE ?_;first | exact trivial | rfl
theorem StH.yzu {e:List SB} {σ:List SV} {η:List SB} {t i:Bool} {n:Int} {r:Rs×Int} (he:η.take e.length=e) (h:(σ.all fun x=>(vp6 x).all fun b=>Nat.blt b e.length)=true) (hσ:σ=[SV.tup [.agg ((T.rsZ t i).map .dat),.one (.dat (cI n))]]) (hr:r=(⟨t,i,none⟩,n)):StH Γ e σ η [rsS r] e:=by
 subst hr;exact StH.trans (StH.zx4 he h hσ) (StH.rsZ StH.refl)
theorem xrw (V:Vq) (T:Vt) (s:ByteArray) (k:Rs) (hT:∀ s t,ycr T s=some t->t.Sm/\tbOk t=true) (hk:qz k.v<=67108864):vfe Γ prog 71 [mQ V,mB T] [.agg [.mp 0,.mp 1],.one (.dat (cS s)),.agg ((rsC k).map .dat)] [mQ V,mB T] (rsS (woh T s k)):=by
 cases h:ycr T s with
 | none=>
  have e:woh T s k=(⟨false,false,none⟩,11):=by unfold woh;rw [h];rfl
  rw [e];refine vfe.run [] Go.Proofs.Tryz.func71 rfl rfl ?_;simp only [Go.Proofs.Tryz.f71];refine hgR ?_;refine hg1 @h ?_
  repeat' ((first | refine hfk ?_ ?_<;>intros | refine hik ?_)<;>refine hgS ?_)
  exact StH.yzu rfl (by kernel_rfl) rfl rfl
 | some t=>
  obtain ⟨h1,h2⟩:=hT s t h;have hL:=ymc (Γ:=Γ) t k.v hk h1.n h1.u h1.r
  have e:woh T s k=bif k.t then (Rs.zero,13) else numV (wyo t k.v).1 (wyo t k.v).2:=by unfold woh;rw [h]
  rw [e];generalize wyo t k.v=r at hL;obtain ⟨rv,re⟩:=r;simp only at hL;refine vfe.run [] Go.Proofs.Tryz.func71 rfl rfl ?_;simp only [Go.Proofs.Tryz.f71];refine hgR ?_;refine hg1 @h ?_
  repeat' ((first | refine hfk ?_ ?_<;>intros | refine hik ?_ | with_reducible first | refine v6l (hL) ?_ | refine vgi (hL) ?_ | refine v6l (w3m rv re) ?_ | refine vgi (w3m rv re) ?_)<;>refine hgS ?_)
  . exact StH.yzu rfl (by kernel_rfl) rfl rfl
  . exact StH.zx4 rfl (by kernel_rfl) rfl
end Go.Hp.T
