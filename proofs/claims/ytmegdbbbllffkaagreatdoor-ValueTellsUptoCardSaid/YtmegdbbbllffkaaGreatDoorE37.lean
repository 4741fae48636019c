/- The proof, part E37: Xd, Vp, Ge, Gh. -/
import Derived.Test.YtmegdbbbllffkaaGreatDoorE36
import Derived.Test.YtmegdbbbllffkaaGreatDoorE12
import Derived.Test.YtmegdbbbllffkaaGreatDoorE13
import Derived.Test.YtmegdbbbllffkaaGreatDoorE26
import Derived.Test.YtmegdbbbllffkaaGreatDoorRows
import Derived.Deep.DeepHandedRow
import Derived.LaidMore
import Derived.MakeChecks
import Derived.ProofKit
namespace Go.Hp.T
open Go Go.RowKit Go.Slot Go.Hp Go.Slot.T
open Go.Proofs.Tryz (prog)
set_option maxRecDepth 10000
set_option maxHeartbeats 4000000
variable {Γ:List (Nat×List Cell)}
theorem z03r {B : Nat} (hB : 4300 ≤ B) {x : Ex} {bs : List Bd} {ms : List Tb} (hb : ∀ b ∈ bs, b.v.sz + 10 ≤ B) : qz (valF x bs ms).1.v ≤ B * 200 := by
 unfold valF
 cases h1:xub x with
 | false=>exact Nat.zero_le _
 | true=>cases h2:x.xi4 with
  | true=>exact Nat.zero_le _
  | false=>cases h3:entF bs ms with
   | none=>exact Nat.zero_le _
   | some p=>
    have hsh:x.shaped=true:=by unfold xub at h1;rw [Bool.and_eq_true] at h1;exact h1.2
    have h4:=zau (V:=p.1) (T:=p.2) hB (x98 (V:=p.1) (T:=p.2) h3 hb) x hsh h2;have h5:=zvr h1;exact Nat.le_trans h4 (Nat.mul_le_mul_left _ h5)
theorem z16r (a b:Option Rat) (ha:qz a<=67108864) (hb:qz b<=67108864):CallsD Γ prog 37 [.agg (qC a),.agg (qC b)] (.one (cB (decide (a=b)))):=by
 have h:=toD (Γ:=Γ) (z1cq (qF a) (qF b) ha hb);rw [show decide (qF a=qF b)=decide (a=b) from decide_eq_decide.2 ⟨zym,fun h=>by rw [h]⟩] at h;exact h
theorem x2q (a b:Rs) (ha:qz a.v<=67108864) (hb:qz b.v<=67108864):CallsD Γ prog 13 [.agg (rsC a),.agg (rsC b)] (.one (cB (decide (a=b)))):=by
 have h:=z16r (Γ:=Γ) a.v b.v ha hb;obtain ⟨t,i,v⟩:=a;obtain ⟨u,j,w⟩:=b;simp only at h
 have e:decide ((⟨t,i,v⟩:Rs)=⟨u,j,w⟩)=(t==u&&(i==j&&decide (v=w))):=by
  apply Bool.eq_iff_iff.2;simp only [Rs.mk.injEq,decide_eq_true_eq,Bool.and_eq_true,beq_iff_eq]
 rw [e];generalize decide (v=w)=r at h
 cases t<;>cases u<;>cases i<;>cases j
 all_goals
  refine CallsD.run [] Go.Proofs.Tryz.func13 rfl rfl rfl ?_;simp only [Go.Proofs.Tryz.f13];refine hgR ?_
  repeat' ((first | refine hfk ?_ ?_<;>intros | refine hik ?_ | with_reducible first | refine v6l (h) ?_ | refine vgi (h) ?_)<;>refine hgS ?_)
  all_goals refine lfE ?_;first | exact trivial | rfl
def xpg (t:Tb):Bool:=decide ((t.rows.length:Int)<=110)&&(decide ((t.name.size:Int)<=40)&&decide ((t.unit.size:Int)<=40))
theorem wix (t:Tb) (_h3:t.rows.length<=1073741824):CallsD Γ prog 62 [.agg (tbC t)] (.one (cB (xpg t))):=by
 refine CallsD.run [] Go.Proofs.Tryz.func62 rfl rfl rfl ?_;simp only [Go.Proofs.Tryz.f62];refine hgR ?_
 repeat' ((first | refine hfk ?_ ?_<;>intros | refine hik ?_)<;>refine hgS ?_)
 all_goals refine lf1 @xpg.eq_def ?_;first | exact trivial | rfl
def z12r (ms:List Tb):Bool:=(ms.take 7).all xpg&&decide ((ms.length:Int)<=6)
theorem xwp (ms:List Tb) (_hm:ms.length<=1073741824) (hms:∀ t∈ms,t.Sm):CallsD Γ prog 31 [.one (.sl 3 (ms.map Tb.C))] (.one (cB (z12r ms))):=by
 refine CallsD.run [] Go.Proofs.Tryz.func31 rfl rfl rfl ?_;simp only [Go.Proofs.Tryz.f31];refine hgR ?_;refine y55 [0] (fun n:Nat=>[(3,.one (.dat (cI n)))]) (fun _=>[]) (fun n=>n<=ms.length/\n<=7/\∀ j,j<n->xpg (ms.getD j default)=true) (fun n=>ms.length-n) 0 ⟨Nat.zero_le _,by omega,fun j hj=>by omega⟩ ?_ ?_
 . refine hg ?_;exact StH.same svl rfl
 rintro n ⟨hn,hn7,hj⟩
 have hc:n<ms.length->CallsD Γ prog 62 [.agg (tbC (ms.getD n default))] (.one (cB (xpg (ms.getD n default)))):=fun h=>wix _ (hms _ (w4t h)).r
 refine hg ?_
 repeat' ((first | refine hfk ?_ ?_<;>intros | refine hik ?_ | with_reducible first | refine v6l (hc (by omega)) ?_ | refine vgi (hc (by omega)) ?_)<;>refine hgS ?_)
 . rename_i h;exact RLe.ofEq (by unfold z12r;rw [xdn (n:=7) (i:=n) (by omega) (by omega) h];rfl)
 . rename_i h;exact ⟨n+1,⟨by omega,by omega,xf4 hj h⟩,by omega,StH.same svl rfl⟩
 . have e:z12r ms=decide ((ms.length:Int)<=6):=by unfold z12r;rw [z8a hj (by omega)];rfl
   rw [e];exact RLe.ofEq rfl
 . have e:z12r ms=decide ((ms.length:Int)<=6):=by unfold z12r;rw [z8a hj (by omega)];rfl
   rw [e];exact RLe.ofEq rfl
def w3k (b:Bd):Bool:=decide ((b.name.size:Int)<=40)&&decide (b.v.sz<=4)
def xq0 (x:Ex):Bool:=decide (0<=x.rsz 40 9)||(!decide (0<=x.rsz 200 20)&&decide (0<=x.rsz 260 30))
def yra (x:Ex) (bs:List Bd) (ms:List Tb):Bool:=xq0 x&&((bs.take 13).all w3k&&(decide ((bs.length:Int)<=12)&&z12r ms))
structure Bd.Sm (b:Bd):Prop where
 n:b.name.size<=1073741824
 l:b.v.L.length<=1073741824
 m:b.v.M.length<=1073741824
theorem y5f (x:Ex) (bs:List Bd) (ms:List Tb) (hx:x.Sm) (hb:bs.length<=1073741824) (hbs:∀ b∈bs,b.Sm) (hm:ms.length<=1073741824) (hms:∀ t∈ms,t.Sm):CallsD Γ prog 10 [.agg (exC x),.one (.sl 5 (bs.map Bd.C)),.one (.sl 3 (ms.map Tb.C))] (.one (cB (yra x bs ms))):=by
 have f1:=rFew (Γ:=Γ) x hx 40 9 (by decide) (by decide) (by decide) (by decide);have f2:=rFew (Γ:=Γ) x hx 200 20 (by decide) (by decide) (by decide) (by decide);have f3:=rFew (Γ:=Γ) x hx 260 30 (by decide) (by decide) (by decide) (by decide);have f4:=xwp (Γ:=Γ) ms hm hms;unfold yra xq0;generalize decide (0<=x.rsz 40 9)=b1 at f1;generalize decide (0<=x.rsz 200 20)=b2 at f2;generalize decide (0<=x.rsz 260 30)=b3 at f3;generalize z12r ms=b4 at f4;clear hms hx
 have main:∀ R:Bool,((bs.take 13).all w3k&&(decide ((bs.length:Int)<=12)&&b4))=R->(b1||(!b2&&b3))=true->CallsD Γ prog 10 [.agg (exC x),.one (.sl 5 (bs.map Bd.C)),.one (.sl 3 (ms.map Tb.C))] (.one (cB R)):=by
  intro R hR hb1;refine CallsD.run [] Go.Proofs.Tryz.func10 rfl rfl rfl ?_;simp only [Go.Proofs.Tryz.f10];refine hgR ?_
  repeat' ((first | refine hfk ?_ ?_<;>intros | refine hik ?_ | with_reducible first | refine v6l (f1) ?_ | refine vgi (f1) ?_ | refine v6l (f2) ?_ | refine vgi (f2) ?_ | refine v6l (f3) ?_ | refine vgi (f3) ?_)<;>refine hgS ?_)
  all_goals try (exfalso;simp_all;done)
  all_goals
   clear hb1;refine y55 [1,2,3] (fun n:Nat=>[(7,.one (.dat (cI n)))]) (fun _=>[.box ((exC x).map .dat) (some 24)]) (fun n=>n<=bs.length/\n<=13/\∀ j,j<n->w3k (bs.getD j default)=true) (fun n=>bs.length-n) 0 ⟨Nat.zero_le _,by omega,fun j hj=>by omega⟩ ?_ ?_
   . refine hg ?_;exact StH.same svl rfl
   rintro n ⟨hn,hn13,hj⟩
   have hc:n<bs.length->CallsD Γ prog 25 [.agg [.raw (.int .i64 (bs.getD n default).v.s),.ints .i64 (bs.getD n default).v.L,.raw (.int .i64 (bs.getD n default).v.t),.ints .i64 (bs.getD n default).v.M],.one (cI 4)] (.one (cB (decide ((bs.getD n default).v.sz<=4)))):=fun h=>toD (xlr _ (by have:=(hbs _ (w4t h)).l;omega) (by have:=(hbs _ (w4t h)).m;omega))
   refine hg ?_
   repeat' ((first | refine hfk ?_ ?_<;>intros | refine hik ?_ | with_reducible first | refine v6l (hc (by omega)) ?_ | refine vgi (hc (by omega)) ?_ | refine v6l (f4) ?_ | refine vgi (f4) ?_)<;>refine hgS ?_)
   all_goals first
    | exact ⟨n+1,⟨by omega,by omega,xf4 hj (by unfold w3k;simp only [Bool.and_eq_true,decide_eq_true_eq];omega)⟩,by omega,StH.same svl rfl⟩
    | (rw [<-hR,xdn (n:=13) (i:=n) (by omega) (by omega) (by unfold w3k;simp only [Bool.and_eq_false_iff,decide_eq_false_iff_not];omega)];exact RLe.ofEq rfl)
    | (rw [<-hR,z8a hj (by omega)];refine lfE ?_;first | exact trivial | rfl)
 cases h:(b1||(!b2&&b3)) with
 | true=>exact main _ rfl h
 | false=>
  refine CallsD.run [] Go.Proofs.Tryz.func10 rfl rfl rfl ?_;simp only [Go.Proofs.Tryz.f10];refine hgR ?_
  repeat' ((first | refine hfk ?_ ?_<;>intros | refine hik ?_ | with_reducible first | refine v6l (f1) ?_ | refine vgi (f1) ?_ | refine v6l (f2) ?_ | refine vgi (f2) ?_ | refine v6l (f3) ?_ | refine vgi (f3) ?_)<;>refine hgS ?_)
  all_goals first
   | exact RLe.ofEq rfl
   | (exfalso;simp_all;done)
end Go.Hp.T
namespace Go.Slot
open Go Go.RowKit Go.ChangeShapes Go.WideShapes
variable {L:List TypeId} {t e:TypeId} {v:Value}
section
variable {P:Program} {H:Type} {enc:TypeId×Value->H} {w:World} {spare:Nat->Bool} {held:Bool} {bk:DataW H->Nat} {N:Nat} {r:Reach} {b0:Nat}
theorem z00r (hB:Bulk bk) (hL:wgl P L=true) (htL:t∈L) {d:DataW H} {p:List MemPlace} {fs:Array Field} (ht:P.underlying t=some (.struct fs))
 (hval:Value.okWide P w r b0 t v) (hd:DataW.Trod enc P w 0 spare held t v d p) (hb:bk d<=N):∃ cells,FitT P N t cells/\RdB M0 w v (.agg cells):=by
 obtain ⟨cs,rfl,_⟩:=okWide_struct ht hval;obtain ⟨fuel,hf⟩:=hd;obtain ⟨cells,h1,h2⟩:=w7c hB hL fuel t htL _ (d,p) hf hb;exact ⟨cells,h2,⟨cs.toList,by simp,h1⟩⟩
theorem vh2 (hB:Bulk bk) (hL:wgl P L=true) (htL:t∈L) {d:DataW H} {p:List MemPlace} (hv:v.cells=#[v])
 (hd:DataW.Trod enc P w 0 spare held t v d p) (hb:bk d<=N):∃ c,FitT P N t [c]/\RdB M0 w v (.one c):=by
 obtain ⟨fuel,hf⟩:=hd;obtain ⟨cells,h1,h2⟩:=w7c hB hL fuel t htL _ (d,p) hf hb;rw [hv] at h1
 match cells,h1,h2 with
 | [c],h1,h2=>exact ⟨c,h2,h1.1⟩
theorem z05r (hB:Bulk bk) (hL:wgl P L=true) (htL:t∈L) {d:DataW H} {p:List MemPlace} (ht:P.underlying t=some (.slice e))
 (hval:Value.okWide P w r b0 t v) (hd:DataW.Trod enc P w 0 spare held t v d p) (hb:bk d<=N):∃ c,FitT P N t [c]/\RdB M0 w v (.one c):=by
 obtain ⟨a,len,cap,rfl⟩:=okWide_slice ht hval;exact vh2 hB hL htL rfl hd hb
end
theorem zfx {P:Program} {H:Type} {enc:TypeId×Value->H} {w:World} {sp:Nat->Bool} {held:Bool} {fuel:Nat} {n:Nat} {k:IntKind} {l:List Int} {cs:List Value} {p:List MemPlace}
 (ht:P.underlying t=some (.array n e)) (he:P.underlying e=some (.int k)) (hc:P.cellsOf e=1) (hct:P.cellsOf t=n)
 (h:DataW.trod enc P w 0 sp held fuel t cs=some (.agg (l.map fun z=>.lit (.int k z)),p)):cs=l.map (fun z=>Value.int k z):=by
 obtain ⟨xs,m,rfl,hx1,hlen,hn,hel⟩:=DataW.trod_array ht h;simp only [Prod.mk.injEq,DataW.agg.injEq] at hx1
 have hl:l.length=n:=by
  have:=congrArg List.length hx1.1
  simp at this;omega
 apply List.ext_getElem
 . rw [hlen,hct,List.length_map,hl]
 intro i h1 h2
 have hi:i<n:=by rw [hlen,hct] at h1;exact h1
 have h3:=hel i hi
 have hix:i<xs.length:=by omega
 rw [hc,Nat.mul_one,List.getElem?_eq_getElem hix] at h3
 have e1:(cs.drop i).take 1=[cs[i]]:=by
  rw [List.drop_eq_getElem_cons h1];rfl
 rw [e1] at h3;obtain ⟨z,e2,e3,_⟩:=DataW.trod_int he h3
 have e4:(l.map fun z=>(DataW.lit (.int k z):DataW H))[i]? = (xs.map (·.1))[i]?:=by rw [hx1.1]
 rw [List.getElem?_map,List.getElem?_map,List.getElem?_eq_getElem hix,List.getElem?_eq_getElem (by omega),e3] at e4;simp only [Option.map_some,Option.some.injEq,DataW.lit.injEq,Lit.int.injEq,true_and] at e4;rw [List.cons.injEq] at e2;rw [e2.1,List.getElem_map,e4]
end Go.Slot
namespace Go.Proofs.YtmegdbbbllffkaaGreatDoor
set_option maxRecDepth 100000
open Go Go.Slot Go.Hp Go.Hp.T Go.ChangeShapes Go.WideShapes Go.RowKit
variable {H α:Type} {cs:List Cell} {W:World} {f:FuncId}
theorem x5g:ownKnob Tryz.prog.godebug=none:=by kernel_rfl
theorem z0cr:laidOutB Tryz.prog=true:=by kernel_rfl
theorem zj4 (d:DataW H):1<=Rows.uptoBulk d:=by
 cases d with
 | lit l=>cases l<;>simp [Rows.uptoBulk]
 | nil=>simp [Rows.uptoBulk]
 | ptr d=>simp [Rows.uptoBulk]
 | slice elems spare=>simp [Rows.uptoBulk]
 | agg parts=>simp [Rows.uptoBulk]
 | iface t d=>simp [Rows.uptoBulk]
 | map entries=>simp [Rows.uptoBulk]
 | held h=>simp [Rows.uptoBulk]
theorem ytj {d:DataW H} {l:List (DataW H)} (h:d∈l):Rows.uptoBulk d<=Rows.uptoBulkAll l:=by
 induction l with
 | nil=>cases h
 | cons x r ih=>
  simp only [Rows.uptoBulkAll]
  cases List.mem_cons.1 h with
  | inl e=>subst e;omega
  | inr e=>have:=ih e;omega
theorem wpp (l:List (DataW H)):l.length<=Rows.uptoBulkAll l:=by
 induction l with
 | nil=>simp [Rows.uptoBulkAll]
 | cons x r ih=>have:=zj4 x;simp only [Rows.uptoBulkAll,List.length_cons];omega
theorem bulk:Bulk (H:=H) Rows.uptoBulk where
 str b:=by simp [Rows.uptoBulk]
 elems l r:=by
  have:=wpp l
  simp only [Rows.uptoBulk];omega
 elem l r d h:=by
  have:=ytj h
  simp only [Rows.uptoBulk];omega
 part l d h:=by
  have:=ytj h
  simp only [Rows.uptoBulk];omega
theorem vq1 {l:List (DataW H)} (hk:Rows.uptoSmall H l=true):∀ d∈l,Rows.uptoBulk d<=1048576:=fun d hd=>by
 have h:=ytj hd;have h2:Rows.uptoBulkAll l<=1048576:=of_decide_eq_true hk;omega
def argTypes:List TypeId:=[24,22,66,61,60,26,159,58,42,3,9,55,25,33,62,31,29]
theorem xv9:wgl Tryz.prog argTypes=true:=by kernel_rfl
theorem w6z:Tryz.prog.cellsOf 24=5:=by kernel_rfl
theorem zdd:Tryz.prog.cellsOf 60=3:=by kernel_rfl
theorem z0br:Tryz.prog.cellsOf 55=5:=by kernel_rfl
theorem x7i:Tryz.prog.cellsOf 159=2:=by kernel_rfl
theorem x7u {t:TypeId} {d:TypeDesc} (h:Tryz.prog.underlying t=some d) (hd:∀ k,d≠.int k):∀ k,Tryz.prog.underlying t≠some (.int k):=fun k hk=>by
 rw [h] at hk;cases hk;exact hd k rfl
theorem z08r {α:Type} {C:α->List Cell} {Q:α->Prop}:∀ rows:List (List Cell),(∀ r∈rows,∃ x,r=C x/\Q x)->∃ xs:List α,rows=xs.map C/\∀ x∈xs,Q x
 | [],_=>⟨[],rfl,fun x hx=>by cases hx⟩
 | r::rows,h=>by
  obtain ⟨x,hx,hq⟩:=h r (by simp);obtain ⟨xs,hxs,hqs⟩:=z08r rows (fun r' hr'=>h r' (by simp [hr']))
  exact ⟨x::xs,by rw [hx,hxs];rfl,fun y hy=>by
   rcases List.mem_cons.1 hy with rfl | hy
   . exact hq
   . exact hqs y hy⟩
theorem len2 {l:List α} (h:l.length=2):∃ a b,l=[a,b]:=by
 match l,h with
 | [a,b],_=>exact ⟨a,b,rfl⟩
theorem len3 {l:List α} (h:l.length=3):∃ a b c,l=[a,b,c]:=by
 match l,h with
 | [a,b,c],_=>exact ⟨a,b,c,rfl⟩
theorem len5 {l:List α} (h:l.length=5):∃ a b c d e,l=[a,b,c,d,e]:=by
 match l,h with
 | [a,b,c,d,e],_=>exact ⟨a,b,c,d,e,rfl⟩
theorem z0er:∀(t:TypeId) (cs:List Cell),FitT Tryz.prog 1048576 t cs->(t=24->∃ x:Ex,cs=exC x/\x.Sm)/\(t=22->∃ l:List Ex,cs=[.sl 5 (l.map Ex.cells)]/\l.length<=1048576/\∀ y∈l,y.Sm):=by
 intro t cs h
 induction h with
 | int ht=>exact ⟨fun e=>(by subst e;rw [Tryz.underlying24] at ht;cases ht),fun e=>(by subst e;rw [Tryz.underlying22] at ht;cases ht)⟩
 | bool ht=>exact ⟨fun e=>(by subst e;rw [Tryz.underlying24] at ht;cases ht),fun e=>(by subst e;rw [Tryz.underlying22] at ht;cases ht)⟩
 | str ht=>exact ⟨fun e=>(by subst e;rw [Tryz.underlying24] at ht;cases ht),fun e=>(by subst e;rw [Tryz.underlying22] at ht;cases ht)⟩
 | ints ht he=>exact ⟨fun e=>(by subst e;rw [Tryz.underlying24] at ht;cases ht),fun e=>(by subst e;rw [Tryz.underlying22] at ht;cases ht;rw [Tryz.underlying24] at he;cases he)⟩
 | array ht=>exact ⟨fun e=>(by subst e;rw [Tryz.underlying24] at ht;cases ht),fun e=>(by subst e;rw [Tryz.underlying22] at ht;cases ht)⟩
 | sl ht he hl h ih=>
  refine ⟨fun e=>(by subst e;rw [Tryz.underlying24] at ht;cases ht),fun e=>?_⟩;subst e;rw [Tryz.underlying22] at ht
  cases ht
  obtain ⟨xs,rfl,hxs⟩:=z08r (C:=Ex.cells) (Q:=Ex.Sm) _ (fun r hr=>by
   obtain ⟨x,h1,h2⟩:=(ih r hr).1 rfl
   exact ⟨x,by rw [h1,Ex.vle],h2⟩)
  exact ⟨xs,by rw [w6z],by simpa using hl,hxs⟩
 | struct ht hl h ih=>
  refine ⟨fun e=>?_,fun e=>(by subst e;rw [Tryz.underlying22] at ht;cases ht)⟩;subst e;rw [Tryz.underlying24] at ht
  cases ht;obtain ⟨r0,r1,r2,r3,r4,rfl⟩:=len5 hl;obtain ⟨o,rfl,_⟩:=(h 0 _ r0 rfl rfl).yny (Tryz.underlying3);obtain ⟨n,rfl,_⟩:=(h 1 _ r1 rfl rfl).yny (Tryz.underlying3);obtain ⟨u,rfl,hu⟩:=(h 2 _ r2 rfl rfl).x09 (Tryz.underlying9);obtain ⟨s,rfl,hs⟩:=(h 3 _ r3 rfl rfl).x09 (Tryz.underlying9);obtain ⟨l,rfl,hll,hls⟩:=(ih 4 _ r4 rfl rfl).2 rfl;exact ⟨.mk o n u s l,rfl,.mk _ (Nat.le_trans hll (by decide)) (Nat.le_trans hu (by decide)) (Nat.le_trans hs (by decide)) hls⟩
theorem y53 (h:FitT Tryz.prog 1048576 31 cs):∃(s:Int) (L:List Int),cs=[.raw (.int .i64 s),.ints .i64 L]/\L.length<=1048576:=by
 obtain ⟨rows,rfl,hl,hr⟩:=h.vtw Tryz.underlying31;obtain ⟨r0,r1,rfl⟩:=len2 hl;obtain ⟨s,rfl,_⟩:=(hr 0 _ r0 rfl rfl).yny (Tryz.underlying3);obtain ⟨L,rfl,hL,_⟩:=(hr 1 _ r1 rfl rfl).wtu (Tryz.underlying29) (Tryz.underlying3);exact ⟨s,L,rfl,hL⟩
theorem z01r (h:FitT Tryz.prog 1048576 33 cs):∃ f:Fc,cs=f.C/\f.sz<=1048576:=by
 obtain ⟨rows,rfl,hl,hr⟩:=h.vtw Tryz.underlying33;obtain ⟨r0,r1,rfl⟩:=len2 hl;obtain ⟨s,L,rfl,hL⟩:=y53 (hr 0 _ r0 rfl rfl);obtain ⟨t,M,rfl,hM⟩:=y53 (hr 1 _ r1 rfl rfl);exact ⟨⟨s,L,t,M⟩,rfl,Nat.max_le.2 ⟨hL,hM⟩⟩
theorem vej (h:FitT Tryz.prog 1048576 55 cs):∃ x:Bd,cs=x.C/\x.Sm:=by
 obtain ⟨rows,rfl,hl,hr⟩:=h.vtw Tryz.underlying55;obtain ⟨r0,r1,rfl⟩:=len2 hl;obtain ⟨s,rfl,hs⟩:=(hr 0 _ r0 rfl rfl).x09 (Tryz.underlying9);obtain ⟨f,rfl,hf⟩:=z01r (hr 1 _ r1 rfl rfl);have h2:=Nat.max_le.1 hf;exact ⟨⟨s,f⟩,rfl,⟨Nat.le_trans hs (by decide),Nat.le_trans h2.1 (by decide),Nat.le_trans h2.2 (by decide)⟩⟩
theorem y34 (h:FitT Tryz.prog 1048576 159 cs):∃ x:Rw,cs=x.C/\True:=by
 obtain ⟨rows,rfl,hl,hr⟩:=h.vtw Tryz.underlying159;obtain ⟨r0,r1,rfl⟩:=len2 hl;obtain ⟨a,rfl,_⟩:=(hr 0 _ r0 rfl rfl).yny (Tryz.underlying3);obtain ⟨b,rfl,_⟩:=(hr 1 _ r1 rfl rfl).yny (Tryz.underlying3);exact ⟨⟨a,b⟩,rfl,trivial⟩
theorem z02r (h:FitT Tryz.prog 1048576 60 cs):∃ x:Tb,cs=x.C/\x.Sm:=by
 obtain ⟨rows,rfl,hl,hr⟩:=h.vtw Tryz.underlying60;obtain ⟨r0,r1,r2,rfl⟩:=len3 hl;obtain ⟨s,rfl,hs⟩:=(hr 0 _ r0 rfl rfl).x09 (Tryz.underlying9);obtain ⟨u,rfl,hu⟩:=(hr 1 _ r1 rfl rfl).x09 (Tryz.underlying9);obtain ⟨rs,rfl,hrl,hrr⟩:=(hr 2 _ r2 rfl rfl).z1w (Tryz.underlying58) (x7u Tryz.underlying159 (fun k h=>by cases h));obtain ⟨xs,rfl,_⟩:=z08r (C:=Rw.C) (Q:=fun _=>True) _ (fun r hr'=>y34 (hrr r hr'));refine ⟨⟨s,u,xs⟩,by rw [x7i];try rfl,⟨Nat.le_trans hs (by decide),Nat.le_trans hu (by decide),?_⟩⟩
 have:xs.length<=1048576:=by simpa using hrl
 exact Nat.le_trans this (by decide)
section
variable {H:Type} {enc:TypeId×Value->H} {W:World} {v:Value} {d:DataW H} {p:List MemPlace} {b:Nat}
theorem xky (hval:Value.okWide Tryz.prog W .any b 24 v) (hd:DataW.Trod enc Tryz.prog W 0 (fun _=>true) true 24 v d p) (hb:Rows.uptoBulk d<=1048576) :
 ∃ x:Ex,RdB M0 W v (.agg (exC x))/\x.Sm:=by
 obtain ⟨cells,h1,h2⟩:=z00r bulk xv9 (by decide) Tryz.underlying24 hval hd hb;obtain ⟨x,rfl,h3⟩:=(z0er _ _ h1).1 rfl;exact ⟨x,h2,h3⟩
theorem z04r (hval:Value.okWide Tryz.prog W .any b 26 v) (hd:DataW.Trod enc Tryz.prog W 0 (fun _=>true) true 26 v d p) (hb:Rows.uptoBulk d<=1048576) :
 ∃ l:List Tb,RdB M0 W v (.one (.sl 3 (l.map Tb.C)))/\l.length<=1048576/\∀ x∈l,x.Sm:=by
 obtain ⟨c,h1,h2⟩:=z05r bulk xv9 (by decide) Tryz.underlying26 hval hd hb;obtain ⟨rows,e,hl,hr⟩:=h1.z1w (Tryz.underlying26) (x7u Tryz.underlying60 (fun k h=>by cases h));obtain ⟨xs,rfl,hx⟩:=z08r (C:=Tb.C) (Q:=Tb.Sm) _ (fun r hr'=>z02r (hr r hr'))
 cases e;rw [zdd] at h2;exact ⟨xs,h2,by simpa using hl,hx⟩
theorem yap (hval:Value.okWide Tryz.prog W .any b 25 v) (hd:DataW.Trod enc Tryz.prog W 0 (fun _=>true) true 25 v d p) (hb:Rows.uptoBulk d<=1048576) :
 ∃ l:List Bd,RdB M0 W v (.one (.sl 5 (l.map Bd.C)))/\l.length<=1048576/\∀ x∈l,x.Sm:=by
 obtain ⟨c,h1,h2⟩:=z05r bulk xv9 (by decide) Tryz.underlying25 hval hd hb;obtain ⟨rows,e,hl,hr⟩:=h1.z1w (Tryz.underlying25) (x7u Tryz.underlying55 (fun k h=>by cases h));obtain ⟨xs,rfl,hx⟩:=z08r (C:=Bd.C) (Q:=fun x=>x.Sm) _ (fun r hr'=>vej (hr r hr'))
 cases e;rw [z0br] at h2;exact ⟨xs,h2,by simpa using hl,hx⟩
end
def z13r:List (String×DataW Unit):=Rows.valueTellsUptoRow.laid
def vw8:String:=(z13r.headD (Tryz.f0.name,.nil)).1
theorem xf0:Tryz.prog.globalNamed vw8=some 0:=by kernel_rfl
theorem zev:(Tryz.prog.globals[0]?).map (·.type)=some 213:=by kernel_rfl
theorem v5u (h:laidMetH Tryz.prog z13r W):y7g Gs M0 W:=by
 rw [MakeChecks.laidMetH_plain _ _ _ (by kernel_rfl)] at h;obtain ⟨ps,⟨g0,t0,cs0,f0,p0,q0,hg0,ht0,hv0,hd0,_,_⟩,_,_⟩:=h;obtain rfl:=Option.some.inj (xf0.symm.trans hg0);obtain rfl:=Option.some.inj (zev.symm.trans ht0);have e:=zfx (l:=[40,41,44,59,58,61,60,43,45,42,47,123,125]) Tryz.underlying213 Tryz.underlying5 (by kernel_rfl) (by kernel_rfl) hd0;intro g cs hg;have hg':=List.mem_singleton.1 hg
 cases hg';refine ⟨cs0.toList,fun j u hu=>⟨fun h=>h,?_⟩,?_⟩
 . rw [World.var?_cell hg0 hv0 j,<-Array.getElem?_toList];exact hu
 . rw [e];exact ⟨.raw rfl,.raw rfl,.raw rfl,.raw rfl,.raw rfl,.raw rfl,.raw rfl,.raw rfl,.raw rfl,.raw rfl,.raw rfl,.raw rfl,.raw rfl,trivial⟩
theorem zsu (os:Os) (args:Array Value):laidMetH Tryz.prog z13r ((World.doorLaid Tryz.prog 14 os).forCall (fun _ _=>0) ⟨#[],args,[]⟩).memory:=
 laidMetH_of_parts3 (fuel:=8) (laidMet_of_run' 8 (by kernel_rfl) (by kernel_rfl)) (by kernel_rfl) (by kernel_rfl)
theorem wyu {C:Checked} {os:Os} {fn:Func} {enc:TypeId×Value->H} {s:OpenSpec} {k:(H:Type)->List (DataW H)->Bool} (hk:s.cond=some k) {conds:List PathCond} {apart:Bool} {laid:List (String×DataW Unit)} (modest:Bool) (n:Nat) (args:Array Value) (fuel:Nat)
 (hsh:((World.doorLaid C.prog n os).forCall (fun _ _=>0) ⟨#[],args,[]⟩).Shaped C.prog)
 (hok:Input.okWideB C.prog ((World.doorLaid C.prog n os).forCall (fun _ _=>0) ⟨#[],args,[]⟩) f ⟨#[],args,[]⟩=true)
 {x:List (DataW H)×List (DataW H)×List MemPlace} (hx:DataW.whole enc C.prog ((World.doorLaid C.prog n os).forCall (fun _ _=>0) ⟨#[],args,[]⟩).memory fn.params.toList s.vars apart args.toList fuel=some x)
 (hconds:conds.all (PathCond.test C.prog ⟨fn.params.toList,x.1,s.bare.plain.varTypes C.prog,x.2.1⟩)=true) (hkk:k H (x.1++x.2.1)=true)
 (hsz:s.bare.sizedB enc C.prog fn apart ((World.doorLaid C.prog n os).forCall (fun _ _=>0) ⟨#[],args,[]⟩).memory args fuel=true)
 (hl:laidMetH C.prog laid ((World.doorLaid C.prog n os).forCall (fun _ _=>0) ⟨#[],args,[]⟩).memory) :
 ∃(w:World) (tape:Tape) (i:Input),w.os=os/\(w.forCall tape i).Shaped C.prog/\i.vars=[]/\Input.okWide C.prog (w.forCall tape i) .any w.heap.size f i/\
  s.preRow enc C.prog fn conds apart laid (w.forCall tape i).memory i.args/\({ modest:=modest }:Assume).holds C.prog (lone (Frame.enter C.prog f i.args .normal) [] (w.forCall tape i)):=
 ⟨World.doorLaid C.prog n os,fun _ _=>0,⟨#[],args,[]⟩,rfl,hsh,(Input.okWide_of_okWideB (base:=0) hok).1,(Input.okWide_of_okWideB hok).2,
  ⟨⟨(OpenSpec.pre_some hk conds apart _ _).2 ⟨x.1,x.2.1,x.2.2,DataW.Whole_of_whole hx,hconds,hkk⟩,hl⟩,sizedMet_of_sizedB hsz⟩,by
  simp only [Assume.holds]
  exact ⟨by simp,by simp,fun _=>Modest.zero,by simp,by simp⟩⟩
theorem ended {args:List AV} {vs:List Value} (hc:Go.Hp.CallsD Gs Tryz.prog f args (.one (cB true))) (hg:y7g Gs M0 W) (hr:RdBL M0 W vs args):Calls Tryz.prog f vs.toArray W fun e W'=>e=.returned (.bool true)/\Below W.heap.size W W':=
 (hc.2 M0 W vs (fun b o h=>h.elim) hg hr).mono (fun e W' ⟨v,he,hb,hr',_⟩=>by
   have hv:v=.bool true:=RdC.zb5 hr';rw [hv] at he
   exact ⟨he,hb⟩)
def zE:Value:=.agg #[.int .i64 0,.int .i64 0,.string ⟨#[]⟩,.string ⟨#[]⟩,.slice none 0 0]
def dI {H:Type}:DataW H:=.lit (.int .i64 0)
def dS {H:Type}:DataW H:=.lit (.string [])
def dE {H:Type}:DataW H:=.agg [dI,dI,dS,dS,.nil]
end Go.Proofs.YtmegdbbbllffkaaGreatDoor
namespace Go.Hp.T
open Go Go.RowKit Go.Slot Go.Hp Go.Slot.T
open Go.Proofs.Tryz (prog)
set_option maxRecDepth 10000
set_option maxHeartbeats 4000000
variable {Γ:List (Nat×List Cell)}
variable {α:Type} {r:Nat->Nat}
theorem yp7 {C:α->SV} (h:∀ r a,yo9 r (C a)=C a) (r:Nat->Nat) (l:List (ByteArray×α)):rnSB r (.map (envM C l))=.map (envM C l):=by
 have:(envM C l).map (fun p=>(p.1,yo9 r p.2))=envM C l:=by
  induction l with
  | nil=>rfl
  | cons p l ih=>
   show (Value.string p.1,yo9 r (C p.2))::(envM C l).map _=_;rw [ih,h];rfl
 show SB.map _=_;rw [this]
theorem xgc {C:α->SV} (h:∀ i j a,wn0 i j (C a)=C a) (i j:Nat) (l:List (ByteArray×α)):swSB i j (.map (envM C l))=.map (envM C l):=by
 have:(envM C l).map (fun p=>(p.1,wn0 i j p.2))=envM C l:=by
  induction l with
  | nil=>rfl
  | cons p l ih=>
   show (Value.string p.1,wn0 i j (C p.2))::(envM C l).map _=_;rw [ih,h];rfl
 show SB.map _=_;rw [this]
theorem xuj {C:α->SV} (h:∀ a,vp6 (C a)=[]) (l:List (ByteArray×α)):z0y (.map (envM C l))=[]:=by
 show (envM C l).flatMap (fun p=>vp6 p.2)=[]
 induction l with
 | nil=>rfl
 | cons p l ih=>show vp6 (C p.2)++(envM C l).flatMap _=[];rw [ih,h];rfl
theorem yi4 {l:Vq}:rnSB r (.map (envQ l))=.map (envQ l):=yp7 (fun _ _=>rfl) r l
theorem z14r {l:Vt}:rnSB r (.map (envB l))=.map (envB l):=yp7 (fun _ _=>rfl) r l
theorem vp2 (i j:Nat) (l:Vq):swSB i j (.map (envQ l))=.map (envQ l):=xgc (fun _ _ _=>rfl) i j l
theorem vcy (i j:Nat) (l:Vt):swSB i j (.map (envB l))=.map (envB l):=xgc (fun _ _ _=>rfl) i j l
theorem yce (l:Vq):z0y (.map (envQ l))=[]:=xuj (fun _=>rfl) l
theorem wor (l:Vt):z0y (.map (envB l))=[]:=xuj (fun _=>rfl) l
attribute [go_sem] yce wor
attribute [go_sem 20000] yi4 z14r vp2 vcy
abbrev mQ (l:Vq):SB:=.map (envQ l)
abbrev mB (l:Vt):SB:=.map (envB l)
theorem zcx (V:Vq) (T:Vt):∀ r,[mQ V,mB T].map (rnSB r)=[mQ V,mB T]:=fun r=>by
 simp only [List.map_cons,List.map_nil,mQ,mB,yi4,z14r]
theorem wo0 (o:Int) (l:List Rs) (hl:l.length<=1073741824):CallsD Γ prog 72 [.one (cI o),.one (.sl 6 (l.map Rs.C))] (rsR (logV o l)):=by
 generalize hR:logV o l=R;refine CallsD.run [] Go.Proofs.Tryz.func72 rfl rfl rfl ?_;simp only [Go.Proofs.Tryz.f72];refine hgR ?_;refine y55 [0,1,4,10,11] (fun i:Nat=>[(6,.one (.dat (cB ((l.take i).all (·.i))))),(7,.one (.dat (cB ((l.take i).any (·.i))))),(12,.one (.dat (cI i)))]) (fun _=>[.box ((rsZ false false).map .dat) (some 35)])
  (fun i=>i<=l.length/\∀ j,j<i->(l.getD j default).t=true) (fun i=>l.length-i) 0 ⟨Nat.zero_le _,fun j hj=>by omega⟩ ?_ ?_
 . refine hg ?_;exact StH.same svl rfl
 rintro i ⟨hi,hj⟩;refine hg ?_;refine vnx (fun hlt _=>?_) (fun hlt _=>?_)
 . have hlt':i<l.length:=by omega
   have hbad:(l.getD i default).t=false->R=(⟨false,false,none⟩,13):=fun h=>by
    rw [<-hR];unfold logV;rw [show l.any (fun r=>!r.t)=true from List.any_eq_true.2 ⟨_,w4t hlt',by rw [h];rfl⟩];rfl
   have hA:(l.take (i+1)).all (·.i)=((l.take i).all (·.i)&&(l.getD i default).i):=by rw [z4f hlt',List.all_append];simp
   have hS:(l.take (i+1)).any (·.i)=((l.take i).any (·.i)||(l.getD i default).i):=by rw [z4f hlt',List.any_append];simp
   have hnext:=fun h=>xrx (p:=fun j=>(l.getD j default).t=true) hj h
   clear hj hR;generalize (l.take i).all (·.i)=A at *;generalize (l.take i).any (·.i)=S at *;refine hg ?_
   repeat' ((first | refine hfk ?_ ?_<;>intros | refine hik ?_)<;>refine hgS ?_)
   all_goals first
    | exact rsEq rfl
    | (rw [hbad (by assumption)];exact rsEq rfl)
    | (refine ⟨i+1,⟨by omega,hnext (by assumption)⟩,by omega,?_⟩
       rw [hA,hS];simp only [*,Bool.true_and,Bool.false_and,Bool.true_or,Bool.false_or]
       exact StH.back [0,1,4,6,7,10,11,12] 0 0 1 rfl rfl rfl rfl rfl (by kernel_rfl) (StH.same svl rfl))
 . have e:i=l.length:=by omega
   have hall:l.any (fun r=>!r.t)=false:=by
    rw [List.any_eq_false];intro r hr;obtain ⟨j,hj',rfl⟩:=List.getElem_of_mem hr
    have:=hj j (by omega)
    rw [show l.getD j default=l[j] from by simp [hj']] at this;simp [this]
   have e2:R=bif decide (o=14) then truV (l.all (·.i)) else bif decide (o=15) then truV (l.any (·.i)) else truV (!l.all (·.i)):=by rw [<-hR];unfold logV;rw [hall];rfl
   rw [e2,e,List.take_length];generalize l.all (·.i)=A;generalize l.any (·.i)=S;refine hg ?_
   repeat' ((first | refine hfk ?_ ?_<;>intros | refine hik ?_ | with_reducible first | refine v6l (wl0 _) ?_ | refine vgi (wl0 _) ?_)<;>refine hgS ?_)
   all_goals refine lfE ?_;first | exact trivial | rfl
theorem StH.yaz {e:List SB} {I:List SV} {J:List SB} {t i:Bool} {n:Int} {r:Rs×Int} (he:J.take e.length=e) (h:(I.all fun x=>(vp6 x).all fun b=>Nat.blt b e.length)=true) (hσ:I=[SV.tup [.agg ((T.rsZ t i).map .dat),.one (.dat (cI n))]]) (hr:r=(⟨t,i,none⟩,n)):StH Γ e I J [rsS r] e:=by
 subst hr;exact StH.trans (StH.zx4 he h hσ) (StH.rsZ StH.refl)
theorem vp4 (V:Vq) (T:Vt) (s:ByteArray) (k:Rs) (hT:∀ s t,ycr T s=some t->t.Sm/\tbOk t=true) (hk:qz k.v<=67108864):vfe Γ prog 71 [mQ V,mB T] [.agg [.mp 0,.mp 1],.one (.dat (cS s)),.agg ((rsC k).map .dat)] [mQ V,mB T] (rsS (woh T s k)):=by
 cases h:ycr T s with
 | none=>
  have e:woh T s k=(⟨false,false,none⟩,11):=by unfold woh;rw [h];rfl
  rw [e];refine vfe.run [] Go.Proofs.Tryz.func71 rfl rfl ?_;simp only [Go.Proofs.Tryz.f71];refine hgR ?_;refine hg1 @h ?_
  repeat' ((first | refine hfk ?_ ?_<;>intros | refine hik ?_)<;>refine hgS ?_)
  exact StH.yaz rfl (by kernel_rfl) rfl rfl
 | some t=>
  obtain ⟨h1,h2⟩:=hT s t h;have hL:=vud (Γ:=Γ) t k.v hk h1.n h1.u h1.r
  have e:woh T s k=bif k.t then (Rs.zero,13) else numV (z0cq t k.v).1 (z0cq t k.v).2:=by unfold woh;rw [h]
  rw [e];generalize z0cq t k.v=r at hL;obtain ⟨rv,re⟩:=r;simp only at hL;refine vfe.run [] Go.Proofs.Tryz.func71 rfl rfl ?_;simp only [Go.Proofs.Tryz.f71];refine hgR ?_;refine hg1 @h ?_
  repeat' ((first | refine hfk ?_ ?_<;>intros | refine hik ?_ | with_reducible first | refine v6l (hL) ?_ | refine vgi (hL) ?_ | refine v6l (x7x rv re) ?_ | refine vgi (x7x rv re) ?_)<;>refine hgS ?_)
  . exact StH.yaz rfl (by kernel_rfl) rfl rfl
  . exact StH.zx4 rfl (by kernel_rfl) rfl
abbrev scB:SB:=.box [.mp 1,.mp 2] (some 79)
theorem z3l (V:Vq) (T:Vt) (s:ByteArray) (hs:s.size<=1073741824) (a c d:SB):vfe Γ prog 64 [a,mQ V,mB T,scB,c,d] [.one (.dat (cS s)),.one (.ptr 3 0)] [a,mQ V,mB T,scB,c,d] (.one (.dat (cB (!((ycr V s).isSome||(ycr T s).isSome||!isName s||isWord s))))):=by
 cases h1:ycr V s with
 | none=>cases h2:ycr T s with
  | none=>
   refine vfe.run [] Go.Proofs.Tryz.func64 rfl rfl ?_;simp only [Go.Proofs.Tryz.f64];refine hgR ?_;refine hg2 @h1 @h2 ?_
   repeat' ((first | refine hfk ?_ ?_<;>intros | refine hik ?_ | with_reducible first | refine v6l (vv6 s (by omega)) ?_ | refine vgi (vv6 s (by omega)) ?_ | refine v6l (v7c s) ?_ | refine vgi (v7c s) ?_)<;>refine hgS ?_)
   all_goals exact StH.zx4 rfl (by kernel_rfl) (by (((conv=>simp only [Bool.and_true,Bool.true_and,Bool.and_false,Bool.false_and,Bool.or_true,Bool.true_or,Bool.or_false,Bool.false_or,Bool.not_true,Bool.not_false,decide_true,decide_false,not_true_eq_false,not_false_eq_true,wgp,if_true,if_false,Bool.and_self,Bool.or_self,cond_true,cond_false,List.length_map,ne_eq,Int.reduceEq,Int.reduceLT,Int.reduceLE, *,h1,h2,Option.isSome])<;>try exact trivial))<;>first | rfl | trivial)
  | some t=>
   refine vfe.run [] Go.Proofs.Tryz.func64 rfl rfl ?_;simp only [Go.Proofs.Tryz.f64];refine hgR ?_;refine hg2 @h1 @h2 ?_
   repeat' ((first | refine hfk ?_ ?_<;>intros | refine hik ?_ | with_reducible first | refine v6l (vv6 s (by omega)) ?_ | refine vgi (vv6 s (by omega)) ?_ | refine v6l (v7c s) ?_ | refine vgi (v7c s) ?_)<;>refine hgS ?_)
   all_goals exact StH.zx4 rfl (by kernel_rfl) (by (((conv=>simp only [Bool.and_true,Bool.true_and,Bool.and_false,Bool.false_and,Bool.or_true,Bool.true_or,Bool.or_false,Bool.false_or,Bool.not_true,Bool.not_false,decide_true,decide_false,not_true_eq_false,not_false_eq_true,wgp,if_true,if_false,Bool.and_self,Bool.or_self,cond_true,cond_false,List.length_map,ne_eq,Int.reduceEq,Int.reduceLT,Int.reduceLE, *,h1,h2,Option.isSome])<;>try exact trivial))<;>first | rfl | trivial)
 | some q=>cases h2:ycr T s with
  | none=>
   refine vfe.run [] Go.Proofs.Tryz.func64 rfl rfl ?_;simp only [Go.Proofs.Tryz.f64];refine hgR ?_;refine hg2 @h1 @h2 ?_
   repeat' ((first | refine hfk ?_ ?_<;>intros | refine hik ?_ | with_reducible first | refine v6l (vv6 s (by omega)) ?_ | refine vgi (vv6 s (by omega)) ?_ | refine v6l (v7c s) ?_ | refine vgi (v7c s) ?_)<;>refine hgS ?_)
   all_goals exact StH.zx4 rfl (by kernel_rfl) (by (((conv=>simp only [Bool.and_true,Bool.true_and,Bool.and_false,Bool.false_and,Bool.or_true,Bool.true_or,Bool.or_false,Bool.false_or,Bool.not_true,Bool.not_false,decide_true,decide_false,not_true_eq_false,not_false_eq_true,wgp,if_true,if_false,Bool.and_self,Bool.or_self,cond_true,cond_false,List.length_map,ne_eq,Int.reduceEq,Int.reduceLT,Int.reduceLE, *,h1,h2,Option.isSome])<;>try exact trivial))<;>first | rfl | trivial)
  | some t=>
   refine vfe.run [] Go.Proofs.Tryz.func64 rfl rfl ?_;simp only [Go.Proofs.Tryz.f64];refine hgR ?_;refine hg2 @h1 @h2 ?_
   repeat' ((first | refine hfk ?_ ?_<;>intros | refine hik ?_ | with_reducible first | refine v6l (vv6 s (by omega)) ?_ | refine vgi (vv6 s (by omega)) ?_ | refine v6l (v7c s) ?_ | refine vgi (v7c s) ?_)<;>refine hgS ?_)
   all_goals exact StH.zx4 rfl (by kernel_rfl) (by (((conv=>simp only [Bool.and_true,Bool.true_and,Bool.and_false,Bool.false_and,Bool.or_true,Bool.true_or,Bool.or_false,Bool.false_or,Bool.not_true,Bool.not_false,decide_true,decide_false,not_true_eq_false,not_false_eq_true,wgp,if_true,if_false,Bool.and_self,Bool.or_self,cond_true,cond_false,List.length_map,ne_eq,Int.reduceEq,Int.reduceLT,Int.reduceLE, *,h1,h2,Option.isSome])<;>try exact trivial))<;>first | rfl | trivial)
theorem wv3 (V:Vq) (T:Vt) (x:Ex) (hl:3<=x.args.length) (hl2:x.args.length<=1073741824)
 (h:∀ i,i<3->vfe Γ prog 34 [mQ V,mB T] [.agg [.mp 0,.mp 1],.agg ((exC (x.args.getD i default)).map .dat)] [mQ V,mB T] (rsS ((x.args.getD i default).cal V T))) :
 vfe Γ prog 70 [mQ V,mB T] [.agg [.mp 0,.mp 1],.agg ((exC x).map .dat)] [mQ V,mB T] (rsS (chV (x.args.map (Ex.cal V T)))):=by
 have h0:=h 0 (by decide);have h1:=h 1 (by decide);have h2:=h 2 (by decide);clear h
 have e:chV (x.args.map (Ex.cal V T))=bif decide (¬((x.args.getD 0 default).cal V T).2=0) then (Rs.zero,((x.args.getD 0 default).cal V T).2) else bif !((x.args.getD 0 default).cal V T).1.t then (Rs.zero,13) else bif ((x.args.getD 0 default).cal V T).1.i then (x.args.getD 1 default).cal V T else (x.args.getD 2 default).cal V T:=by
  unfold chV;rw [getD_map (show 0<x.args.length by omega),getD_map (show 1<x.args.length by omega),getD_map (show 2<x.args.length by omega)]
 rw [e];generalize (x.args.getD 0 default).cal V T=r0 at h0;generalize (x.args.getD 1 default).cal V T=r1 at h1;generalize (x.args.getD 2 default).cal V T=r2 at h2;obtain ⟨⟨t0,i0,v0⟩,e0⟩:=r0;simp only at h0 ⊢;refine vfe.run [] Go.Proofs.Tryz.func70 rfl rfl ?_;simp only [Go.Proofs.Tryz.f70];refine hgR ?_;refine hg ?_;refine zjb 2 (fun ξ=>vfe.pre h0 (zcx V T) rfl rfl) rfl rfl ?_;clear h0;refine hg ?_
 repeat' ((first | refine hfk ?_ ?_<;>intros | refine hik ?_)<;>refine hgS ?_)
 . exact StH.yaz rfl (by kernel_rfl) rfl rfl
 . exact StH.yaz rfl (by kernel_rfl) rfl rfl
 . refine zjb 2 (fun ξ=>vfe.pre h1 (zcx V T) rfl rfl) rfl rfl ?_;refine hg ?_
   repeat' ((first | refine hfk ?_ ?_<;>intros | refine hik ?_)<;>refine hgS ?_)
   exact StH.zx4 rfl (by kernel_rfl) rfl
 . refine zjb 2 (fun ξ=>vfe.pre h2 (zcx V T) rfl rfl) rfl rfl ?_;refine hg ?_
   repeat' ((first | refine hfk ?_ ?_<;>intros | refine hik ?_)<;>refine hgS ?_)
   exact StH.zx4 rfl (by kernel_rfl) rfl
theorem z10r {B:Nat} (hB:4300<=B) (V:Vq) (T:Vt) (hV:Vsm B V) (hT:∀ s t,ycr T s=some t->t.Sm/\tbOk t=true):∀ x:Ex,x.Sm->x.shaped=true->x.xi4=false->B*x.nd<=67108864->vfe Γ prog 34 [mQ V,mB T] [.agg [.mp 0,.mp 1],.agg ((exC x).map .dat)] [mQ V,mB T] (rsS (x.cal V T)):=by
 refine Ex.ind (fun x ih hx hsh hcl hnd=>?_);have hl:=hx.len;have hu:=hx.u;have hcal:=Ex.yre V T x
 have hnode:yxn x=true:=by rw [Ex.xg3,Bool.and_eq_true] at hsh;exact hsh.1
 have hargs:∀ y∈x.args,y.shaped=true:=by rw [Ex.xg3,Bool.and_eq_true,List.all_eq_true] at hsh;exact hsh.2
 have hcalls:x.op≠3/\∀ y∈x.args,y.xi4=false:=by
  rw [Ex.wd9,Bool.or_eq_false_iff,decide_eq_false_iff_not,List.any_eq_false] at hcl;exact ⟨hcl.1,fun y hy=>by simpa using hcl.2 y hy⟩
 have hnds:∀ y∈x.args,B*y.nd<=67108864:=fun y hy=>Nat.le_trans (Nat.mul_le_mul_left _ (by have:=Ex.xka hy;have:=Ex.z1dq x;omega)) hnd
 by_cases h0:x.op=0
 . rw [decide_eq_true h0,cond_true] at hcal;have hn:=z01q hnode h0
   have hin:inI x.n:=by unfold inI;omega
   have hz:=wtn hin;have ho:=oInt (Γ:=Γ) x.n hin;rw [hcal]
   rcases veq x.unit with ⟨u,h,hq⟩ | ⟨e,he,h⟩
   . have hr:=xyv (Γ:=Γ) hu h
     have e1:xoq x.n x.unit=numV (mulO (some (x.n:Rat)) (some u.f)) (erO (some (x.n:Rat)) (some u.f)):=by unfold xoq facO;rw [h];rfl
     have hm:=oMul (Γ:=Γ) (some (x.n:Rat)) (some u.f) (by omega) (by show qs u.f<=_;omega);rw [e1];refine vfe.run [] Go.Proofs.Tryz.func34 rfl rfl ?_;simp only [Go.Proofs.Tryz.f34];refine hgR ?_
     repeat' ((first | refine hfk ?_ ?_<;>intros | refine hik ?_ | with_reducible first | refine v6l (hr) ?_ | refine vgi (hr) ?_ | refine v6l (ho) ?_ | refine vgi (ho) ?_ | refine v6l (hm) ?_ | refine vgi (hm) ?_ | refine v6l (x7x _ _) ?_ | refine vgi (x7x _ _) ?_)<;>refine hgS ?_)
     all_goals first
      | (exfalso;omega)
      | exact StH.zx4 rfl (by kernel_rfl) rfl
   . have hr:=vqa (Γ:=Γ) x.unit hu;rw [h] at hr
     have e1:xoq x.n x.unit=(⟨false,false,none⟩,14):=by unfold xoq;rw [h];simp only [decide_eq_true he,cond_true];rfl
     rw [e1];refine vfe.run [] Go.Proofs.Tryz.func34 rfl rfl ?_;simp only [Go.Proofs.Tryz.f34];refine hgR ?_
     repeat' ((first | refine hfk ?_ ?_<;>intros | refine hik ?_ | with_reducible first | refine v6l (hr) ?_ | refine vgi (hr) ?_)<;>refine hgS ?_)
     all_goals first
      | (exfalso;omega)
      | exact StH.yaz rfl (by kernel_rfl) rfl rfl
 rw [decide_eq_false h0,cond_false] at hcal;by_cases h1:x.op=1
 . rw [decide_eq_true h1,cond_true] at hcal;rw [hcal];unfold y21
   cases hlk:ycr V x.name with
   | none=>
    show vfe _ _ _ _ _ _ (rsS (⟨false,false,none⟩,11));refine vfe.run [] Go.Proofs.Tryz.func34 rfl rfl ?_;simp only [Go.Proofs.Tryz.f34];refine hgR ?_
    repeat' ((first | refine hfk ?_ ?_<;>intros | refine hik ?_)<;>refine hgS ?_)
    all_goals try (exfalso;omega)
    refine hg1 @hlk ?_
    repeat' ((first | refine hfk ?_ ?_<;>intros | refine hik ?_)<;>refine hgS ?_)
    all_goals first
     | (exfalso;omega)
     | exact StH.yaz rfl (by kernel_rfl) rfl rfl
   | some q=>
    have hq:=hV _ _ hlk;have ho:=oInt (Γ:=Γ) 0 (by decide);have hz:=wtn (n:=0) (by decide);have ha:=oAdd (Γ:=Γ) (some q) (some ((0:Int):Rat)) (by show qs q<=_;have:=Ex.z1dq x;have:B<=B*x.nd:=Nat.le_mul_of_pos_right _ (by omega);omega) (by omega);show vfe _ _ _ _ _ _ (rsS (numV (addO (some q) (some ((0:Int):Rat))) 0));refine vfe.run [] Go.Proofs.Tryz.func34 rfl rfl ?_;simp only [Go.Proofs.Tryz.f34];refine hgR ?_
    repeat' ((first | refine hfk ?_ ?_<;>intros | refine hik ?_)<;>refine hgS ?_)
    all_goals try (exfalso;omega)
    refine hg1 @hlk ?_
    repeat' ((first | refine hfk ?_ ?_<;>intros | refine hik ?_ | with_reducible first | refine v6l (ho) ?_ | refine vgi (ho) ?_ | refine v6l (ha) ?_ | refine vgi (ha) ?_ | refine v6l (x7x _ _) ?_ | refine vgi (x7x _ _) ?_)<;>refine hgS ?_)
    all_goals first
     | (exfalso;omega)
     | exact StH.zx4 rfl (by kernel_rfl) rfl
 rw [decide_eq_false h1,cond_false] at hcal
 have hne:x.args.length≠0:=fun h=>by
  unfold yxn at hnode;rw [decide_eq_false h0,decide_eq_false h1,h] at hnode;simp at hnode
 obtain ⟨hl2,hl3⟩:=x6z hnode hcalls.1 hne;by_cases h5:x.op=5
 . rw [decide_eq_true h5,cond_true] at hcal;rw [hcal];have hl3':=hl3 h5
   have hch:=wv3 (Γ:=Γ) V T x hl3' hl (fun i hi=>by
    have hm:=w4t (show i<x.args.length by omega)
    exact ih _ hm (hx.arg _ hm) (hargs _ hm) (hcalls.2 _ hm) (hnds _ hm))
   refine vfe.run [] Go.Proofs.Tryz.func34 rfl rfl ?_;simp only [Go.Proofs.Tryz.f34];refine hgR ?_
   repeat' ((first | refine hfk ?_ ?_<;>intros | refine hik ?_)<;>refine hgS ?_)
   all_goals try (exfalso;omega)
   rw [show cI 5=cI x.op by rw [h5]];refine xwg (vfe.pre hch (zcx V T) rfl rfl) ?_;refine hg ?_;exact StH.zx4 rfl (by kernel_rfl) rfl
 rw [decide_eq_false h5,cond_false] at hcal
 have hqz:∀ y∈x.args,qz (y.cal V T).1.v<=67108864:=fun y hy=>Nat.le_trans (zau hB hV y (hargs y hy) (hcalls.2 y hy)) (hnds y hy)
 rw [hcal];clear hcal hu hnd hV;generalize hS:seqV (x.args.map (Ex.cal V T))=S;refine vfe.run [] Go.Proofs.Tryz.func34 rfl rfl ?_;simp only [Go.Proofs.Tryz.f34];refine hgR ?_
 repeat' ((first | refine hfk ?_ ?_<;>intros | refine hik ?_)<;>refine hgS ?_)
 all_goals try (exfalso;omega)
 refine y55 [2,3,4,68,69] (fun p:Nat×List Rs=>[(10,.one (.sl 5 6 0 p.2.length)),(70,.one (.dat (cI p.1)))])
  (fun p=>[mQ V,mB T,.box [.mp 0,.mp 1] (some 79),.box ((exC x).map .dat) (some 24),.box ((rsZ false false).map .dat) (some 35),.arr (.sl 6 (p.2.map Rs.C)) 0 (some 35)])
  (fun p=>p.1<=x.args.length/\p.2.length=p.1/\(∀ r∈p.2,qz r.v<=67108864)/\S=match seqV ((x.args.drop p.1).map (Ex.cal V T)) with
    | .inl e=>.inl e
    | .inr r=>.inr (p.2++r)) (fun p=>x.args.length-p.1) (0,[]) ⟨Nat.zero_le _,rfl,fun r hr=>(by cases hr),by simp only [List.drop_zero,List.nil_append];rw [hS];cases S<;>rfl⟩ ?_ ?_
 . refine hg ?_;refine StH.trans (StH.empty (d:=10) (es:=6) (c:=.sl 6 []) (T:=some 35) rfl rfl (fun r hr=>by cases hr) rfl) ?_;refine hg ?_;exact StH.same svl rfl
 clear hS;rintro ⟨i,rs⟩ ⟨q1,q2,q3,q4⟩;simp only at q1 q2 q3 q4;refine hg ?_;refine vnx (fun hlt _=>?_) (fun hlt _=>?_)
 . have hlt':i<x.args.length:=by omega
   have hy:=w4t hlt';rw [xqz hlt',List.map_cons] at q4;have hqy:=hqz _ hy;refine hg ?_;refine xwg (vfe.pre (ih _ hy (hx.arg _ hy) (hargs _ hy) (hcalls.2 _ hy) (hnds _ hy)) (zcx V T) rfl rfl) ?_;generalize hr:Ex.cal V T (x.args.getD i default)=r at q4 hqy ⊢;obtain ⟨t,e⟩:=r;rw [seqV] at q4;simp only at q4 hqy;refine hg ?_;refine vnx (fun he hd=>?_) (fun he hd=>?_)
   . refine hg ?_
     have q4':S=.inl e:=by rw [q4,show decide (¬e=0)=true from hd];rfl
     rw [q4'];exact StH.yaz rfl (by kernel_rfl) rfl rfl
   . refine hg ?_;rw [show decide (¬e=0)=false from hd,cond_false] at q4
     have q4':S=match seqV ((x.args.drop (i+1)).map (Ex.cal V T)) with
      | .inl e=>.inl e
      | .inr r=>.inr ((rs++[t])++r):=by
      rw [q4]
      cases seqV ((x.args.drop (i+1)).map (Ex.cal V T)) with
      | inl e=>rfl
      | inr r=>simp only [List.append_assoc,List.singleton_append]
     have hmap:rs.map Rs.C++[rsC t]=(rs++[t]).map Rs.C:=by simp;rfl
     rw [hmap]
     refine ⟨(i+1,rs++[t]),⟨by dsimp only;omega,by dsimp only;rw [List.length_append,List.length_singleton,q2],fun r hr'=>by
      rcases List.mem_append.1 hr' with h | h
      . exact q3 r h
      . rw [List.mem_singleton.1 h];exact hqy,q4'⟩,by dsimp only;omega,?_⟩
     refine StH.xuw [2,3,4,10,68,69,70] 5 8 6 rfl rfl rfl rfl rfl rfl rfl (by kernel_rfl) ?_;refine hg ?_;exact StH.same svl rfl
 . have q4':S=.inr rs:=by rw [q4,List.drop_eq_nil_of_le (by omega)];show (match seqV [] with | .inl e=>Sum.inl e | .inr r=>Sum.inr (rs++r))=_;rw [seqV];simp only [List.append_nil]
   rw [q4'];clear q4 q4' ih
   have hlen:rs.length=x.args.length:=by omega
   have hr0:=q3 _ (w4t (show 0<rs.length by omega))
   have hlen0:0<rs.length:=by omega
   by_cases h2:x.op=2
   . have hk:=vp4 (Γ:=Γ) V T x.name (rs.getD 0 default) hT hr0;rw [show z03q T x.op x.name (.inr rs)=woh T x.name (rs.getD 0 default) by show opV T x.op x.name rs=_;unfold opV;rw [decide_eq_true h2];rfl];refine hg ?_
     repeat' ((first | refine hfk ?_ ?_<;>intros | refine hik ?_)<;>refine hgS ?_)
     all_goals try (exfalso;omega)
     refine zjb 2 (fun ξ=>vfe.pre hk (zcx V T) rfl rfl) rfl rfl ?_;generalize woh T x.name (rs.getD 0 default)=r;obtain ⟨⟨t,i,v⟩,e⟩:=r;refine hg ?_
     repeat' ((first | refine hfk ?_ ?_<;>intros | refine hik ?_)<;>refine hgS ?_)
     exact StH.zx4 rfl (by kernel_rfl) rfl
   by_cases h4:x.op=4\/x.op=14\/x.op=15
   . have hk:=wo0 (Γ:=Γ) x.op rs (by omega)
     rw [show z03q T x.op x.name (.inr rs)=logV x.op rs by
      show opV T x.op x.name rs=_;unfold opV
      rw [decide_eq_false h2,show (decide (x.op=4)||decide (x.op=14)||decide (x.op=15))=true by rcases h4 with h | h | h<;>simp [h]];rfl]
     generalize logV x.op rs=r at hk;obtain ⟨⟨t,i,v⟩,e⟩:=r;refine hg ?_
     rcases h4 with h4 | h4 | h4
     all_goals
      rw [h4] at hk
      repeat' ((first | refine hfk ?_ ?_<;>intros | refine hik ?_ | with_reducible first | refine v6l (hk) ?_ | refine vgi (hk) ?_)<;>refine hgS ?_)
      all_goals first
       | (exfalso;omega)
       | exact StH.zx4 rfl (by kernel_rfl) rfl
   . have hl:=hl2 h2 (fun h=>h4 (.inl h))
     have hlen1:1<rs.length:=by omega
     have hr1:=q3 _ (w4t hlen1);have hk:=yd6 (Γ:=Γ) x.op (rs.getD 0 default) (rs.getD 1 default) hr0 hr1
     rw [show z03q T x.op x.name (.inr rs)=ariV x.op (rs.getD 0 default) (rs.getD 1 default) by
      show opV T x.op x.name rs=_;unfold opV
      rw [decide_eq_false h2,show (decide (x.op=4)||decide (x.op=14)||decide (x.op=15))=false by simp only [Bool.or_eq_false_iff,decide_eq_false_iff_not];exact ⟨⟨fun h=>h4 (.inl h),fun h=>h4 (.inr (.inl h))⟩,fun h=>h4 (.inr (.inr h))⟩];rfl]
     generalize ariV x.op (rs.getD 0 default) (rs.getD 1 default)=r at hk;obtain ⟨⟨t,i,v⟩,e⟩:=r;refine hg ?_
     repeat' ((first | refine hfk ?_ ?_<;>intros | refine hik ?_ | with_reducible first | refine v6l (hk) ?_ | refine vgi (hk) ?_)<;>refine hgS ?_)
     all_goals first
      | (exfalso;omega)
      | exact StH.zx4 rfl (by kernel_rfl) rfl
end Go.Hp.T
