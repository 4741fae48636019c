/- The proof, part Y30: 1u, 1v, 1w, 1x, 1y, Pl. -/
import Derived.Test.YtocdljjhobaabaaGreatDoorY29
import Derived.Test.YtocdljjhobaabaaGreatDoorY26
import Derived.Shelf.Strings.OnBuilder
import Derived.Shelf.Strconv.Itoa3
namespace Go.Hp.T
open Go Go.RowKit Go.Slot Go.Hp Go.Slot.T
open Go.Proofs.Tryz (prog)
attribute [local irreducible] hide RH
set_option maxRecDepth 10000
set_option maxHeartbeats 8000000
variable {Γ:List (Nat×List Cell)}
def fewP (f:Fnc):Bool:=!(decide (8<(f.params.length:Int))||!decide (0<=f.body.rsz 60 22))
def y1e (F:List Fnc) (m:Int):Bool:=bif (decide (m<(F.length:Int))&&decide ((F.length:Int)<=100))||decide (102<(F.length:Int)) then false else
 F.all fewP
theorem wy3 {p:Fnc->Bool} {l:List Fnc} (h:∀ j,j<l.length->p (l.getD j default)=true):l.all p=true:=by
 rw [List.all_eq_true];intro x hx;obtain ⟨i,hi,rfl⟩:=List.getElem_of_mem hx
 have:=h i hi
 rwa [show l.getD i default=l[i] by simp [hi]] at this
theorem y09 {p:Fnc->Bool} {l:List Fnc} {j:Nat} (hj:j<l.length) (h:p (l.getD j default)=false):l.all p=false:=by
 cases e:l.all p with
 | false=>rfl
 | true=>rw [List.all_eq_true.1 e _ (xdq hj)] at h;cases h
theorem zi5 (F:List Fnc) (m:Int) (hF:F.length<=1073741824) (hS:∀ f∈F,f.Sm):CallsD Γ prog 16 [.one (.sl 7 (F.map Fnc.C)),.one (cI m)] (.one (cB (y1e F m))):=by
 unfold y1e
 cases hcnd:(decide (m<(F.length:Int))&&decide ((F.length:Int)<=100))||decide (102<(F.length:Int)) with
 | true=>
  refine CallsD.run [] Go.Proofs.Tryz.func16 rfl rfl rfl ?_;simp only [Go.Proofs.Tryz.f16];refine hgR ?_
  repeat' ((first | refine hfk ?_ ?_<;>intros | refine hik ?_)<;>refine hgS ?_)
  all_goals first
   | exact RLe.ofEq rfl
   | (exfalso;simp_all;done)
   | (exfalso;simp_all;omega)
 | false=>
  refine CallsD.run [] Go.Proofs.Tryz.func16 rfl rfl rfl ?_;simp only [Go.Proofs.Tryz.f16];refine hgR ?_
  repeat' ((first | refine hfk ?_ ?_<;>intros | refine hik ?_)<;>refine hgS ?_)
  all_goals first
   | exact RLe.ofEq rfl
   | (exfalso;simp_all;done)
   | (exfalso;simp_all;omega)
   | skip
  all_goals
   refine yxw [0] (fun n:Nat=>[(5,.one (.dat (cI n)))]) (fun _=>[]) (fun n=>n<=F.length/\∀ j,j<n->fewP (F.getD j default)=true) (fun n=>F.length-n) 0 ⟨Nat.zero_le _,fun j hj=>by omega⟩ ?_ ?_
   . refine hg ?_;exact StH.same svl rfl
   intro n hn;obtain ⟨hn,hj⟩:=hn;refine hg ?_;refine xw4 (fun hlt _=>?_) (fun hlt _=>?_)
   . have hlt':n<F.length:=by omega
     have hfs:=hS _ (xdq hlt');have hpl:=hfs.len;have a1:=rFew (Γ:=Γ) _ hfs.b 60 22 (by decide) (by decide) (by decide) (by decide)
     have hb:∀ u,fewP (F.getD n default)=u->(u=false->F.all fewP=false)/\(u=true->∀ j,j<n+1->fewP (F.getD j default)=true):=fun u hu=>⟨fun e=>y09 hlt' (hu.trans e),fun e j hj'=>by
      rcases Nat.lt_or_eq_of_le (Nat.le_of_lt_succ hj') with h3 | h3
      . exact hj j h3
      . rw [h3];exact hu.trans e⟩
     have hq:True->fewP (F.getD n default) = !(decide (8<((F.getD n default).params.length:Int))||!decide (0<=(F.getD n default).body.rsz 60 22)):=fun _=>rfl
     generalize decide (0<=(F.getD n default).body.rsz 60 22)=b at *;clear hj hS
     cases b with
     | true=>
      refine hg ?_
      repeat' ((first | refine hfk ?_ ?_<;>intros | refine hik ?_ | with_reducible first | refine v47 (a1) ?_ | refine vrf (a1) ?_)<;>refine hgS ?_)
      all_goals first
       | (rw [(hb false ((hq trivial).trans (by simp only [*];rfl))).1 rfl];exact RLe.ofEq rfl)
       | exact ⟨n+1,⟨by omega,(hb true ((hq trivial).trans (by simp only [*];rfl))).2 rfl⟩,by omega,StH.same svl rfl⟩
     | false=>
      refine hg ?_
      repeat' ((first | refine hfk ?_ ?_<;>intros | refine hik ?_ | with_reducible first | refine v47 (a1) ?_ | refine vrf (a1) ?_)<;>refine hgS ?_)
      all_goals
       rw [(hb false ((hq trivial).trans (by simp))).1 rfl];exact RLe.ofEq rfl
   . have e:n=F.length:=by omega
     subst e;rw [wy3 hj];refine hg ?_
     repeat' ((first | refine hfk ?_ ?_<;>intros | refine hik ?_)<;>refine hgS ?_)
     exact RLe.ofEq rfl
theorem z5v (f:Fnc) (hf:f.Sm) (hu:∀ p∈f.params,(whw p.unit).2=0):CallsD Γ prog 18 [.agg (fncC f)] (.tup [.one (.sl 7 ((f.params.map varP).map Vr.C)),.one (cB true)]):=by
 have hl:=hf.len;have hp:=hf.p;refine CallsD.run [] Go.Proofs.Tryz.func18 rfl rfl rfl ?_;simp only [Go.Proofs.Tryz.f18];refine hgR ?_
 repeat' ((first | refine hfk ?_ ?_<;>intros | refine hik ?_)<;>refine hgS ?_)
 refine yxw [1] (fun p:Nat×List Vr=>[(4,.one (.sl 1 7 0 p.2.length)),(5,.one (.dat (cI p.1)))]) (fun p=>[.box ((fncC f).map .dat) (some 38),.arr (.sl 7 (p.2.map Vr.C)) 0 (some 58)])
  (fun p=>p.1<=f.params.length/\p.2=(f.params.take p.1).map varP) (fun p=>f.params.length-p.1) (0,[]) ⟨Nat.zero_le _,by simp⟩ ?_ ?_
 . refine hg ?_;refine StH.trans (StH.empty (d:=4) (es:=7) (c:=.sl 7 []) (T:=some 58) rfl rfl (fun r hr=>by cases hr) rfl) ?_;refine hg ?_;exact StH.same svl rfl
 rintro ⟨i,l⟩ ⟨hi,hls⟩;dsimp only at hi hls
 have hll:l.length=i:=by rw [hls];simp;omega
 refine hg ?_;refine xw4 (fun hlt _=>?_) (fun hlt _=>?_)
 . have hlt':i<f.params.length:=by omega
   have a1:=z9l (Γ:=Γ) (f.params.getD i default).unit (hp _ (xdq hlt')).2;have hu1:=hu _ (xdq hlt')
   have hnx:True->l++[varP (f.params.getD i default)]=(f.params.take (i+1)).map varP:=fun _=>by rw [hls,zea hlt',List.map_append];rfl
   clear hls hp hu;refine hg ?_
   repeat' ((first | refine hfk ?_ ?_<;>intros | refine hik ?_ | with_reducible first | refine v47 (a1) ?_ | refine vrf (a1) ?_)<;>refine hgS ?_)
   refine ⟨(i+1,l++[varP (f.params.getD i default)]),⟨by dsimp only;omega,hnx trivial⟩,by dsimp only;omega,?_⟩;refine StH.back [1,4,5] 1 3 2 rfl rfl rfl rfl rfl (by kernel_rfl) ?_;simp only [List.map_append,List.map_cons,List.map_nil]
   conv=>simp (maxSteps:=2000000) (disch:=omega) only [go_sem,Nat.reduceAdd,Nat.reduceSub,Nat.reduceMul,Int.reduceToNat,Nat.reduceEqDiff,Nat.reduceBEq,Nat.reduceBneDiff,Nat.reduceLT,Int.reduceEq,Int.reduceLT,Int.reduceLE,Int.reduceNeg,Int.reduceAdd,Int.reduceSub,Int.reduceMul,List.length_append,List.length_singleton]
   exact StH.same svl rfl
 . have ei:i=f.params.length:=by omega
   subst ei;rw [List.take_length] at hls;subst hls;refine hg ?_
   repeat' ((first | refine hfk ?_ ?_<;>intros | refine hik ?_)<;>refine hgS ?_)
   exact RLe.ofEq rfl
abbrev wBx (b n:Nat):SB:=.box [.sl b 4 0 n] (some 171)
abbrev wAr (L:List Tk):SB:=.arr (.sl 4 (L.map Tk.C)) 0 (some 134)
theorem x6u (L:List Tk) (s:ByteArray) (hL:L.length<=1000000):xgj Γ prog 128 [wBx 1 L.length,wAr L] [.one (.ptr 0 0),.one (.dat (cS s))] [wBx 2 (L.length+1),.dead,wAr (L++[⟨3,s,0,0⟩])] (.tup []):=by
 refine xgj.run [] Go.Proofs.Tryz.func128 rfl rfl ?_;simp only [Go.Proofs.Tryz.f128];refine hgR ?_
 repeat' ((first | refine hfk ?_ ?_<;>intros | refine hik ?_)<;>refine hgS ?_)
 exact StH.same svl (by simp only [wAr,wBx,List.length_append,List.length_map,List.length_singleton,List.map_append,List.map_cons,List.map_nil];rfl)
theorem ych (L:List Tk) (s:ByteArray) (hL:L.length<=1000000):xgj Γ prog 126 [wBx 1 L.length,wAr L] [.one (.ptr 0 0),.one (.dat (cS s))] [wBx 2 (L.length+1),.dead,wAr (L++[⟨0,s,0,0⟩])] (.tup []):=by
 refine xgj.run [] Go.Proofs.Tryz.func126 rfl rfl ?_;simp only [Go.Proofs.Tryz.f126];refine hgR ?_
 repeat' ((first | refine hfk ?_ ?_<;>intros | refine hik ?_)<;>refine hgS ?_)
 exact StH.same svl (by simp only [wAr,wBx,List.length_append,List.length_map,List.length_singleton,List.map_append,List.map_cons,List.map_nil];rfl)
def WrE (Γ:List (Nat×List Cell)) (N:Nat) (x:Ex) (ts:List Tk):Prop:=∀ L:List Tk,L.length<=N->xgj Γ prog 102 [wBx 1 L.length,wAr L] [.one (.ptr 0 0),.agg ((exC x).map .dat)] [wBx 2 (L.length+ts.length),.dead,wAr (L++ts)] (.tup [])
def atT (a:Ex) (ta:List Tk):List Tk:=bif isOp a.op then ⟨3,⟨#[40]⟩,0,0⟩::(ta++[⟨3,⟨#[41]⟩,0,0⟩]) else ta
theorem w2n (N:Nat) (hN:N<=100000) (a:Ex) (ta:List Tk) (ht:ta.length<=1000) (h4:a.op≠4) (h5:a.op≠5) (hE:WrE Γ N a ta) (L:List Tk) (hL:L.length+10<=N):xgj Γ prog 130 [wBx 1 L.length,wAr L] [.one (.ptr 0 0),.agg ((exC a).map .dat)] [wBx 2 (L.length+(atT a ta).length),.dead,wAr (L++atT a ta)] (.tup []):=by
 have a1:=y4o (Γ:=Γ) a.op;have d4:decide (a.op=4)=false:=decide_eq_false h4;have d5:decide (a.op=5)=false:=decide_eq_false h5;unfold atT;generalize xeq a.op=ot at *
 cases ho:isOp a.op with
 | false=>
  have e1:=hE L (by omega);rw [ho] at a1;clear ho h4 h5 hE;refine xgj.run [] Go.Proofs.Tryz.func130 rfl rfl ?_;simp only [Go.Proofs.Tryz.f130];refine hgR ?_;refine v47 a1 ?_;refine hg2 @d4 @d5 ?_
  repeat' ((first | refine hfk ?_ ?_<;>intros | refine hik ?_)<;>refine hgS ?_)
  . refine xmn [0,1] e1 rfl (by decide) rfl rfl rfl ?_;refine hg ?_
    repeat' ((first | refine hfk ?_ ?_<;>intros | refine hik ?_)<;>refine hgS ?_)
    exact StH.back [0] 2 3 3 rfl rfl rfl rfl rfl (by kernel_rfl) (StH.same svl rfl)
  all_goals (exfalso;simp_all;done)
 | true=>
  have e1:=x6u (Γ:=Γ) L ⟨#[40]⟩ (by omega);have e2:=hE (L++[⟨3,⟨#[40]⟩,0,0⟩]) (by simp;omega);have e3:=x6u (Γ:=Γ) (L++[⟨3,⟨#[40]⟩,0,0⟩]++ta) ⟨#[41]⟩ (by simp;omega);simp only [List.length_append,List.length_singleton] at e2 e3;rw [ho] at a1;rw [cond_true,show (⟨3,⟨#[40]⟩,0,0⟩::(ta++[⟨3,⟨#[41]⟩,0,0⟩]):List Tk).length=1+ta.length+1 by simp;omega,show L++(⟨3,⟨#[40]⟩,0,0⟩::(ta++[⟨3,⟨#[41]⟩,0,0⟩]))=L++[⟨3,⟨#[40]⟩,0,0⟩]++ta++[⟨3,⟨#[41]⟩,0,0⟩] by simp];clear ho h4 h5 hE;refine xgj.run [] Go.Proofs.Tryz.func130 rfl rfl ?_;simp only [Go.Proofs.Tryz.f130];refine hgR ?_;refine v47 a1 ?_;refine hg ?_
  repeat' ((first | refine hfk ?_ ?_<;>intros | refine hik ?_)<;>refine hgS ?_)
  refine xmn [0,1] e1 rfl (by decide) rfl rfl rfl ?_;refine hg ?_
  repeat' ((first | refine hfk ?_ ?_<;>intros | refine hik ?_)<;>refine hgS ?_)
  refine xmn [0,3] e2 rfl (by decide) rfl rfl rfl ?_;refine hg ?_
  repeat' ((first | refine hfk ?_ ?_<;>intros | refine hik ?_)<;>refine hgS ?_)
  refine xmn [0,4] e3 rfl (by decide) rfl rfl rfl ?_;refine hg ?_
  repeat' ((first | refine hfk ?_ ?_<;>intros | refine hik ?_)<;>refine hgS ?_)
  refine StH.back [0] 2 5 3 rfl rfl rfl rfl rfl (by kernel_rfl) (StH.same svl ?_);rw [show L.length+(1+ta.length+1)=L.length+1+ta.length+1 by omega];rfl
end Go.Hp.T
namespace Go.Hp.T
open Go Go.RowKit Go.Slot Go.Hp Go.Slot.T
open Go.Proofs.Tryz (prog)
set_option maxRecDepth 10000
set_option maxHeartbeats 8000000
variable {Γ:List (Nat×List Cell)}
def w8t:Go.Shelf.Ren:=⟨fun | 156=>104 | 165=>133 | 166=>134 | 169=>132 | 240=>155 | 241=>156 | 276=>166 | 277=>167 | n=>n,fun | 31=>61 | 9=>9 | 3=>3 | 4=>4 | 0=>0 | 20=>20 | 72=>201 | 76=>207 | 70=>198 | 37=>199 | 75=>203 | 127=>222 | 164=>230 | 5=>5 | 80=>205 | n=>n,fun | n=>n⟩
theorem yg2:Go.Proofs.Lays.n156 prog w8t:={
 mixed:=by kernel_rfl
 f156:=Go.Proofs.Tryz.func104.trans (congrArg some (by kernel_rfl))
 f165:=Go.Proofs.Tryz.func133.trans (congrArg some (by kernel_rfl))
 f166:=Go.Proofs.Tryz.func134.trans (congrArg some (by kernel_rfl))
 f169:=Go.Proofs.Tryz.func132.trans (congrArg some (by kernel_rfl))
 f240:=Go.Proofs.Tryz.func155.trans (congrArg some (by kernel_rfl))
 f241:=Go.Proofs.Tryz.func156.trans (congrArg some (by kernel_rfl))
 f276:=Go.Proofs.Tryz.func166.trans (congrArg some (by kernel_rfl))
 f277:=Go.Proofs.Tryz.func167.trans (congrArg some (by kernel_rfl))
 t0:=Go.Proofs.Tryz.underlying0
 a0:=Go.Proofs.Tryz.isAgg0
 z0:=Go.Proofs.Tryz.sizeOf0
 v0:=Go.Proofs.Tryz.zeroValue0
 t3:=Go.Proofs.Tryz.underlying3
 a3:=Go.Proofs.Tryz.isAgg3
 z3:=Go.Proofs.Tryz.sizeOf3
 v3:=Go.Proofs.Tryz.zeroValue3
 t4:=Go.Proofs.Tryz.underlying4
 a4:=Go.Proofs.Tryz.isAgg4
 z4:=Go.Proofs.Tryz.sizeOf4
 v4:=Go.Proofs.Tryz.zeroValue4
 t9:=Go.Proofs.Tryz.underlying9
 a9:=Go.Proofs.Tryz.isAgg9
 z9:=Go.Proofs.Tryz.sizeOf9
 v9:=Go.Proofs.Tryz.zeroValue9
 t20:=Go.Proofs.Tryz.underlying20
 a20:=Go.Proofs.Tryz.isAgg20
 z20:=Go.Proofs.Tryz.sizeOf20
 v20:=Go.Proofs.Tryz.zeroValue20
 t31:=Go.Proofs.Tryz.underlying61
 a31:=Go.Proofs.Tryz.isAgg61
 z31:=Go.Proofs.Tryz.sizeOf61
 v31:=Go.Proofs.Tryz.zeroValue61
 t37:=Go.Proofs.Tryz.underlying199
 a37:=Go.Proofs.Tryz.isAgg199
 z37:=Go.Proofs.Tryz.sizeOf199
 v37:=Go.Proofs.Tryz.zeroValue199
 t70:=Go.Proofs.Tryz.underlying198
 a70:=Go.Proofs.Tryz.isAgg198
 z70:=Go.Proofs.Tryz.sizeOf198
 v70:=Go.Proofs.Tryz.zeroValue198
 t72:=Go.Proofs.Tryz.underlying201
 a72:=Go.Proofs.Tryz.isAgg201
 z72:=Go.Proofs.Tryz.sizeOf201
 v72:=Go.Proofs.Tryz.zeroValue201
 t75:=Go.Proofs.Tryz.underlying203
 a75:=Go.Proofs.Tryz.isAgg203
 z75:=Go.Proofs.Tryz.sizeOf203
 v75:=Go.Proofs.Tryz.zeroValue203
 t76:=Go.Proofs.Tryz.underlying207
 a76:=Go.Proofs.Tryz.isAgg207
 z76:=Go.Proofs.Tryz.sizeOf207
 v76:=Go.Proofs.Tryz.zeroValue207
 t127:=Go.Proofs.Tryz.underlying222
 a127:=Go.Proofs.Tryz.isAgg222
 z127:=Go.Proofs.Tryz.sizeOf222
 v127:=Go.Proofs.Tryz.zeroValue222
 t164:=Go.Proofs.Tryz.underlying230
 a164:=Go.Proofs.Tryz.isAgg230
 z164:=Go.Proofs.Tryz.sizeOf230
 v164:=Go.Proofs.Tryz.zeroValue230 }
theorem yfv:Go.Proofs.Builder.Extra prog w8t:={
 sizeBuilder:=by kernel_rfl
 liesBuilder:=by kernel_rfl
 t5:=Go.Proofs.Tryz.underlying5
 a5:=Go.Proofs.Tryz.isAgg5
 z5:=Go.Proofs.Tryz.sizeOf5
 v5:=Go.Proofs.Tryz.zeroValue5
 infoByte:=by kernel_rfl
 cellsByte:=by kernel_rfl
 sizeByte:=by kernel_rfl
 neB5:=by decide }
def yuh (l:List ByteArray) (sep:ByteArray):ByteArray:=⟨(Lib.join (l.map (·.data.toList)) sep.data.toList).toArray⟩
theorem zuy (l:List ByteArray) (sep:ByteArray) (hl:l.length<=140737488355328) (hlen:(Lib.join (l.map (·.data.toList)) sep.data.toList).length<=140737488355328) :
 CallsD Γ prog 104 [.one (.sl 1 (l.map fun s=>[cS s])),.one (cS sep)] (.one (cS (yuh l sep))):=by
 refine ⟨⟨_,Go.Proofs.Tryz.func104,rfl,rfl⟩,fun M w vs hb hgl hr=>?_⟩
 match vs,hr with
 | [v1,v2],hr=>
  obtain ⟨h1,h2,_⟩:=hr;have h1:RdC M w v1 (.sl 1 (l.map fun s=>[cS s])):=h1;have e2:v2=.string sep:=RdC.xcn h2;subst e2;generalize hrows:(l.map fun s=>[cS s])=rows at h1
  cases h1 with
  | @sl a len cap n rows b off u hle hc ha hn hm hr=>
   subst hrows
   have hlen':len=l.length:=by rw [hle,List.length_map]
   subst hlen';by_cases hz:l=[]
   . subst hz;refine (Go.Proofs.Any.strings_Join_none yg2 yfv a cap sep w).mono (fun e w' h=>?_);obtain ⟨h1,h2⟩:=h;subst h1 h2;exact ⟨_,rfl,znd _,RdC.raw rfl,fun h=>by cases h⟩
   . have ha':=ha (by simpa using hz);subst ha'
     have hcell:∀(j:Nat) (x:ByteArray),l[j]? = some x->w.cell? ⟨b,off+j,none⟩=some (.string x):=fun j x hx=>by
      have hj:j<l.length:=(List.getElem?_eq_some_iff.1 hx).1;have h1:=(hm j (by simpa using hj) 0 (by decide)).2;have h2:=hr j (by simpa using hj) 0 (by simp);have hx':l[j]=x:=(List.getElem?_eq_some_iff.1 hx).2;simp only [List.getElem_map,List.getElem_cons_zero,hx'] at h2;rw [RdC.xcn h2] at h1;simpa using h1
     have hbk:b<w.heap.size:=by
      obtain ⟨x,hx⟩:∃ x,l[0]? = some x:=by
       cases l with
       | nil=>exact absurd rfl hz
       | cons x l=>exact ⟨x,rfl⟩
      have h1:=hcell 0 x hx
      rcases Nat.lt_or_ge b w.heap.size with h | h
      . exact h
      . exfalso;unfold World.cell? at h1;simp [Array.getElem?_eq_none h] at h1
     refine (Go.Proofs.Any.strings_Join yg2 yfv b off cap l sep w hcell hbk hl hc hlen).mono (fun e w' h=>?_);obtain ⟨h1,h2⟩:=h;subst h1;exact ⟨_,rfl,h2,RdC.raw rfl,fun h=>by cases h⟩
end Go.Hp.T
namespace Go.Hp.T
open Go Go.RowKit Go.Slot Go.Hp Go.Slot.T
open Go.Proofs.Tryz (prog)
attribute [local irreducible] hide RH
set_option maxRecDepth 10000
set_option maxHeartbeats 8000000
variable {Γ:List (Nat×List Cell)}
theorem vdp:CallsD Γ prog 125 [.one (cI 2)] (.one (cS ⟨#[50]⟩)):=by
 have h1:CallsD Γ prog 171 [.one (cI 2)] (.one (cS ⟨#[50]⟩)):=by
  refine CallsD.run [] Go.Proofs.Tryz.func171 rfl rfl rfl ?_;simp only [Go.Proofs.Tryz.f171];refine hgR ?_
  repeat' ((first | refine hfk ?_ ?_<;>intros | refine hik ?_)<;>refine hgS ?_)
  all_goals exact RLe.ofEq rfl
 have h2:CallsD Γ prog 165 [.one (cI 2),.one (cI 10)] (.one (cS ⟨#[50]⟩)):=by
  refine CallsD.run [] Go.Proofs.Tryz.func165 rfl rfl rfl ?_;simp only [Go.Proofs.Tryz.f165];refine hgR ?_
  repeat' ((first | refine hfk ?_ ?_<;>intros | refine hik ?_ | with_reducible first | refine v47 (h1) ?_ | refine vrf (h1) ?_)<;>refine hgS ?_)
  all_goals exact RLe.ofEq rfl
 have h3:CallsD Γ prog 154 [.one (cI 2)] (.one (cS ⟨#[50]⟩)):=by
  refine CallsD.run [] Go.Proofs.Tryz.func154 rfl rfl rfl ?_;simp only [Go.Proofs.Tryz.f154];refine hgR ?_
  repeat' ((first | refine hfk ?_ ?_<;>intros | refine hik ?_ | with_reducible first | refine v47 (h2) ?_ | refine vrf (h2) ?_)<;>refine hgS ?_)
  all_goals exact RLe.ofEq rfl
 refine CallsD.run [] Go.Proofs.Tryz.func125 rfl rfl rfl ?_;simp only [Go.Proofs.Tryz.f125];refine hgR ?_
 repeat' ((first | refine hfk ?_ ?_<;>intros | refine hik ?_ | with_reducible first | refine v47 (h3) ?_ | refine vrf (h3) ?_)<;>refine hgS ?_)
 all_goals exact RLe.ofEq rfl
theorem w8a:CallsD Γ prog 125 [.one (cI 3)] (.one (cS ⟨#[51]⟩)):=by
 have h1:CallsD Γ prog 171 [.one (cI 3)] (.one (cS ⟨#[51]⟩)):=by
  refine CallsD.run [] Go.Proofs.Tryz.func171 rfl rfl rfl ?_;simp only [Go.Proofs.Tryz.f171];refine hgR ?_
  repeat' ((first | refine hfk ?_ ?_<;>intros | refine hik ?_)<;>refine hgS ?_)
  all_goals exact RLe.ofEq rfl
 have h2:CallsD Γ prog 165 [.one (cI 3),.one (cI 10)] (.one (cS ⟨#[51]⟩)):=by
  refine CallsD.run [] Go.Proofs.Tryz.func165 rfl rfl rfl ?_;simp only [Go.Proofs.Tryz.f165];refine hgR ?_
  repeat' ((first | refine hfk ?_ ?_<;>intros | refine hik ?_ | with_reducible first | refine v47 (h1) ?_ | refine vrf (h1) ?_)<;>refine hgS ?_)
  all_goals exact RLe.ofEq rfl
 have h3:CallsD Γ prog 154 [.one (cI 3)] (.one (cS ⟨#[51]⟩)):=by
  refine CallsD.run [] Go.Proofs.Tryz.func154 rfl rfl rfl ?_;simp only [Go.Proofs.Tryz.f154];refine hgR ?_
  repeat' ((first | refine hfk ?_ ?_<;>intros | refine hik ?_ | with_reducible first | refine v47 (h2) ?_ | refine vrf (h2) ?_)<;>refine hgS ?_)
  all_goals exact RLe.ofEq rfl
 refine CallsD.run [] Go.Proofs.Tryz.func125 rfl rfl rfl ?_;simp only [Go.Proofs.Tryz.f125];refine hgR ?_
 repeat' ((first | refine hfk ?_ ?_<;>intros | refine hik ?_ | with_reducible first | refine v47 (h3) ?_ | refine vrf (h3) ?_)<;>refine hgS ?_)
 all_goals exact RLe.ofEq rfl
abbrev exM (o n:Int) (u s:ByteArray) (l:List Ex):List HC:=[.dat (cI o),.dat (cI n),.dat (cS u),.dat (cS s),.dat (.sl 5 (l.map Ex.cells))]
theorem WrE.of {N:Nat} {o n:Int} {u s:ByteArray} {l:List Ex} {ts:List Tk} (h:∀ L:List Tk,L.length<=N->xgj Γ prog 102 [wBx 1 L.length,wAr L] [.one (.ptr 0 0),.agg (exM o n u s l)] [wBx 2 (L.length+ts.length),.dead,wAr (L++ts)] (.tup [])):WrE Γ N (.mk o n u s l) ts:=h
theorem vn5 (L:List Tk) (t:Tk):wAr (L++[t])=.arr (.sl 4 (L.map Tk.C++[t.C])) 0 (some 134):=by
 simp only [wAr,List.map_append,List.map_cons,List.map_nil]
theorem wce (N:Nat) (hN:N<=100000) (n:Int) (d:ByteArray) (h:CallsD Γ prog 125 [.one (cI n)] (.one (cS d))):WrE Γ N (.mk 0 n ⟨#[]⟩ ⟨#[]⟩ []) [⟨1,d,n,0⟩]:=by
 refine WrE.of (fun L hL=>?_);rw [vn5];refine xgj.run [] Go.Proofs.Tryz.func102 rfl rfl ?_;simp only [Go.Proofs.Tryz.f102];refine hgR ?_
 repeat' ((first | refine hfk ?_ ?_<;>intros | refine hik ?_ | with_reducible first | refine v47 (h) ?_ | refine vrf (h) ?_)<;>refine hgS ?_)
 refine StH.back [0] 2 3 3 rfl rfl rfl rfl rfl (by kernel_rfl) ?_
 conv=>simp (maxSteps:=2000000) (disch:=omega) only [go_sem,Nat.reduceAdd,Nat.reduceSub,Nat.reduceMul,Int.reduceToNat,Nat.reduceEqDiff,Nat.reduceBEq,Nat.reduceBneDiff,Nat.reduceLT,Int.reduceEq,Int.reduceLT,Int.reduceLE,Int.reduceNeg,Int.reduceAdd,Int.reduceSub,Int.reduceMul,List.length_append,List.length_singleton]
 exact StH.same svl rfl
theorem wf7 (N:Nat) (hN:N<=100000) (n:Int) (d u:ByteArray) (hu:seq u ⟨#[]⟩=false) (h:CallsD Γ prog 125 [.one (cI n)] (.one (cS d))):WrE Γ N (.mk 0 n u ⟨#[]⟩ []) [⟨1,d,n,0⟩,⟨2,u,0,0⟩]:=by
 refine WrE.of (fun L hL=>?_);refine xgj.run [] Go.Proofs.Tryz.func102 rfl rfl ?_;simp only [Go.Proofs.Tryz.f102];refine hgR ?_;refine hg1 @hu ?_
 repeat' ((first | refine hfk ?_ ?_<;>intros | refine hik ?_ | with_reducible first | refine v47 (h) ?_ | refine vrf (h) ?_)<;>refine hgS ?_)
 conv=>simp (maxSteps:=2000000) (disch:=omega) only [go_sem,Nat.reduceAdd,Nat.reduceSub,Nat.reduceMul,Int.reduceToNat,Nat.reduceEqDiff,Nat.reduceBEq,Nat.reduceBneDiff,Nat.reduceLT,Int.reduceEq,Int.reduceLT,Int.reduceLE,Int.reduceNeg,Int.reduceAdd,Int.reduceSub,Int.reduceMul,hu,List.length_append,List.length_map,List.length_singleton]
 repeat' ((first | refine hfk ?_ ?_<;>intros | refine hik ?_)<;>refine hgS ?_)
 refine StH.back [0] 2 4 3 rfl rfl rfl rfl rfl (by kernel_rfl) ?_;rw [show L++[(⟨1,d,n,0⟩:Tk),⟨2,u,0,0⟩]=L++[⟨1,d,n,0⟩]++[⟨2,u,0,0⟩] by simp,vn5,List.map_append]
 conv=>simp (maxSteps:=2000000) (disch:=omega) only [go_sem,Nat.reduceAdd,Nat.reduceSub,Nat.reduceMul,Int.reduceToNat,Nat.reduceEqDiff,Nat.reduceBEq,Nat.reduceBneDiff,Nat.reduceLT,Int.reduceEq,Int.reduceLT,Int.reduceLE,Int.reduceNeg,Int.reduceAdd,Int.reduceSub,Int.reduceMul,List.length_append,List.length_map,List.length_singleton]
 exact StH.same svl rfl
theorem vfd (N:Nat) (hN:N<=100000) (s:ByteArray):WrE Γ N (.mk 1 0 ⟨#[]⟩ s []) [⟨0,s,0,0⟩]:=by
 refine WrE.of (fun L hL=>?_);have e1:=ych (Γ:=Γ) L s (by omega);refine xgj.run [] Go.Proofs.Tryz.func102 rfl rfl ?_;simp only [Go.Proofs.Tryz.f102];refine hgR ?_
 repeat' ((first | refine hfk ?_ ?_<;>intros | refine hik ?_)<;>refine hgS ?_)
 refine xmn [0,1] e1 rfl (by decide) rfl rfl rfl ?_;refine hg ?_
 repeat' ((first | refine hfk ?_ ?_<;>intros | refine hik ?_)<;>refine hgS ?_)
 exact StH.back [0] 2 3 3 rfl rfl rfl rfl rfl (by kernel_rfl) (StH.same svl rfl)
theorem cWOp (N:Nat) (hN:N<=90000) (o:Int) (ho:o=6\/o=8) (a b:Ex) (ta tb:List Tk) (ha:ta.length<=1000) (hb:tb.length<=1000) (a4:a.op≠4) (a5:a.op≠5) (b4:b.op≠4) (b5:b.op≠5) (hA:WrE Γ (N+3000) a ta) (hB:WrE Γ (N+3000) b tb) :
 WrE Γ N (.mk o 0 ⟨#[]⟩ ⟨#[]⟩ [a,b]) (atT a ta++[(⟨3,xeq o,0,0⟩:Tk)]++atT b tb):=by
 refine WrE.of ?_;show ∀ L:List Tk,L.length<=N->xgj Γ prog 102 [wBx 1 L.length,wAr L] [.one (.ptr 0 0),.agg (exM o 0 ⟨#[]⟩ ⟨#[]⟩ [a,b])] [wBx 2 (L.length+(atT a ta++[(⟨3,xeq o,0,0⟩:Tk)]++atT b tb).length),.dead,wAr (L++(atT a ta++[(⟨3,xeq o,0,0⟩:Tk)]++atT b tb))] (.tup []);intro L hL
 have la:∀(x:Ex) (t:List Tk),t.length<=1000->(atT x t).length<=1002:=fun x t ht=>by
  unfold atT
  cases isOp x.op<;>simp<;>omega
 have l1:=la a ta ha;have e1:=w2n (Γ:=Γ) (N+3000) (by omega) a ta ha a4 a5 hA L (by omega);have e2:=x6u (Γ:=Γ) (L++atT a ta) (xeq o) (by simp;omega);have e3:=w2n (Γ:=Γ) (N+3000) (by omega) b tb hb b4 b5 hB (L++atT a ta++[⟨3,xeq o,0,0⟩]) (by simp;omega);have e4:=y4o (Γ:=Γ) o;simp only [List.length_append,List.length_singleton] at e2 e3;rw [show (atT a ta++[(⟨3,xeq o,0,0⟩:Tk)]++atT b tb).length=(atT a ta).length+1+(atT b tb).length by simp;omega,show L++(atT a ta++[(⟨3,xeq o,0,0⟩:Tk)]++atT b tb)=L++atT a ta++[⟨3,xeq o,0,0⟩]++atT b tb by simp]
 have hop:isOp o=true:=by rcases ho with e | e<;>subst e<;>rfl
 rw [hop] at e4;generalize atT a ta=A at *;generalize atT b tb=B at *;clear la hA hB a4 a5 b4 b5 hop
 rcases ho with e | e
 all_goals
  subst e;refine xgj.run [] Go.Proofs.Tryz.func102 rfl rfl ?_;simp only [Go.Proofs.Tryz.f102];refine hgR ?_
  repeat' ((first | refine hfk ?_ ?_<;>intros | refine hik ?_)<;>refine hgS ?_)
  refine xmn [0,1] e1 rfl (by decide) rfl rfl rfl ?_;refine hg ?_
  repeat' ((first | refine hfk ?_ ?_<;>intros | refine hik ?_ | with_reducible first | refine v47 (e4) ?_ | refine vrf (e4) ?_)<;>refine hgS ?_)
  refine xmn [0,3] e2 rfl (by decide) rfl rfl rfl ?_;refine hg ?_
  repeat' ((first | refine hfk ?_ ?_<;>intros | refine hik ?_)<;>refine hgS ?_)
  refine xmn [0,4] e3 rfl (by decide) rfl rfl rfl ?_;refine hg ?_
  repeat' ((first | refine hfk ?_ ?_<;>intros | refine hik ?_)<;>refine hgS ?_)
  refine StH.back [0] 2 5 3 rfl rfl rfl rfl rfl (by kernel_rfl) (StH.same svl ?_);rw [show L.length+(A.length+1+B.length)=L.length+A.length+1+B.length by omega];rfl
end Go.Hp.T
namespace Go.Hp
open Go Go.RowKit Go.Slot
variable {P:Program} {Γ:List (Nat×List Cell)}
theorem xgj.went {f:FuncId} {η η1 η':List SB} {args:List SV} {res:SV} (hw:∀ Mo ρ w,HInv Γ Mo ρ η w->∃ ρ1,Went Γ Mo ρ η w ρ1 η1 w) (h:xgj Γ P f η1 args η' res):xgj Γ P f η args η' res:=⟨h.1,fun Mo ρ w vs hI hr=>by
 obtain ⟨ρ1,hw1⟩:=hw Mo ρ w hI
 exact (h.2 Mo ρ1 w vs hw1.inv (SRL.mv hw1.mv hr)).mono (fun e w' ⟨v,ρ',h1,h2,h3⟩=>⟨v,ρ',h1,hw1.trans h2,h3⟩)⟩
theorem xgj.zcB {f:FuncId} {η':List SB} {args:List SV} {res:SV} {T':Option TypeId} {c:Cell} {es:Nat} {T:Option TypeId} (hu:c.uni) (hc:c.cnt=0)
 (h:xgj Γ P f [.box [.sl 1 es 0 0] T',.arr c 0 T] args η' res):xgj Γ P f [.box [.dat .zc] T'] args η' res:=by
 refine xgj.went (fun Mo ρ w hI=>?_) h;have h1:=Went.extend hI 1;have hfr:([SB.box [.dat .zc] T']++List.replicate 1 SB.fresh)[1]? = some .fresh:=rfl;have hw:=Went.new h1.inv (znd w) hfr (v:=.pointer none) (x:=.arr c 0 T) (by simp) (fun _ hr=>absurd rfl hr) (fun m=>⟨⟨hu,Nat.zero_le _⟩,.inl ⟨hc,rfl⟩⟩);have h2:=h1.trans hw;have hb2:(([SB.box [.dat .zc] T']++List.replicate 1 SB.fresh).set 1 (.arr c 0 T))[0]? = some (.box [.dat .zc] T'):=rfl;have hblk:=h2.inv.blk 0 _ hb2;refine ⟨upd ρ 1 (.pointer none),h2.trans (Went.less (x':=.box [.sl 1 es 0 0] T') h2.inv hb2 (by simp) (fun _=>rfl) (fun o h=>h) (fun m=>?_))⟩;obtain ⟨bb,vs,T0,e,hh,hr,ht⟩:=hblk.mv m (fun _ _=>rfl);refine ⟨bb,vs,T0,e,hh,?_,ht⟩
 have:=HRL.setF (h:=.dat .zc) (h':=.sl 1 es 0 0) (fun v hv=>by
  obtain ⟨ad,hv'⟩:=vwb (τ:=fun _=>⟨Go.undef,0⟩) (c:=.zc) rfl (RdT.of (show RdC _ w v .zc from hv))
  exact ⟨zux (by simp) ⟨.arr c 0 T,by simp,by simp⟩,ad,0,hv',Nat.le_refl _,fun h=>absurd rfl h⟩) 0 hr rfl
 exact this
end Go.Hp
namespace Go.Hp.T
open Go Go.RowKit Go.Slot Go.Hp Go.Slot.T
open Go.Proofs.Tryz (prog)
attribute [local irreducible] hide RH
set_option maxRecDepth 10000
set_option maxHeartbeats 8000000
variable {Γ:List (Nat×List Cell)}
theorem yfm {N:Nat} (x:Ex) (ts:List Tk) (hx:x.Sm) (hr:z7n x=true) (hE:WrE Γ N x ts):CallsD Γ prog 68 [.agg (exC x)] (.tup [.one (.sl 4 (ts.map Tk.C)),.one (cB true)]):=by
 have a1:=x22 (Γ:=Γ) x hx;rw [hr] at a1;have e1:=xgj.zcB (c:=.sl 4 []) (T:=some 134) (fun r hr=>by cases hr) rfl (hE [] (Nat.zero_le _));clear hr hE hx;refine CallsD.run [] Go.Proofs.Tryz.func68 rfl rfl rfl ?_;simp only [Go.Proofs.Tryz.f68];refine hgR ?_
 repeat' ((first | refine hfk ?_ ?_<;>intros | refine hik ?_ | with_reducible first | refine v47 (a1) ?_ | refine vrf (a1) ?_)<;>refine hgS ?_)
 refine xmn [1] e1 rfl (by decide) rfl rfl rfl ?_;refine hg ?_
 repeat' ((first | refine hfk ?_ ?_<;>intros | refine hik ?_)<;>refine hgS ?_)
 exact RLe.ofEq rfl
def prT (t:Tk):ByteArray:=bif decide (t.k=2) then escS t.t else t.t
theorem yoy (ts:List Tk) (hl:ts.length<=1073741824) (hs:∀ t∈ts,t.t.size<=1073741824) (hlen:(Lib.join ((ts.map prT).map (·.data.toList)) [32]).length<=140737488355328) :
 CallsD Γ prog 69 [.one (.sl 4 (ts.map Tk.C))] (.one (cS (yuh (ts.map prT) ⟨#[32]⟩))):=by
 have hj:=zuy (Γ:=Γ) (ts.map prT) ⟨#[32]⟩ (by rw [List.length_map];omega) hlen;clear hlen;refine CallsD.run [] Go.Proofs.Tryz.func69 rfl rfl rfl ?_;simp only [Go.Proofs.Tryz.f69];refine hgR ?_;refine yxw [6,7] (fun p:Nat×List ByteArray=>[(3,.one (.sl 0 1 0 p.2.length)),(8,.one (.dat (cI p.1)))]) (fun p=>[.arr (.sl 1 (p.2.map fun s=>[cS s])) 0 (some 9)])
  (fun p=>p.1<=ts.length/\p.2=(ts.take p.1).map prT) (fun p=>ts.length-p.1) (0,[]) ⟨Nat.zero_le _,by simp⟩ ?_ ?_
 . refine hg ?_;refine StH.trans (StH.empty (d:=3) (es:=1) (c:=.sl 1 []) (T:=some 9) rfl rfl (fun r hr=>by cases hr) rfl) ?_;refine hg ?_;exact StH.same svl rfl
 rintro ⟨i,l⟩ ⟨hi,hls⟩;dsimp only at hi hls
 have hll:l.length=i:=by rw [hls];simp;omega
 refine hg ?_;refine xw4 (fun hlt _=>?_) (fun hlt _=>?_)
 . have hlt':i<ts.length:=by omega
   have hsz:=hs _ (xdq hlt');have a1:=ync (Γ:=Γ) (ts.getD i default).t hsz
   have hnx:∀ u,u=prT (ts.getD i default)->l++[u]=(ts.take (i+1)).map prT:=fun u hu=>by rw [hu,hls,zea hlt',List.map_append];rfl
   have fin:∀ u,u=prT (ts.getD i default)->∃ y:Nat×List ByteArray,y=(i+1,l++[u])/\(y.1<=ts.length/\y.2=(ts.take y.1).map prT)/\ts.length-y.1<ts.length-i:=fun u hu=>⟨_,rfl,⟨by dsimp only;omega,hnx u hu⟩,by dsimp only;omega⟩
   clear hls hj hs hnx;by_cases hk:(ts.getD i default).k=2
   . have d1:decide ((ts.getD i default).k=2)=true:=decide_eq_true hk;obtain ⟨y,hy,h1,h2⟩:=fin (escS (ts.getD i default).t) (by unfold prT;rw [d1];rfl);clear fin hk;refine hg1 @d1 ?_
     repeat' ((first | refine hfk ?_ ?_<;>intros | refine hik ?_ | with_reducible first | refine v47 (a1) ?_ | refine vrf (a1) ?_)<;>refine hgS ?_)
     refine ⟨y,h1,h2,?_⟩;subst hy;refine StH.back [3,6,7,8] 0 2 1 rfl rfl rfl rfl rfl (by kernel_rfl) ?_;simp only [List.map_append,List.map_cons,List.map_nil]
     conv=>simp (maxSteps:=2000000) (disch:=omega) only [go_sem,Nat.reduceAdd,Nat.reduceSub,Nat.reduceMul,Int.reduceToNat,Nat.reduceEqDiff,Nat.reduceBEq,Nat.reduceBneDiff,Nat.reduceLT,Int.reduceEq,Int.reduceLT,Int.reduceLE,Int.reduceNeg,Int.reduceAdd,Int.reduceSub,Int.reduceMul,List.length_append,List.length_singleton]
     exact StH.same svl rfl
   . have d1:decide ((ts.getD i default).k=2)=false:=decide_eq_false hk;obtain ⟨y,hy,h1,h2⟩:=fin (ts.getD i default).t (by unfold prT;rw [d1];rfl);clear fin hk a1;refine hg1 @d1 ?_
     repeat' ((first | refine hfk ?_ ?_<;>intros | refine hik ?_)<;>refine hgS ?_)
     refine ⟨y,h1,h2,?_⟩;subst hy;refine StH.back [3,6,7,8] 0 2 1 rfl rfl rfl rfl rfl (by kernel_rfl) ?_;simp only [List.map_append,List.map_cons,List.map_nil]
     conv=>simp (maxSteps:=2000000) (disch:=omega) only [go_sem,Nat.reduceAdd,Nat.reduceSub,Nat.reduceMul,Int.reduceToNat,Nat.reduceEqDiff,Nat.reduceBEq,Nat.reduceBneDiff,Nat.reduceLT,Int.reduceEq,Int.reduceLT,Int.reduceLE,Int.reduceNeg,Int.reduceAdd,Int.reduceSub,Int.reduceMul,List.length_append,List.length_singleton]
     exact StH.same svl rfl
 . have ei:i=ts.length:=by omega
   subst ei;rw [List.take_length] at hls;rw [<-hls] at hj ⊢;clear hls;refine hg ?_
   repeat' ((first | refine hfk ?_ ?_<;>intros | refine hik ?_ | with_reducible first | refine v47 (hj) ?_ | refine vrf (hj) ?_)<;>refine hgS ?_)
   exact RLe.ofEq rfl
theorem yag {N:Nat} (x:Ex) (ts:List Tk) (s:ByteArray) (hx:x.Sm) (hr:z7n x=true) (hE:WrE Γ N x ts) (hl:ts.length<=1073741824) (hs:∀ t∈ts,t.t.size<=1073741824) (hlen:(Lib.join ((ts.map prT).map (·.data.toList)) [32]).length<=140737488355328)
 (hj:yuh (ts.map prT) ⟨#[32]⟩=s) (hsz:s.size<=4000):CallsD Γ prog 39 [.agg (exC x)] (.tup [.one (cS s),.one (cB true)]):=by
 have a1:=yfm (Γ:=Γ) x ts hx hr hE;have a2:=yoy (Γ:=Γ) ts hl hs hlen;rw [hj] at a2;clear hj hE hlen;refine CallsD.run [] Go.Proofs.Tryz.func39 rfl rfl rfl ?_;simp only [Go.Proofs.Tryz.f39];refine hgR ?_
 repeat' ((first | refine hfk ?_ ?_<;>intros | refine hik ?_ | with_reducible first | refine v47 (a1) ?_ | refine vrf (a1) ?_ | refine v47 (a2) ?_ | refine vrf (a2) ?_)<;>refine hgS ?_)
 all_goals first
  | exact RLe.ofEq rfl
  | (exfalso;omega)
end Go.Hp.T
namespace Go.Hp.T
open Go Go.RowKit Go.Slot Go.Hp Go.Slot.T
open Go.Proofs.Tryz (prog)
set_option maxRecDepth 10000
set_option maxHeartbeats 8000000
variable {Γ:List (Nat×List Cell)}
structure Mo (L:List Tk) (rec:Nat->Bool->Rd):Prop where
 mono:∀ i c,i<=(rec i c).2.1
 le:∀ i c,i<=L.length->(rec i c).2.1<=L.length
theorem xoo {L:List Tk} {rec:Nat->Bool->Rd} (H:Mo L rec) (a:Nat) (b:Bool):a<=(sm1 L rec a b).2.1/\(a<=L.length->(sm1 L rec a b).2.1<=L.length):=by
 unfold sm1
 cases b with
 | true=>exact ⟨Nat.le_refl _,fun h=>h⟩
 | false=>exact ⟨Nat.le_trans (H.mono a false) y55,fun h=>wyd (H.le a false h)⟩
theorem zlz {L:List Tk} {rec:Nat->Bool->Rd} (H:Mo L rec) (a:Nat) (b:Bool):a<=(sm2 L rec a b).2.1/\(a<=L.length->(sm2 L rec a b).2.1<=L.length):=by
 unfold sm2
 cases b with
 | true=>exact ⟨Nat.le_refl _,fun h=>h⟩
 | false=>
  rw [cond_false]
  cases (rec a false).2.2 with
  | true=>exact ⟨H.mono a false,fun h=>H.le a false h⟩
  | false=>exact ⟨Nat.le_trans (H.mono a false) (Nat.le_trans y55 (Nat.le_trans (H.mono _ _) y55)),fun h=>wyd (H.le _ _ (wyd (H.le a false h)))⟩
theorem zsm {L:List Tk} {rec:Nat->Bool->Rd} (H:Mo L rec):∀(n:Nat) (out:List Ex) (a:Nat) (b:Bool),a<=(anL L rec n out a b).2.1/\(a<=L.length->(anL L rec n out a b).2.1<=L.length)
 | 0,out,a,b=>⟨y55,fun h=>wyd h⟩
 | n+1,out,a,b=>by
  rw [anL]
  cases hi:isF L a b 3 tCm with
  | true=>
   have h1:=(vgd hi).1;have h2:=zsm H n (out++[(rec (a+1) false).1]) (rec (a+1) false).2.1 (rec (a+1) false).2.2;have h3:=H.mono (a+1) false;exact ⟨by rw [cond_true];omega,fun _=>h2.2 (H.le _ _ h1)⟩
  | false=>exact ⟨y55,fun h=>wyd h⟩
theorem x2e {L:List Tk} {rec:Nat->Bool->Rd} (H:Mo L rec) (a:Nat):a<=(anF L rec a).2.1/\(a<=L.length->(anF L rec a).2.1<=L.length):=by
 have h:=zsm H L.length [(rec a false).1] (rec a false).2.1 (rec a false).2.2;exact ⟨Nat.le_trans (H.mono a false) h.1,fun h1=>h.2 (H.le _ _ h1)⟩
theorem ws4 {L:List Tk} {rec:Nat->Bool->Rd} (H:Mo L rec) (a:Nat) (b:Bool):a<=(ydv L rec a b).2.1/\(a<=L.length->(ydv L rec a b).2.1<=L.length):=by
 unfold ydv
 cases b with
 | true=>exact ⟨Nat.le_refl _,fun h=>h⟩
 | false=>
  rw [cond_false]
  cases h1:kdF L a false 1 with
  | true=>
   have hlt:=(vej h1).1;rw [cond_true];dsimp only;unfold nbA
   cases h2:kdF L (a+1) false 2 with
   | true=>have:=(vej h2).1;exact ⟨by rw [cond_true];omega,fun _=>by rw [cond_true];omega⟩
   | false=>exact ⟨Nat.le_succ _,fun _=>hlt⟩
  | false=>
   rw [cond_false]
   cases h2:isF L a false 3 tLp with
   | true=>
    have hlt:=(vgd h2).1;have hs:=xoo H (a+1) false;rw [cond_true];unfold atP
    cases (sm1 L rec (a+1) false).2.2 with
    | true=>exact ⟨by rw [cond_true];dsimp only;omega,fun _=>hs.2 hlt⟩
    | false=>exact ⟨by rw [cond_false];dsimp only;omega,fun _=>hs.2 hlt⟩
   | false=>
    rw [cond_false]
    cases h3:isF L a false 0 zyd with
    | true=>
     have hlt:=(vgd h3).1;have h5:a+1<=lkA L (a+1):=Nat.le_trans (y55 (b:=false) (k:=3) (t:=tLp)) y13;have h6:lkA L (a+1)<=L.length:=wld (wyd (by omega));have hs:=xoo H (skF L (lkA L (a+1)) (lkB L (a+1)) 3 tCm) (!isF L (lkA L (a+1)) (lkB L (a+1)) 3 tCm);have h7:lkA L (a+1)<=skF L (lkA L (a+1)) (lkB L (a+1)) 3 tCm:=y55;rw [cond_true];unfold lkR;exact ⟨by dsimp only;omega,fun _=>hs.2 (wyd h6)⟩
    | false=>
     rw [cond_false]
     have hmm:a<L.length->a<=(mmR L rec (a+1)).2.1/\(a<=L.length->(mmR L rec (a+1)).2.1<=L.length):=fun hlt=>by
      have hs:=zlz H (skF L (a+1) false 3 tLp) (!isF L (a+1) false 3 tLp);have h7:a+1<=skF L (a+1) false 3 tLp:=y55;unfold mmR;exact ⟨by omega,fun _=>hs.2 (wyd hlt)⟩
     cases h4:isF L a false 0 tMin with
     | true=>exact hmm (vgd h4).1
     | false=>
      rw [cond_false]
      cases h5:isF L a false 0 tMax with
      | true=>exact hmm (vgd h5).1
      | false=>
       rw [cond_false];unfold atN
       cases h6:isF L (nmA L a false) (nmB L a false) 3 tLp with
       | true=>
        have hlt:=(vgd h6).1;have hs:=x2e H (nmA L a false+1);have h7:a<=nmA L a false:=y13;exact ⟨by rw [cond_true];dsimp only;omega,fun _=>hs.2 hlt⟩
       | false=>exact ⟨y13,fun h=>wld h⟩
theorem zty {L:List Tk} {a:Nat} {b:Bool} {i:Nat} (h:opNx L a b=some i):a<L.length:=by
 have h1:=List.find?_some h;unfold opIs at h1;rw [Bool.and_eq_true] at h1;exact (vgd h1.2).1
theorem zfg {L:List Tk} {rec:Nat->Bool->Rd} (H:Mo L rec) (a:Nat) (b:Bool):a<=(yi8 L rec a b).2.1/\(a<=L.length->(yi8 L rec a b).2.1<=L.length):=by
 unfold yi8
 cases b with
 | true=>exact ⟨Nat.le_refl _,fun h=>h⟩
 | false=>
  rw [cond_false]
  cases h1:isF L a false 0 tNot with
  | true=>
   have hlt:=(vgd h1).1;have hs:=ws4 H (a+1) false;exact ⟨by rw [cond_true];dsimp only;omega,fun _=>hs.2 hlt⟩
  | false=>
   rw [cond_false]
   cases h2:isF L a false 0 tIf with
   | true=>
    have hlt:=(vgd h2).1;have hs:=ws4 H (a+1) false
    have hb:∀(p:Rd) (t:ByteArray),p.2.1<=(ifB L rec p t).2.1/\(p.2.1<=L.length->(ifB L rec p t).2.1<=L.length):=fun p t=>by
     have:=ws4 H (skF L p.2.1 p.2.2 0 t) (!isF L p.2.1 p.2.2 0 t)
     exact ⟨Nat.le_trans y55 this.1,fun h=>this.2 (wyd h)⟩
    have hb1:=hb (ydv L rec (a+1) false) yra;have hb2:=hb (ifB L rec (ydv L rec (a+1) false) yra) zrx;rw [cond_true];unfold ifR;exact ⟨by dsimp only;omega,fun _=>hb2.2 (hb1.2 (hs.2 hlt))⟩
   | false=>
    rw [cond_false];have hs:=ws4 H a false;generalize ydv L rec a false=x at *;unfold opM
    cases ho:opNx L x.2.1 x.2.2 with
    | none=>exact hs
    | some i=>
     have hlt:=zty ho;have ht:=ws4 H (x.2.1+1) x.2.2;exact ⟨by dsimp only;omega,fun _=>ht.2 hlt⟩
def exF (L:List Tk):Nat->Nat->Bool->Rd
 | 0,a,_=>(zE,a,true)
 | n+1,a,b=>yi8 L (exF L n) a b
theorem xr6 (L:List Tk):∀ n,Mo L (exF L n)
 | 0=>⟨fun _ _=>Nat.le_refl _,fun _ _ h=>h⟩
 | n+1=>⟨fun i c=>(zfg (xr6 L n) i c).1,fun i c=>(zfg (xr6 L n) i c).2⟩
theorem vp2.mo {L:List Tk} {rec:Nat->Bool->Rd} {a:Nat} (H:vp2 Γ L rec a):Mo L rec:=⟨H.mono,H.le⟩
theorem vp2.up {L:List Tk} {rec:Nat->Bool->Rd} {a i:Nat} (H:vp2 Γ L rec a) (h:a<=i):vp2 Γ L rec i:=⟨H.len,H.mono,H.le,fun j c hj=>H.run j c (by omega)⟩
theorem z9x (L:List Tk) (rec:Nat->Bool->Rd) (a:Nat) (b:Bool) (ha:a<=L.length) (H:vp2 Γ L rec a):zs5 Γ L a b (yi8 L rec a b):=by
 unfold yi8
 cases b with
 | true=>exact zbo L a
 | false=>
  rw [cond_false]
  cases h1:isF L a false 0 tNot with
  | true=>exact wmd L a H.len h1 _ (xwc L rec (a+1) false (vgd h1).1 (H.up (Nat.le_succ _)))
  | false=>
   rw [cond_false]
   cases h2:isF L a false 0 tIf with
   | true=>
    have hlt:=(vgd h2).1;have hs:=ws4 H.mo (a+1) false;have ht:=ws4 H.mo (skF L (ydv L rec (a+1) false).2.1 (ydv L rec (a+1) false).2.2 0 yra) (!isF L (ydv L rec (a+1) false).2.1 (ydv L rec (a+1) false).2.2 0 yra);have l1:(ydv L rec (a+1) false).2.1<=skF L (ydv L rec (a+1) false).2.1 (ydv L rec (a+1) false).2.2 0 yra:=y55;have l2:(ifB L rec (ydv L rec (a+1) false) yra).2.1<=skF L (ifB L rec (ydv L rec (a+1) false) yra).2.1 (ifB L rec (ydv L rec (a+1) false) yra).2.2 0 zrx:=y55;have u1:=hs.2 hlt;have u2:=ht.2 (wyd u1);exact w6w L a H.len h1 h2 _ _ _ (xwc L rec (a+1) false hlt (H.up (Nat.le_succ _)))
     (xwc L rec _ _ (wyd u1) (H.up (by omega))) (xwc L rec _ _ (wyd u2) (H.up (by unfold ifB at l2 ⊢;omega)))
   | false=>
    rw [cond_false];have hs:=ws4 H.mo a false;have m:=xwc (Γ:=Γ) L rec a false ha H;generalize ydv L rec a false=x at *;obtain ⟨x,a1,b1⟩:=x;exact yla L a H.len h1 h2 x a1 b1 _ m (fun i hi=>xwc L rec (a1+1) b1 (zty hi) (H.up (by have:=hs.1;dsimp only at this;omega)))
theorem x95 (L:List Tk) (hl:L.length<=1073741824):∀(n a:Nat) (b:Bool),a<=L.length->L.length-a<n->zs5 Γ L a b (exF L n a b)
 | 0,a,b,_,h=>absurd h (Nat.not_lt_zero _)
 | n+1,a,b,ha,h=>z9x L (exF L n) a b ha ⟨hl,(xr6 L n).mono,(xr6 L n).le,fun i c hi hi'=>x95 L hl n i c hi' (by omega)⟩
end Go.Hp.T
