/- The proof, part W33: Iw, 6g, 6h, Qa, Qb. -/
import Derived.Test.YtbdoipfmafbhoaaGreatDoorW32
import Derived.Test.YtbdoipfmafbhoaaGreatDoorW31
import Derived.Test.YtbdoipfmafbhoaaGreatDoorW23
import Derived.Test.YtbdoipfmafbhoaaGreatDoorW19
import Derived.Test.YtbdoipfmafbhoaaGreatDoorW27
namespace Go.Hp
open Go Go.RowKit Go.Slot
variable {P:Program} {Γ:List (Nat×List Cell)}
theorem vni {J:List SV} {i k:Nat} {x:SV} (h:k≠i):gtS (J.set i x) k=gtS J k:=by
 unfold gtS;rw [List.getElem?_set_ne (Ne.symm h)]
theorem xwq {J:List SV} {i:Nat} {x:SV} (h:i<J.length):gtS (J.set i x) i=x:=by
 unfold gtS;rw [List.getElem?_set_self h];rfl
structure StX (ts:List Nat) (vs:List SV) (σ0:List SV) (L:Nat->Bool) (J:List SV):Prop where
 len:J.length=σ0.length
 out:∀ i,i∉ts->J[i]? = σ0[i]?
 val:∀ k,k<ts.length->L k=true->gtS J (ts.getD k 0)=vs.getD k .any
theorem StX.set {ts:List Nat} {vs:List SV} {σ0:List SV} {L:Nat->Bool} {J:List SV} {j:Nat} (h:StX ts vs σ0 L J) (hn:ts.Nodup) (hl:∀ t∈ts,t<σ0.length) (hj:j<ts.length):StX ts vs σ0 (fun i=>L i||i==j) (J.set (ts.getD j 0) (vs.getD j .any)):=by
 have hjt:ts.getD j 0∈ts:=by rw [List.getD_eq_getElem?_getD,List.getElem?_eq_getElem hj];simp
 refine ⟨by rw [List.length_set,h.len],fun i hi=>?_,fun k hk hL=>?_⟩
 . rw [List.getElem?_set_ne (fun e=>hi (by rw [<-e];exact hjt))];exact h.out i hi
 . by_cases e:k=j
   . subst e;exact xwq (by rw [h.len];exact hl _ hjt)
   . have hL':L k=true:=by simpa [e] using hL
     rw [vni (fun e2=>e ?_)]
     . exact h.val k hk hL'
     . rw [List.getD_eq_getElem?_getD,List.getD_eq_getElem?_getD,List.getElem?_eq_getElem hk,List.getElem?_eq_getElem hj] at e2;exact (List.getElem_inj hn).1 (by simpa using e2)
theorem StX.more {ts:List Nat} {vs:List SV} {σ0:List SV} {L:Nat->Bool} {J:List SV} {j:Nat} (h:StX ts vs σ0 L J) (hj:ts.length<=j):StX ts vs σ0 (fun i=>L i||i==j) J:=
 ⟨h.len,h.out,fun k hk hL=>h.val k hk (by simpa [show k≠j by omega] using hL)⟩
theorem x2r : ∀ (ts : List Nat) (J : List SV) (i : Nat) (x : SV), (appL (ts.map fun t => (t, SV.any)) J)[i]? = some x → x = .any ∨ (i ∉ ts ∧ J[i]? = some x)
 | [],J,i,x,h=>.inr ⟨by simp,h⟩
 | t::ts,J,i,x,h=>by
  rcases x2r ts (J.set t .any) i x h with h | ⟨h1,h2⟩
  . exact .inl h
  . by_cases e:i=t
    . subst e;rw [List.getElem?_set] at h2;split at h2
      . split at h2
        . cases h2;exact .inl rfl
        . cases h2
      . rename_i hne;exact absurd rfl hne
    . rw [List.getElem?_set_ne (Ne.symm e)] at h2;exact .inr ⟨by simp [e,h1],h2⟩
theorem StX.weak {ts:List Nat} {vs:List SV} {σ0:List SV} {L:Nat->Bool} {J:List SV} (h:StX ts vs σ0 L J) {E:HEnv} {ρ:Nat->Value} {η:List SB} {a:Act} {w:World} (hR:RI Γ E ρ J η a w):RI Γ E ρ (appL (ts.map fun t=>(t,SV.any)) σ0) η a w:=by
 refine ⟨hR.hd,by rw [hR.hs,h.len,wjo],fun i x hi=>?_,hR.went⟩
 rcases x2r ts σ0 i x hi with rfl | ⟨h1,h2⟩
 . exact trivial
 . rw [<-h.out i h1] at h2;exact hR.slot i x h2
theorem vrk {η:List SB} {b:Nat} {x:SB} (h:η[b]? = some x):η.set b x=η:=by
 apply List.ext_getElem?;intro i;by_cases e:b=i
 . subst e;rw [List.getElem?_set_self (List.getElem?_eq_some_iff.1 h).1,h]
 . rw [List.getElem?_set_ne e]
theorem wt3 {η:List SB} {b:Nat} {x:SB} (h:b<η.length):gB (η.set b x) b=x:=by
 unfold gB;rw [List.getElem?_set_self h];rfl
theorem vjd {e:List SB} {id:Nat} {ops:Array Oper} {J:List SV} {η:List SB} {Q:Exit->List SV->List SB->Prop} (hm:P.follows .mixedOrders=true) {M X t0 t1 t2 t3 t4 t5 b c j:Nat} {v:Int} {MT kt et:TypeId}
 {o0 o1 o2 o3 o4 o5 o6:Oper} (hops:ops.toList=[o0,o1,o2,o3,o4,o5,o6]) (hng:(ops.toList.all fun o=>o.guard.isNone)=true) (hedge:vwk 0 ops.toList=true)
 (x2:0∈direct o2/\1∈direct o2) (x3:2∈direct o3) (x4:0∈direct o4/\1∈direct o4) (x5:4∈direct o5) (x6:0∈direct o6/\3∈direct o6/\5∈direct o6)
 (e0:o0.op=.move (.tmp M)) (d0:o0.dst=some t0) (e1:o1.op=.load kt (.tmp X)) (d1:o1.dst=some t1) (e2:o2.op=.lookup MT (.tmp t0) (.tmp t1) false) (d2:o2.dst=some t2)
 {IT IU:TypeId} (e3:o3.op=.binOp .add IT (.tmp t2) (.const (.int .i64 1)) IU) (d3:o3.dst=some t3) (e4:o4.op=.mapEntry MT (.tmp t0) (.tmp t1)) (d4:o4.dst=some t4) (e5:o5.op=.extract (.tmp t4) 1) (d5:o5.dst=some t5)
 (e6:o6.op=.entryStore MT (.tmp t0) (.tmp t5) (.tmp t3)) (d6:o6.dst=none)
 (hts:[t0,t1,t2,t3,t4,t5].Nodup) (hlt:∀ t∈[t0,t1,t2,t3,t4,t5],t<J.length) (hM0:M∉[t0,t1,t2,t3,t4,t5]) (hX0:X∉[t0,t1,t2,t3,t4,t5])
 {tiM tk:TI} (htiM:mkTI P MT=some tiM) (hsh:tiM.sh=.map kt et) (htk:mkTI P kt=some tk)
 {es es2:List (Value×SV)} (hM:gtS J M=.one (.mp b)) (hb:η[b]? = some (.map es)) {khs:List HC} (hX:seeH η (gtS J X)=some ([c],khs)) (hcb:c≠b) {kv:SV} (hload:ybx tk khs=some kv) {kl:List Value} (hkey:keyX kv=some (.agg kl.toArray)) (hkt:keyT P kt kl=true)
 (hz:vnx P et=some (.one (.dat (.raw (.int .i64 0))))) {r:Option SV} (hf:xog es (.agg kl.toArray)=some r) (hr:w7n false r (.one (.dat (.raw (.int .i64 0))))=.one (.dat (.raw (.int .i64 v))))
 (hins:insM es (.agg kl.toArray) (.one (.dat (.raw (.int .i64 0))))=some (.one (.dat (.raw (.int .i64 v))),j,es2)) (hf2:xog es2 (.agg kl.toArray)=some (some (.one (.dat (.raw (.int .i64 v)))))) (hjl:j<es2.length) (hw:IntKind.i64.wrap (v+1)=v+1)
 (hk:Q .normal (appL ([t0,t1,t2,t3,t4,t5].map fun t=>(t,SV.any)) J) (η.set b (.map (es2.modify j fun p=>(p.1,.one (.dat (.raw (.int .i64 (v+1))))))))):z1o Γ P e (.region id ops true) Q J η:=by
 intro E ρ a w hE hR;have hbl:b<η.length:=(List.getElem?_eq_some_iff.1 hb).1
 let ts:=[t0,t1,t2,t3,t4,t5]
 let vs:List SV:=[.one (.mp b),kv,.one (.dat (.raw (.int .i64 v))),.one (.dat (.raw (.int .i64 (v+1)))),.tup [.one (.dat (.raw (.int .i64 v))),.one (.dat (.raw (.int .i64 j)))],.one (.dat (.raw (.int .i64 j)))]
 let es3:=es2.modify j fun p=>(p.1,SV.one (.dat (.raw (.int .i64 (v+1)))))
 let cur:(Nat->Bool)->List (Value×SV):=fun L=>bif L 6 then es3 else bif L 4 then es2 else es
 have hget:∀(k:Nat) (o:Oper),ops[k]? = some o->[o0,o1,o2,o3,o4,o5,o6][k]? = some o:=fun k o h=>by rw [<-hops];simpa using h
 refine v2w (Q:=yas Γ E Q) (Φ:=fun L a w=>∃ ρ J',StX ts vs J L J'/\RI Γ E ρ J' (η.set b (.map (cur L))) a w) hm ?_ hedge ?_ ?_ ?_
 case refine_4=>
  refine ⟨ρ,J,⟨rfl,fun _ _=>rfl,fun _ _ h=>by cases h⟩,?_⟩
  have:cur (fun _=>false)=es:=rfl
  rw [this,vrk hb];exact hR.go (Went.below hR.inv ((Below.refl _ w).drew))
 . intro k o hk
   have:=List.all_eq_true.1 hng o (by rw [hops];exact List.mem_of_getElem? (hget k o hk))
   simpa using this
 . intro L a w hL ⟨ρ',J',hS,hR'⟩;refine ⟨_,_,ρ',hk,?_⟩;have h6:L 6=true:=hL 6 (by rw [<-Array.length_toList,hops];show 6<7;omega)
   have:cur L=es3:=by show (bif L 6 then _ else _)=_;rw [h6];rfl
   rw [this] at hR';exact hS.weak hR'
 . intro L k o a w hko hout hdir hcl ⟨ρ',J',hS,hR'⟩ K hK;have hb':gB (η.set b (.map (cur L))) b=.map (cur L):=wt3 hbl
   have hsM:gtS J' M=.one (.mp b):=by unfold gtS;rw [hS.out M hM0];exact hM
   have hsX:gtS J' X=gtS J X:=by unfold gtS;rw [hS.out X hX0]
   have hko':=hget k o hko
   have hat:∀(i:Nat) (o:Oper),[o0,o1,o2,o3,o4,o5,o6][i]? = some o->ops[i]? = some o:=fun i o h=>by rw [<-hops] at h;simpa using h
   have hc6:L 6=true->L 5=true/\L 3=true:=fun h=>⟨hcl 6 o6 (hat 6 o6 rfl) h 5 x6.2.2,hcl 6 o6 (hat 6 o6 rfl) h 3 x6.2.1⟩
   have hc5:L 5=true->L 4=true:=fun h=>hcl 5 o5 (hat 5 o5 rfl) h 4 x5
   have hc3:L 3=true->L 2=true:=fun h=>hcl 3 o3 (hat 3 o3 rfl) h 2 x3
   have hkeep:∀ i,i≠4->i≠6->cur (fun n=>L n||n==i)=cur L:=fun i h4 h6=>by
    show (bif (L 6||6==i) then _ else bif (L 4||4==i) then _ else _)=_;rw [show ((6:Nat)==i)=false by simp;omega,show ((4:Nat)==i)=false by simp;omega,Bool.or_false,Bool.or_false]
   have hrefl:∀ l,agS l J' J':=fun l=>⟨rfl,fun _ _=>rfl⟩
   have hreflB:∀ l,agB l (η.set b (.map (cur L))) (η.set b (.map (cur L))):=fun l=>⟨rfl,fun _ _=>rfl⟩
   have hlt0:t0<J'.length:=by rw [hS.len];exact hlt t0 (by simp)
   have same:∀ i,i≠4->i≠6->∀ a' w' ρ2 σ2,StX ts vs J (fun n=>L n||n==i) σ2->RI Γ E ρ2 σ2 (η.set b (.map (cur L))) a' w'->∃ ρ J',StX ts vs J (fun n=>L n||n==i) J'/\RI Γ E ρ J' (η.set b (.map (cur (fun n=>L n||n==i)))) a' w':=fun i h4 h6 a' w' ρ2 σ2 hs hr=>⟨ρ2,σ2,hs,by rw [hkeep i h4 h6];exact hr⟩
   match k,hko' with
   | 0,h=>
    cases h;refine yu8 (.inl e0) d0 E ρ' J' _ a w (hrefl _) (hreflB _) hR' K _ (fun a' w' ρ2 hr=>hK a' w' (same 0 (by decide) (by decide) a' w' ρ2 _ (hS.set hts hlt (by show _<6;omega)) ?_))
    have:opdS Γ J' (.tmp M)=.one (.mp b):=hsM
    rw [this] at hr;exact hr
   | 1,h=>
    cases h
    have hsee:seeH (η.set b (.map (cur L))) (opdS Γ J' (.tmp X))=some ([c],khs):=by
     show seeH _ (gtS J' X)=_;rw [hsX];exact xzu hX (fun d hd=>by rw [List.mem_singleton] at hd;subst hd;exact zku hcb)
    exact x9f e1 d1 htk hsee hload E ρ' J' _ a w (hrefl _) (hreflB _) hR' K _ (fun a' w' ρ2 hr=>hK a' w' (same 1 (by decide) (by decide) a' w' ρ2 _ (hS.set hts hlt (by show _<6;omega)) hr))
   | 2,h=>
    cases h;have l0:=hdir 0 x2.1;have l1:=hdir 1 x2.2;have s0:opdS Γ J' (.tmp t0)=.one (.mp b):=hS.val 0 (by show _<6;omega) l0;have s1:opdS Γ J' (.tmp t1)=kv:=hS.val 1 (by show _<6;omega) l1
    have h6:L 6=false:=by
     cases h:L 6 with
     | false=>rfl
     | true=>have:=hc3 (hc6 h).2;rw [hout] at this;cases this
    have hm':zsa (η.set b (.map (cur L))) (opdS Γ J' (.tmp t0))=some (b,cur L):=by rw [s0];show (match gB _ b with | .map es=>some (b,es) | _=>none)=_;rw [hb']
    have hfc:∃ r',xog (cur L) (.agg kl.toArray)=some r'/\w7n false r' (.one (.dat (.raw (.int .i64 0))))=.one (.dat (.raw (.int .i64 v))):=by
     show ∃ r',xog (bif L 6 then _ else bif L 4 then _ else _) _=_/\_;rw [h6,cond_false]
     cases L 4 with
     | true=>exact ⟨_,hf2,rfl⟩
     | false=>exact ⟨r,hf,hr⟩
    obtain ⟨r',hf',hr'⟩:=hfc;refine wcw e2 d2 htiM hsh htk hm' (by rw [s1];exact hkey) (by show keyT P kt _=true;simpa using hkt) hf' hz E ρ' J' _ a w (hrefl _) (hreflB _) hR' K _ (fun a' w' ρ2 hr2=>hK a' w' (same 2 (by decide) (by decide) a' w' ρ2 _ (hS.set hts hlt (by show _<6;omega)) ?_));rw [hr'] at hr2;exact hr2
   | 3,h=>
    cases h;have s2:opdS Γ J' (.tmp t2)=.one (.dat (.raw (.int .i64 v))):=hS.val 2 (by show _<6;omega) (hdir 2 x3);refine wu2 e3 d3 (p:=.int .i64 v) (q:=.int .i64 1) (v:=.int .i64 (v+1)) (by rw [s2];rfl) (by show (if IntKind.i64=IntKind.i64 then some (Value.int .i64 (IntKind.i64.wrap (v+1))) else none)=_;rw [if_pos rfl,hw]) E ρ' J' _ a w (hrefl _) (hreflB _) hR' K _ (fun a' w' ρ2 hr2=>hK a' w' (same 3 (by decide) (by decide) a' w' ρ2 _ (hS.set hts hlt (by show _<6;omega)) hr2))
   | 4,h=>
    cases h;have s0:opdS Γ J' (.tmp t0)=.one (.mp b):=hS.val 0 (by show _<6;omega) (hdir 0 x4.1);have s1:opdS Γ J' (.tmp t1)=kv:=hS.val 1 (by show _<6;omega) (hdir 1 x4.2)
    have h6:L 6=false:=by
     cases h:L 6 with
     | false=>rfl
     | true=>have:=hc5 (hc6 h).1;rw [hout] at this;cases this
    have hcu:cur L=es:=by show (bif L 6 then _ else bif L 4 then _ else _)=_;rw [h6,hout];rfl
    have hcu':cur (fun n=>L n||n==4)=es2:=by show (bif (L 6||6==4) then _ else bif (L 4||4==4) then _ else _)=_;rw [h6];simp
    rw [hcu] at hR' hb' hreflB
    have hm':zsa (η.set b (.map es)) (opdS Γ J' (.tmp t0))=some (b,es):=by rw [s0];show (match gB _ b with | .map es=>some (b,es) | _=>none)=_;rw [hb']
    refine yhz e4 d4 htiM hsh hm' (by rw [s1];exact hkey) hkt hz rfl hins E ρ' J' _ a w (hrefl _) (hreflB _) hR' K _ (fun a' w' ρ2 hr2=>hK a' w' ⟨ρ2,_,hS.set hts hlt (by show _<6;omega),?_⟩);rw [hcu']
    have:appL [(b,SB.map es2)] (η.set b (.map es))=η.set b (.map es2):=by show (η.set b _).set b _=_;rw [List.set_set]
    rw [this] at hr2;exact hr2
   | 5,h=>
    cases h;have s4:opdS Γ J' (.tmp t4)=.tup [.one (.dat (.raw (.int .i64 v))),.one (.dat (.raw (.int .i64 j)))]:=hS.val 4 (by show _<6;omega) (hdir 4 x5);refine z3v e5 d5 (v:=.one (.dat (.raw (.int .i64 j)))) (by rw [s4];rfl) E ρ' J' _ a w (hrefl _) (hreflB _) hR' K _ (fun a' w' ρ2 hr2=>hK a' w' (same 5 (by decide) (by decide) a' w' ρ2 _ (hS.set hts hlt (by show _<6;omega)) hr2))
   | 6,h=>
    cases h;have s0:opdS Γ J' (.tmp t0)=.one (.mp b):=hS.val 0 (by show _<6;omega) (hdir 0 x6.1);have s3:opdS Γ J' (.tmp t3)=.one (.dat (.raw (.int .i64 (v+1)))):=hS.val 3 (by show _<6;omega) (hdir 3 x6.2.1);have s5:opdS Γ J' (.tmp t5)=.one (.dat (.raw (.int .i64 j))):=hS.val 5 (by show _<6;omega) (hdir 5 x6.2.2);have l4:=hc5 (hdir 5 x6.2.2)
    have hcu:cur L=es2:=by show (bif L 6 then _ else bif L 4 then _ else _)=_;rw [hout,l4];rfl
    have hcu':cur (fun n=>L n||n==6)=es3:=by show (bif (L 6||6==6) then _ else _)=_;simp
    rw [hcu] at hR' hb' hreflB
    have hm':zsa (η.set b (.map es2)) (opdS Γ J' (.tmp t0))=some (b,es2):=by rw [s0];show (match gB _ b with | .map es=>some (b,es) | _=>none)=_;rw [hb']
    refine ybn e6 d6 hm' s5 hjl (by rw [s3];rfl) E ρ' J' _ a w (hrefl _) (hreflB _) hR' K _ (fun a' w' ρ2 hr2=>hK a' w' ⟨ρ2,_,hS.more (by show 6<=6;omega),?_⟩);rw [hcu']
    have:appL [(b,SB.map (es2.modify j fun p=>(p.1,opdS Γ J' (.tmp t3))))] (η.set b (.map es2))=η.set b (.map es3):=by show (η.set b _).set b _=_;rw [List.set_set,s3]
    rw [this] at hr2;exact hr2
   | n+7,h=>simp at h
end Go.Hp
namespace Go.Hp
open Go Go.RowKit Go.Slot
variable {P:Program} {Γ:List (Nat×List Cell)} {e:List SB}
theorem xfx {G:List (Nat×List GhH)} {x y:Code} {Q:Exit->Bool->List SV->List SB->Prop} {J:List SV} {η:List SB} (h:RH Γ P e G x true (zi1 (hide (fun _ J' η'=>z1o Γ P e y (outH Q) J' η') ()) Q) J η):y1q Γ P e G x y Q J η:=by
 refine zx8 ((RH.sound x true _ J η h).mono ?_);intro ex J' η' ⟨b',h'⟩
 cases ex with
 | normal=>exact h'
 | _=>exact ⟨b',h'⟩
end Go.Hp
namespace Go.Hp.T
open Go Go.RowKit Go.Slot Go.Hp Go.Slot.T
set_option maxRecDepth 10000
section
variable {κ α:Type}
def insG (eq:κ->κ->Bool):List (κ×α)->κ->α->List (κ×α)
 | [],s,z=>[(s,z)]
 | p::l,s,z=>bif eq s p.1 then (s,p.2)::l else p::insG eq l s z
def posG (eq:κ->κ->Bool):List (κ×α)->κ->Nat
 | [],_=>0
 | p::l,s=>bif eq s p.1 then 0 else posG eq l s+1
variable {K:κ->Value} {C:α->SV} {eq:κ->κ->Bool}
theorem yzz (h:∀ a b,kEq (K a) (K b)=some (eq a b)) {s:κ} {z:α}:∀{l:List (κ×α)},insM (entG K C l) (K s) (C z)=some (C ((ynd eq l s).getD z),posG eq l s,entG K C (insG eq l s z))
 | []=>rfl
 | p::l=>by
  have ih:=yzz h (s:=s) (z:=z) (l:=l);simp only [entG,insM,h,insG,posG,ynd];rw [ih]
  cases eq s p.1<;>rfl
theorem z2x (hr:∀ s,eq s s=true) {s:κ} {z:α}:∀{l:List (κ×α)},ynd eq (insG eq l s z) s=some ((ynd eq l s).getD z)
 | []=>by simp only [insG,ynd,hr,cond_true];rfl
 | p::l=>by
  have ih:=z2x hr (s:=s) (z:=z) (l:=l);simp only [insG,ynd]
  cases he:eq s p.1 with
  | true=>simp only [cond_true,ynd,hr];rfl
  | false=>simp only [cond_false,ynd,he];exact ih
theorem xlv {s:κ} {z:α}:∀{l:List (κ×α)},posG eq l s<(entG K C (insG eq l s z)).length
 | []=>Nat.zero_lt_one
 | p::l=>by
  have ih:=xlv (s:=s) (z:=z) (l:=l);simp only [insG,posG]
  cases eq s p.1 with
  | true=>exact Nat.succ_pos _
  | false=>simp only [cond_false,entG,List.length_cons];omega
theorem zel {s:κ} {z v:α}:∀{l:List (κ×α)},(entG K C (insG eq l s z)).modify (posG eq l s) (fun p=>(p.1,C v))=entG K C (updG eq l s v)
 | []=>rfl
 | p::l=>by
  have ih:=zel (s:=s) (z:=z) (v:=v) (l:=l);simp only [insG,posG,updG]
  cases eq s p.1 with
  | true=>rfl
  | false=>
   simp only [cond_false,entG];rw [<-ih];rfl
theorem wc7 (hr:∀ s,eq s s=true) {s t:κ} {v:α} (ht:∀ a b c,eq a b=true->eq b c=eq a c) (hs:∀ a b,eq a b=eq b a):∀{l:List (κ×α)},ynd eq (updG eq l s v) t=bif eq t s then some v else ynd eq l t
 | []=>rfl
 | p::l=>by
  have ih:=wc7 hr (s:=s) (t:=t) (v:=v) ht hs (l:=l);simp only [updG,ynd]
  cases he:eq s p.1 with
  | true=>
   simp only [cond_true,ynd]
   cases h2:eq t s with
   | true=>rfl
   | false=>
    have h3:eq t p.1=false:=by rw [hs t p.1,ht p.1 s t (by rw [hs];exact he) |>.symm,hs];exact h2
    rw [h3];rfl
  | false=>
   simp only [cond_false,ynd];rw [ih]
   cases h2:eq t s with
   | true=>
    have h3:eq t p.1=false:=by rw [<-he];exact (ht t s p.1 h2).symm
    rw [h3];rfl
   | false=>cases eq t p.1<;>rfl
end
open Go.Proofs.Tryz (prog)
attribute [local irreducible] hide RH
set_option maxHeartbeats 8000000
variable {Γ:List (Nat×List Cell)}
theorem yj4 (s:Tg):tgE s s=true:=v5k.2 rfl
theorem wse (a b:Tg):tgE a b=tgE b a:=by
 rw [Bool.eq_iff_iff,v5k,v5k];exact eq_comm
theorem yyy (a b c:Tg) (h:tgE a b=true):tgE b c=tgE a c:=by rw [v5k.1 h]
def cntM (T:List Tg) (m:Mb):Mb:=T.foldl (fun m y=>updG tgE m y ((ynd tgE m y).getD 0+1)) m
def yis (e at':Int) (H K:Mb):List Tg->List Int
 | []=>[at']
 | y::l=>match ynd tgE H y with
  | some k=>bif decide (e=5) then [k,at'] else bif decide (1<(ynd tgE K y).getD 0) then [at'] else yis e at' H K l
  | none=>bif decide (1<(ynd tgE K y).getD 0) then [at'] else yis e at' H K l
def zet (e at':Int) (H:Mb) (x:Stp):List Int:=yis e at' H (cntM (ypc x) []) (ypc x)
theorem wiv {m:Mb} {i:Int} (h:∀ t,0<=(ynd tgE m t).getD 0/\(ynd tgE m t).getD 0<=i) (y t:Tg):0<=(ynd tgE (updG tgE m y ((ynd tgE m y).getD 0+1)) t).getD 0/\(ynd tgE (updG tgE m y ((ynd tgE m y).getD 0+1)) t).getD 0<=i+1:=by
 rw [wc7 yj4 yyy wse];have h1:=h y;have h2:=h t
 cases tgE t y with
 | true=>rw [cond_true,Option.getD_some];omega
 | false=>rw [cond_false];omega
theorem wuw {v:Int} (h:0<=v) (h2:v<=4611686018427387904):IntKind.i64.wrap v=v:=w64 (by omega)
theorem zms (e at':Int) (H:Mb) (x:Stp) (hi:x.inn.length<=1073741824) (ho:x.out.length<=1073741824) :
 wod Γ prog 53 [mK H] [.one (.dat (cI e)),.one (.dat (cI at')),.one (.mp 0),.agg ((stpC x).map .dat)] [mK H] (.one (.dat (.ints .i64 (zet e at' H x)))):=by
 have ht:=yr6 (Γ:=Γ) x hi ho
 have htl:(ypc x).length<=4294967296:=by
  unfold ypc;rw [List.length_append,List.length_append,List.length_map,List.length_map]
  cases (decide (x.kind=0)||(decide (x.kind=1)||decide (x.kind=5)))
  . simp;omega
  . simp;omega
 unfold zet;generalize ypc x=T at *;refine wod.run [(5,[.join])] Go.Proofs.Tryz.func53 rfl rfl ?_;simp only [Go.Proofs.Tryz.f53];refine hgR ?_
 repeat' ((first | refine hfk ?_ ?_<;>intros | refine hik ?_ | with_reducible first | refine y5k (ht) ?_ | refine x4p (ht) ?_)<;>refine hgS ?_)
 refine wwt [0,1,2,7,9,18,19] (fun p:Nat×Mb=>[(20,.one (.dat (cI p.1)))]) (fun p=>[mK H,.box ((stpC x).map .dat) (some 50),mK p.2])
  (fun p=>p.1<=T.length/\cntM T []=cntM (T.drop p.1) p.2/\∀ t,0<=(ynd tgE p.2 t).getD 0/\(ynd tgE p.2 t).getD 0<=p.1) (fun p=>T.length-p.1) (0,[]) ⟨Nat.zero_le _,rfl,fun t=>⟨Int.le_refl _,Int.le_refl _⟩⟩ ?_ ?_
 . refine hg ?_;exact StH.same svl rfl
 rintro ⟨i,m⟩ ⟨h1,h2,h3⟩;dsimp only at h1 h2 h3;refine hg ?_;refine zcl (fun hlt _=>?_) (fun hlt _=>?_)
 . have hlt':i<T.length:=by omega
   rw [xp9 hlt'] at h2;have hbd:=h3 (T.getD i default);refine hg ?_;refine xfx ?_;refine hg ?_;refine vjd (M:=9) (X:=11) (b:=2) (c:=3) (v:=(ynd tgE m (T.getD i default)).getD 0) (j:=posG tgE m (T.getD i default)) (es2:=envK (insG tgE m (T.getD i default) 0)) (kl:=[.int .i64 (T.getD i default).1,.string (T.getD i default).2]) mixed rfl (by kernel_rfl) (by kernel_rfl) ⟨by decide,by decide⟩ (by decide) ⟨by decide,by decide⟩ (by decide) ⟨by decide,by decide,by decide⟩ rfl rfl rfl rfl rfl rfl rfl rfl rfl rfl rfl rfl rfl rfl (by decide) (fun t ht=>?_) (by decide) (by decide) m107 rfl m114 rfl rfl rfl (by decide) rfl rfl zzb z3 ywb ?_ (yzz xqk (C:=fun k:Int=>.one (.dat (cI k))) (z:=0)) ?_ xlv (wuw (by omega) (by omega)) ?_
   . have:t<59:=by simp at ht;omega
     exact this
   . show w7n false ((ynd tgE m (T.getD i default)).map _) _=_
     cases ynd tgE m (T.getD i default)<;>rfl
   . have:=y7g xqk (C:=fun k:Int=>SV.one (.dat (cI k))) (s:=T.getD i default) (l:=insG tgE m (T.getD i default) 0)
     rw [z2x yj4] at this;exact this
   refine ⟨true,?_⟩;have hme:(envK (insG tgE m (T.getD i default) 0)).modify (posG tgE m (T.getD i default)) (fun p=>(p.1,SV.one (.dat (.raw (.int .i64 ((ynd tgE m (T.getD i default)).getD 0+1))))))=envK (updG tgE m (T.getD i default) ((ynd tgE m (T.getD i default)).getD 0+1)):=zel;rw [hme]
   conv=>simp (maxSteps:=2000000) (disch:=omega) only [go_sem,Nat.reduceAdd,Nat.reduceSub,Nat.reduceMul,Int.reduceToNat,Nat.reduceEqDiff,Nat.reduceBEq,Nat.reduceBneDiff,Nat.reduceLT,Int.reduceEq,Int.reduceLT,Int.reduceLE,Int.reduceNeg,Int.reduceAdd,Int.reduceSub,Int.reduceMul,List.map_cons,List.map_nil,List.set_cons_succ,List.set_cons_zero]
   repeat' ((first | refine hfk ?_ ?_<;>intros | refine hik ?_)<;>refine hgS ?_)
   refine ⟨(i+1,updG tgE m (T.getD i default) ((ynd tgE m (T.getD i default)).getD 0+1)),⟨by dsimp only;omega,h2,fun t=>?_⟩,by dsimp only;omega,?_⟩
   . have:=wiv h3 (T.getD i default) t
     dsimp only;rw [show ((i+1:Nat):Int)=(i:Int)+1 by omega];exact this
   refine StH.cutN [0,1,2,7,9,18,19,20] 3 rfl ?_ ?_
   . refine hg ?_
     first | exact trivial | rfl
   exact StH.same svl rfl
 have hm:cntM T []=m:=by rw [h2,List.drop_eq_nil_of_le (by omega)];rfl
 rw [hm];clear hm h2 hlt h1;generalize hR:yis e at' H m T=R;refine hg ?_
 repeat' ((first | refine hfk ?_ ?_<;>intros | refine hik ?_ | with_reducible first | refine y5k (ht) ?_ | refine x4p (ht) ?_)<;>refine hgS ?_)
 refine wwt [0,1,2,9,32,33] (fun i:Nat=>[(34,.one (.dat (cI i)))]) (fun _=>[mK H,.box ((stpC x).map .dat) (some 50),mK m])
  (fun i=>i<=T.length/\yis e at' H m (T.drop i)=R) (fun i=>T.length-i) 0 ⟨Nat.zero_le _,hR⟩ ?_ ?_
 . refine hg ?_;exact StH.same svl rfl
 clear hR;rintro i ⟨h1,h2⟩;refine hg ?_;refine zcl (fun hlt _=>?_) (fun hlt _=>?_)
 . have hlt':i<T.length:=by omega
   rw [xp9 hlt',yis] at h2
   replace h2:(match ynd tgE H ((T.getD i default).1,(T.getD i default).2) with
    | some k=>bif decide (e=5) then [k,at'] else bif decide (1<(ynd tgE m ((T.getD i default).1,(T.getD i default).2)).getD 0) then [at'] else yis e at' H m (T.drop (i+1))
    | none=>bif decide (1<(ynd tgE m ((T.getD i default).1,(T.getD i default).2)).getD 0) then [at'] else yis e at' H m (T.drop (i+1)))=R:=h2
   cases hA:ynd tgE H ((T.getD i default).1,(T.getD i default).2)<;>cases hB:ynd tgE m ((T.getD i default).1,(T.getD i default).2)
   all_goals
    rw [hA,hB] at h2;dsimp only [Option.getD_none,Option.getD_some] at h2;refine hg2 @hA @hB ?_
    repeat' ((first | refine hfk ?_ ?_<;>intros | refine hik ?_)<;>refine hgS ?_)
   all_goals first
    | (exfalso;omega)
    | (refine ⟨i+1,⟨by omega,?_⟩,by omega,?_⟩
       . rw [<-h2];simp [*]
       refine StH.cutN [0,1,2,9,32,33,34] 3 rfl ?_ ?_
       . refine hg ?_
         first | exact trivial | rfl
       exact StH.same svl rfl)
    | exact StH.ylx rfl (by kernel_rfl) (by rw [<-h2];simp [*])
 . have h4:[at']=R:=by rw [<-h2,List.drop_eq_nil_of_le (by omega)];rfl
   rw [<-h4];clear h2 h4;refine hg ?_
   repeat' ((first | refine hfk ?_ ?_<;>intros | refine hik ?_)<;>refine hgS ?_)
   exact StH.ylx rfl (by kernel_rfl) rfl
end Go.Hp.T
namespace Go.Hp.T
open Go Go.RowKit Go.Slot Go.Hp Go.Slot.T
open Go.Proofs.Tryz (prog)
attribute [local irreducible] hide RH
set_option maxRecDepth 10000
set_option maxHeartbeats 8000000
variable {Γ:List (Nat×List Cell)}
theorem zsm {α:Type} {s t:ByteArray} {v u:α}:∀{l:List (ByteArray×α)},yk4 (updF l s v) t=some u->u=v\/yk4 l t=some u
 | [],h=>by
  simp only [updF,yk4] at h
  cases hq:seq t s with
  | true=>rw [hq] at h;exact .inl (Option.some.inj h).symm
  | false=>rw [hq] at h;cases h
 | p::l,h=>by
  simp only [updF] at h
  cases hs:seq s p.1 with
  | true=>
   rw [hs,cond_true] at h;simp only [yk4] at h ⊢
   cases hq:seq t s with
   | true=>rw [hq] at h;exact .inl (Option.some.inj h).symm
   | false=>
    rw [hq,cond_false] at h
    cases hp:seq t p.1 with
    | true=>
     have e1:t=p.1:=by simpa [v75] using hp
     have e2:s=p.1:=by simpa [v75] using hs
     rw [v75,e1,e2] at hq;simp at hq
    | false=>exact .inr h
  | false=>
   rw [hs,cond_false] at h;simp only [yk4] at h ⊢
   cases hp:seq t p.1 with
   | true=>rw [hp] at h;exact .inr h
   | false=>rw [hp,cond_false] at h;rw [cond_false];exact zsm h
theorem vaj:∀(l:List Cel) (m:Ms),(∀ s u,yk4 m s=some u->u.size<=1073741824)->(∀ x∈l,x.unit.size<=1073741824)->∀ s u,yk4 (l.foldl (fun m x=>updF m x.name x.unit) m) s=some u->u.size<=1073741824
 | [],m,h,_,s,u,hu=>h s u hu
 | x::l,m,h,hx,s,u,hu=>vaj l _ (fun s u hu=>by
  rcases zsm hu with rfl | hu
  . exact hx x List.mem_cons_self
  . exact h s u hu) (fun y hy=>hx y (List.mem_cons_of_mem _ hy)) s u hu
def addT (H:Mb) (i:Int) (T:List Tg):Mb:=T.foldl (fun H z=>updG tgE H z i) H
abbrev Lk:=Int×Int×List Int
def z9q (C I:Ms) (N:Mn) (kind:ByteArray):List Stp->Nat->Mb->Lk ⊕ Mb
 | [],_,H=>.inr H
 | y::l,i,H=>bif decide (¬veh C I N H kind y=0) then .inl (veh C I N H kind y,i,zet (veh C I N H kind y) i H y) else z9q C I N kind l (i+1) (addT H i (ypc y))
def endL (s:Sht) (x:Rcp) (H:Mb):Lk:=bif (gapR s x H).2 then (21,x.steps.length,bif decide (¬(gapR s x H).1 = -1) then [(gapR s x H).1] else []) else (0,0,[])
def z4k (s:Sht) (r:Int):Lk:=bif !y4x s||(decide (r<0)||decide ((s.recipes.length:Int)<=r)) then (1,0,[]) else
 match z9q (wzt s) (yz8 s) (vgd s) (s.recipes.getD r.toNat default).kind (s.recipes.getD r.toNat default).steps 0 [] with
 | .inl k=>k
 | .inr H=>endL s (s.recipes.getD r.toNat default) H
abbrev lokR (k:Lk):AV:=.tup [.one (cI k.1),.one (cI k.2.1),.one (.ints .i64 k.2.2)]
theorem z9o (a b:Int):RLe (.tup [.one (cI a),.one (cI b),.one (.raw (.slice none 0 0))]) (lokR (a,b,[])):=.tup (.cons (.refl _) (.cons (.refl _) (.cons (.one (.xq8 _)) .nil)))
theorem y7k (s:Sht) (r:Int) (hs:s.Sm) (h:(!y4x s||(decide (r<0)||decide ((s.recipes.length:Int)<=r)))=true):CallsD Γ prog 30 [.agg (shtC s),.one (cI r)] (lokR (z4k s r)):=by
 have hR:=xqo (Γ:=Γ) s hs;have hrl:=hs.rl;unfold z4k;rw [h,cond_true];generalize y4x s=b at *;clear hs;refine CallsD.run [] Go.Proofs.Tryz.func30 rfl rfl rfl ?_;simp only [Go.Proofs.Tryz.f30];refine hgR ?_
 repeat' ((first | refine hfk ?_ ?_<;>intros | refine hik ?_ | with_reducible first | refine y5k (hR) ?_ | refine x4p (hR) ?_)<;>refine hgS ?_)
 all_goals first
  | exact z9o _ _
  | (exfalso;simp_all;done)
  | (exfalso;simp_all;omega)
abbrev lkBs (s:Sht) (x:Rcp) (C I:Ms) (N:Mn) (H:Mb):List SB:=[.box ((shtC s).map .dat) (some 31),.box ((rcpC x).map .dat) (some 43),.box ((shtC s).map .dat) (some 31),itB 4 5 6,mS C,mS I,mN N,itB 4 5 6,mK H]
theorem z2q (s:Sht) (hs:s.Sm) (a b:SB):wod Γ prog 51 [a,b] [.agg ((shtC s).map .dat)] [a,b,.box ((shtC s).map .dat) (some 31),itB 4 5 6,mS (wzt s),mS (yz8 s),mN (vgd s)] (.agg [.mp 4,.mp 5,.mp 6]):=by
 have h:=wod.at [] (η:=[a,b]) (zo7 (Γ:=Γ) s hs) (by decide) rfl rfl rfl
 have e:putR [] [a,b] (colB s)=[a,b,.box ((shtC s).map .dat) (some 31),itB 4 5 6,mS (wzt s),mS (yz8 s),mN (vgd s)]:=by
  show [a,b,_,_,rnSB _ (mS (wzt s)),rnSB _ (mS (yz8 s)),rnSB _ (mN (vgd s))]=_;rw [vya,vya,x04];rfl
 rw [e] at h;exact h
theorem zxp (C I:Ms) (N:Mn) (H:Mb) (η:List SB) (h0:η[4]? = some (mS C)) (h1:η[5]? = some (mS I)) (h2:η[6]? = some (mN N)) (h3:η[8]? = some (mK H)):[4,5,6,8].map (fun j=>η[j]?)=(wrBs C I N H).map (fun y=>some (rnSB (atR [4,5,6,8] η.length) y)):=by
 show [η[4]?,η[5]?,η[6]?,η[8]?]=[some (rnSB _ (mS C)),some (rnSB _ (mS I)),some (rnSB _ (mN N)),some (rnSB _ (mK H))];rw [vya,vya,x04,y5m,h0,h1,h2,h3]
theorem zmz (H:Mb) (η:List SB) (h3:η[8]? = some (mK H)):[8].map (fun j=>η[j]?)=[mK H].map (fun y=>some (rnSB (atR [8] η.length) y)):=by
 show [η[8]?]=[some (rnSB _ (mK H))];rw [y5m,h3]
theorem v5h {H:Mb} {k:Int} {T:List Tg} {i:Nat} (h:i<T.length):addT H k (T.take (i+1))=updG tgE (addT H k (T.take i)) (T.getD i default) k:=xp5 h
theorem ya2 {x:Stp} (h1:x.inn.length<=1073741824) (h2:x.out.length<=1073741824):(ypc x).length<=4294967296:=by
 unfold ypc;rw [List.length_append,List.length_append,List.length_map,List.length_map]
 cases (decide (x.kind=0)||(decide (x.kind=1)||decide (x.kind=5)))
 . simp;omega
 . simp;omega
theorem wux (s:Sht) (r:Int) (hs:s.Sm) (hr:y4x s=true) (h0:0<=r) (h1:r<s.recipes.length):CallsD Γ prog 30 [.agg (shtC s),.one (cI r)] (lokR (z4k s r)):=by
 have hR:=xqo (Γ:=Γ) s hs;have hrl:=hs.rl
 have hrn:r.toNat<s.recipes.length:=by omega
 have hx:=hs.r _ (wax hrn);have hC:∀ a u,yk4 (wzt s) a=some u->u.size<=1073741824:=vaj s.cells [] (fun a u h=>by cases h) (fun y hy=>(hs.c y hy).2.1)
 have hL:z4k s r=match z9q (wzt s) (yz8 s) (vgd s) (s.recipes.getD r.toNat default).kind (s.recipes.getD r.toNat default).steps 0 [] with
  | .inl k=>k
  | .inr H=>endL s (s.recipes.getD r.toNat default) H:=by
  unfold z4k;rw [hr,decide_eq_false (show ¬r<0 by omega),decide_eq_false (show ¬(s.recipes.length:Int)<=r by omega)];rfl
 generalize hRR:z4k s r=R at *
 have hcol:=fun a b=>z2q (Γ:=Γ) s hs a b
 have hgap:=fun x H a b=>y38 (Γ:=Γ) s x H hs.nl hs.il hs.pl a b
 rw [hr] at hR;clear hr hs hRR;refine CallsD.run [] Go.Proofs.Tryz.func30 rfl rfl rfl ?_;simp only [Go.Proofs.Tryz.f30];refine hgR ?_
 repeat' ((first | refine hfk ?_ ?_<;>intros | refine hik ?_ | with_reducible first | refine y5k (hR) ?_ | refine x4p (hR) ?_)<;>refine hgS ?_)
 all_goals try (exfalso;omega)
 generalize s.recipes.getD r.toNat default=x at *;refine x52 (hcol _ _) rfl ?_;clear hcol hR;refine hg ?_
 repeat' ((first | refine hfk ?_ ?_<;>intros | refine hik ?_)<;>refine hgS ?_)
 generalize wzt s=C at *;generalize yz8 s=I at *;generalize vgd s=N at *;refine wwt [2,7,8,9,40,41] (fun p:Nat×Mb=>[(42,.one (.dat (cI p.1)))]) (fun p=>lkBs s x C I N p.2)
  (fun p=>p.1<=x.steps.length/\(match z9q C I N x.kind (x.steps.drop p.1) p.1 p.2 with
    | .inl k=>k
    | .inr H=>endL s x H)=R) (fun p=>x.steps.length-p.1) (0,[]) ⟨Nat.zero_le _,hL.symm⟩ ?_ ?_
 . refine hg ?_;exact StH.same svl rfl
 clear hL;rintro ⟨i,H⟩ ⟨h2,h3⟩;dsimp only at h2 h3;have hxl:=hx.2.1;refine hg ?_;refine zcl (fun hlt _=>?_) (fun hlt _=>?_)
 . have hlt':i<x.steps.length:=by omega
   have hy:=hx.2.2 _ (wax hlt');have cw:=wep (Γ:=Γ) C I N H x.kind (x.steps.getD i default) hy hC
   have cb:=fun e=>zms (Γ:=Γ) e (i:Int) H (x.steps.getD i default) hy.il hy.ol
   have ct:=yr6 (Γ:=Γ) (x.steps.getD i default) hy.il hy.ol;rw [xp9 hlt',z9q] at h3;have hTl:=ya2 hy.il hy.ol;generalize veh C I N H x.kind (x.steps.getD i default)=e at *;generalize ypc (x.steps.getD i default)=T at *;clear hC hgap;refine hg ?_
   repeat' ((first | refine hfk ?_ ?_<;>intros | refine hik ?_)<;>refine hgS ?_)
   refine xbg (wod.roN [4,5,6,8] cw (by decide) rfl (zxp C I N H _ rfl rfl rfl rfl)) ?_;clear cw;refine hg ?_;refine zcl (fun he hd=>?_) (fun he hd=>?_)
   . rw [hd,cond_true] at h3;refine hg ?_
     repeat' ((first | refine hfk ?_ ?_<;>intros | refine hik ?_)<;>refine hgS ?_)
     refine xbg (wod.roN [8] (cb e) (by decide) rfl (zmz H _ rfl)) ?_;clear cb;refine hg ?_
     repeat' ((first | refine hfk ?_ ?_<;>intros | refine hik ?_)<;>refine hgS ?_)
     exact RLe.ofEq (by rw [<-h3])
   . rw [hd,cond_false] at h3;clear cb;refine hg ?_
     repeat' ((first | refine hfk ?_ ?_<;>intros | refine hik ?_ | with_reducible first | refine y5k (ct) ?_ | refine x4p (ct) ?_)<;>refine hgS ?_)
     refine wwt [2,7,8,9,10,40,41,42,63,64] (fun k:Nat=>[(65,.one (.dat (cI k)))]) (fun k=>lkBs s x C I N (addT H i (T.take k))++[.box ((stpC (x.steps.getD i default)).map .dat) (some 50)])
      (fun k=>k<=T.length) (fun k=>T.length-k) 0 (Nat.zero_le _) ?_ ?_
     . refine hg ?_;exact StH.same svl rfl
     intro k hk;refine hg ?_;refine zcl (fun hlt2 _=>?_) (fun hlt2 _=>?_)
     . have hlt3:k<T.length:=by omega
       have hU:=v5h (H:=H) (k:=(i:Int)) hlt3;generalize addT H i (T.take k)=D at *;refine hg ?_
       repeat' ((first | refine hfk ?_ ?_<;>intros | refine hik ?_)<;>refine hgS ?_)
       refine ⟨k+1,by omega,by omega,?_⟩;rw [hU];refine StH.cutN [2,7,8,9,10,40,41,42,63,64,65] 10 rfl ?_ ?_
       . refine hg ?_
         first | exact trivial | rfl
       exact StH.same svl rfl
     . rw [List.take_of_length_le (show T.length<=k by omega)];refine hg ?_
       repeat' ((first | refine hfk ?_ ?_<;>intros | refine hik ?_)<;>refine hgS ?_)
       refine ⟨(i+1,addT H i T),⟨by dsimp only;omega,h3⟩,by dsimp only;omega,?_⟩;refine StH.cutN [2,7,8,9,40,41,42] 9 rfl ?_ ?_
       . refine hg ?_
         first | exact trivial | rfl
       exact StH.same svl rfl
 . rw [List.drop_eq_nil_of_le (show x.steps.length<=i by omega),z9q] at h3;have cg:=hgap x H hx.2.1 (fun y hy=>(hx.2.2 y hy).ol);dsimp only at h3;unfold endL at h3;generalize gapR s x H=g at *;obtain ⟨k,b⟩:=g;dsimp only at h3 cg;clear hgap hC;refine hg ?_
   repeat' ((first | refine hfk ?_ ?_<;>intros | refine hik ?_)<;>refine hgS ?_)
   refine xbg (wod.roN [8] cg (by decide) rfl (zmz H _ rfl)) ?_;clear cg;refine hg ?_
   repeat' ((first | refine hfk ?_ ?_<;>intros | refine hik ?_)<;>refine hgS ?_)
   . exact RLe.ofEq (by rw [<-h3];simp [*])
   . have e:R=((21,(x.steps.length:Int),[]):Lk):=by rw [<-h3];simp [*]
     rw [e];exact z9o _ _
   . have e:R=((0,0,[]):Lk):=by rw [<-h3];simp [*]
     rw [e];exact z9o _ _
theorem zyc (s:Sht) (r:Int) (hs:s.Sm):CallsD Γ prog 30 [.agg (shtC s),.one (cI r)] (lokR (z4k s r)):=by
 by_cases h:(!y4x s||(decide (r<0)||decide ((s.recipes.length:Int)<=r)))=true
 . exact y7k s r hs h
 . rw [Bool.not_eq_true] at h;simp only [Bool.or_eq_false_iff,Bool.not_eq_false',decide_eq_false_iff_not] at h;exact wux s r hs h.1 (by omega) (by omega)
theorem zbj (s:Sht) (r:Int) (hs:s.Sm):CallsD Γ prog 10 [.agg (shtC s),.one (cI r)] (.tup [.one (cI (z4k s r).1),.one (cI (z4k s r).2.1)]):=by
 have h:=zyc (Γ:=Γ) s r hs;generalize z4k s r=k at *;obtain ⟨a,b,c⟩:=k;dsimp only at h ⊢;clear hs;refine CallsD.run [] Go.Proofs.Tryz.func10 rfl rfl rfl ?_;simp only [Go.Proofs.Tryz.f10];refine hgR ?_
 repeat' ((first | refine hfk ?_ ?_<;>intros | refine hik ?_ | with_reducible first | refine y5k (h) ?_ | refine x4p (h) ?_)<;>refine hgS ?_)
 exact RLe.ofEq rfl
theorem zvm (s:Sht) (r:Int) (hs:s.Sm):CallsD Γ prog 13 [.agg (shtC s),.one (cI r)] (.one (.ints .i64 (z4k s r).2.2)):=by
 have h:=zyc (Γ:=Γ) s r hs;generalize z4k s r=k at *;obtain ⟨a,b,c⟩:=k;dsimp only at h ⊢;clear hs;refine CallsD.run [] Go.Proofs.Tryz.func13 rfl rfl rfl ?_;simp only [Go.Proofs.Tryz.f13];refine hgR ?_
 repeat' ((first | refine hfk ?_ ?_<;>intros | refine hik ?_ | with_reducible first | refine y5k (h) ?_ | refine x4p (h) ?_)<;>refine hgS ?_)
 exact RLe.ofEq rfl
end Go.Hp.T
namespace Go.Hp.T
open Go Go.RowKit Go.Slot Go.Hp Go.Slot.T
open Go.Proofs.Tryz (prog)
attribute [local irreducible] hide RH
set_option maxRecDepth 10000
set_option maxHeartbeats 4000000
variable {Γ:List (Nat×List Cell)}
theorem n12:((12:Nat):Int)=12:=rfl
attribute [go_sem] n12
mutual
def Ex.rsz:Ex->Int->Int->Int
 | .mk _ _ _ _ l,n,lv=>bif decide (n<1)||decide (lv<1) then -1 else Ex.rszL l n lv 1
def Ex.rszL:List Ex->Int->Int->Int->Int
 | [],_,_,k=>k
 | y::l,n,lv,k=>bif decide (Ex.rsz y (n-k) (lv-1)<0) then -1 else Ex.rszL l n lv (k+Ex.rsz y (n-k) (lv-1))
end
theorem Ex.zvy (x:Ex) (n lv:Int):x.rsz n lv=bif decide (n<1)||decide (lv<1) then -1 else Ex.rszL x.args n lv 1:=by cases x;rw [Ex.rsz];rfl
theorem Ex.zgj:∀(l:List Ex),(∀ y∈l,∀ n lv:Int,-1<=y.rsz n lv/\(0<=y.rsz n lv->y.rsz n lv<=n))->∀ n lv k:Int,1<=k->k<=n->-1<=Ex.rszL l n lv k/\(0<=Ex.rszL l n lv k->Ex.rszL l n lv k<=n)
 | [],_,n,lv,k,h1,h2=>by rw [Ex.rszL];omega
 | y::l,h,n,lv,k,h1,h2=>by
  rw [Ex.rszL];have hy:=h y (by simp) (n-k) (lv-1);generalize y.rsz (n-k) (lv-1)=m at hy;by_cases hm:m<0
  . rw [decide_eq_true hm];simp only [cond_true];omega
  . rw [decide_eq_false hm];exact Ex.zgj l (fun z hz=>h z (by simp [hz])) n lv (k+m) (by omega) (by omega)
theorem Ex.y7e:∀(x:Ex) (n lv:Int),-1<=x.rsz n lv/\(0<=x.rsz n lv->x.rsz n lv<=n):=by
 refine Ex.ind (fun x ih n lv=>?_);rw [Ex.zvy];by_cases h1:n<1
 . rw [decide_eq_true h1];simp only [Bool.true_or,cond_true];omega
 . by_cases h2:lv<1
   . rw [decide_eq_true h2];simp only [Bool.or_true,cond_true];omega
   . rw [decide_eq_false h1,decide_eq_false h2];exact Ex.zgj x.args ih n lv 1 (by omega) (by omega)
theorem z2k:∀ x:Ex,x.Sm->∀ n lv:Int,n<=1000->lv<=1000->0<=n->0<=lv->CallsD Γ prog 80 [.agg (exC x),.one (cI n),.one (cI lv)] (.one (cI (x.rsz n lv))):=by
 refine Ex.ind (fun x ih hx n lv hn hlv hn0 hlv0=>?_);have hl:=hx.len;refine CallsD.run [] Go.Proofs.Tryz.func80 rfl rfl rfl ?_;simp only [Go.Proofs.Tryz.f80];refine hgR ?_
 repeat' ((first | refine hfk ?_ ?_<;>intros | refine hik ?_)<;>refine hgS ?_)
 . rename_i h1 _ h2 _;exact RLe.ofEq (by rw [Ex.zvy,decide_eq_true h2,Bool.or_true];rfl)
 . rename_i h1 _ h2 _
   have e0:x.rsz n lv=Ex.rszL x.args n lv 1:=by rw [Ex.zvy,decide_eq_false h1,decide_eq_false h2];rfl
   refine wwt [1,2,3] (fun p:Nat×Int=>[(7,.one (.dat (cI p.2))),(8,.one (.dat (cI p.1)))]) (fun _=>[.box ((exC x).map .dat) (some 69)]) (fun p=>p.1<=x.args.length/\1<=p.2/\p.2<=n/\Ex.rszL (x.args.drop p.1) n lv p.2=Ex.rszL x.args n lv 1) (fun p=>x.args.length-p.1) (0,1) ⟨Nat.zero_le _,by simp only;omega,by simp only;omega,rfl⟩ ?_ ?_
   . refine hg ?_;exact StH.same svl rfl
   rintro ⟨i,k⟩ ⟨hi,hk1,hk2,hc⟩;simp only at hi hk1 hk2 hc;refine hg ?_;refine zcl (fun hlt hd=>?_) (fun hlt _=>?_)
   . have hlt':i<x.args.length:=by omega
     have hy:=wax hlt';have hcc:=ih _ hy (hx.arg _ hy) (n-k) (lv-1) (by omega) (by omega) (by omega) (by omega);have hb:=Ex.y7e (x.args.getD i default) (n-k) (lv-1);rw [xp9 hlt',Ex.rszL] at hc;generalize (x.args.getD i default).rsz (n-k) (lv-1)=m at hcc hb hc;rw [e0,<-hc];clear e0 hc;refine hg1 @hd ?_
     repeat' ((first | refine hfk ?_ ?_<;>intros | refine hik ?_ | with_reducible first | refine y5k (hcc) ?_ | refine x4p (hcc) ?_)<;>refine hgS ?_)
     . exact RLe.ofEq rfl
     . exact ⟨(i+1,k+m),⟨by simp only;omega,by simp only;omega,by simp only;omega,rfl⟩,by simp only;omega,StH.same svl rfl⟩
   . refine hg ?_;rw [e0,<-hc,List.drop_eq_nil_of_le (by omega),Ex.rszL];exact RLe.ofEq rfl
 . rename_i h1 _;exact RLe.ofEq (by rw [Ex.zvy,decide_eq_true h1];rfl)
theorem rFew (x:Ex) (hx:x.Sm) (n lv:Int) (hn:n<=1000) (hlv:lv<=1000) (hn0:0<=n) (hlv0:0<=lv):CallsD Γ prog 50 [.agg (exC x),.one (cI n),.one (cI lv)] (.one (cB (decide (0<=x.rsz n lv)))):=by
 have h:=z2k (Γ:=Γ) x hx n lv hn hlv hn0 hlv0;refine CallsD.run [] Go.Proofs.Tryz.func50 rfl rfl rfl ?_;simp only [Go.Proofs.Tryz.f50];refine hgR ?_
 repeat' ((first | refine hfk ?_ ?_<;>intros | refine hik ?_ | with_reducible first | refine y5k (h) ?_ | refine x4p (h) ?_)<;>refine hgS ?_)
 all_goals exact RLe.ofEq rfl
end Go.Hp.T
