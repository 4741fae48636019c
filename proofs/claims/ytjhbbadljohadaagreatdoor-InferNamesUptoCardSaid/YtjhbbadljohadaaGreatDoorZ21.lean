/- The proof, part Z21: Ho. -/
import Derived.Test.YtjhbbadljohadaaGreatDoorZ20
namespace Go.Hp
open Go Go.RowKit Go.Slot
variable {P:Program} {Γ:List (Nat×List Cell)}
def HO.flat:HO→Prop
 | .eff _ _ _ _ _=>True
 | .bad=>True
 | _=>False
theorem flat_withT {t:TypeId} {k:TI→HO} (h:∀ ti,(k ti).flat):(withT P t k).flat:=by
 unfold withT
 split
 · exact h _
 · trivial
theorem flat_vO {o:Oper} {rd rh:List Nat} {x:Option SV}:(vO o rd rh x).flat:=by
 unfold vO
 repeat' split
 all_goals trivial
theorem flat_nO {o:Oper} {rd rh:List Nat} {x:SV} {heff:List (Nat×SB)} {b:SB}:(nO o rd rh x heff b).flat:=by
 unfold nO
 split<;>trivial
theorem flat_old {σ:List SV} {nb:Nat} {o:Oper}:(oldO P σ nb o).flat:=by
 unfold oldO oldR
 repeat' split
 all_goals trivial
theorem flat_conv {σ:List SV} {η:List SB} {nb:Nat} {o:Oper} {S D:TypeId} {x:Operand}:(convO P Γ σ η nb o S D x).flat:=by
 unfold convO
 repeat' split
 all_goals first | trivial | exact flat_vO | exact flat_old
theorem flat_app {η:List SB} {nb:Nat} {o:Oper} {x y:SV} {rd:List Nat} {e:TypeId} {es eb:Nat} {ik:Option IntKind}:(opH.appO η nb o x y rd e es eb ik).flat:=by
 unfold opH.appO
 repeat' split
 all_goals first | trivial | exact flat_nO
theorem withT_eq {t:TypeId} {k:TI→HO} {r:HO} (hr:r≠.bad) (h:withT P t k=r):∃ ti,mkTI P t=some ti∧k ti=r:=by
 unfold withT at h
 split at h
 · rename_i ti hti;exact ⟨ti,hti,h⟩
 · exact absurd h.symm hr
theorem opP_lookup {σ:List SV} {η:List SB} {nb:Nat} {o:Oper} {T:TypeId} {x y:Operand} {ok:Bool} (ho:o.op=.lookup T x y ok) {r:HO} (h:opP P Γ σ η nb o=r) (hr:r≠.bad) :
 ∃ ti kt et tk b es k r0 z,mkTI P T=some ti∧ti.sh=.map kt et∧mkTI P kt=some tk∧mapAt η (opdS Γ σ x)=some (b,es)∧keyV (opdS Γ σ y)=some k∧keyOk tk.sh k=true∧findM es k=some r0∧zeroSV P et=some z∧r=.look r0 z ok (dstRd o++(orr x++orr y)) [b]:=by
 unfold opP at h
 rw [ho] at h
 dsimp only at h
 obtain ⟨ti,hti,h⟩:=withT_eq hr h
 split at h
 case h_2=>exact absurd h.symm hr
 rename_i kt et hs
 obtain ⟨tk,htk,h⟩:=withT_eq hr h
 split at h
 case h_2=>exact absurd h.symm hr
 rename_i b es k hm hk
 split at h
 case isFalse=>exact absurd h.symm hr
 rename_i hko
 unfold lookO at h
 split at h
 case h_2=>exact absurd h.symm hr
 rename_i r' z' hf hz
 exact ⟨ti,kt,et,tk,b,es,k,r',z',hti,hs,htk,hm,hk,hko,hf,hz,h.symm⟩
theorem flat_opP {σ:List SV} {η:List SB} {nb:Nat} {o:Oper} (h:∀ T x y ok,o.op≠.lookup T x y ok):(opP P Γ σ η nb o).flat:=by
 unfold opP
 split
 all_goals first
  | trivial
  | exact flat_vO
  | exact flat_old
  | (rename_i heq;exact absurd heq (h _ _ _ _))
  | skip
 all_goals
  repeat' first
   | trivial
   | exact flat_vO
   | exact flat_old
   | refine flat_withT (fun ti=>?_)
   | split
theorem flat_opH {lit fn:Bool} {σ:List SV} {η:List SB} {nb:Nat} {o:Oper} (h1:∀ T x y ok,o.op≠.lookup T x y ok) (h2:∀ f fs cs,o.op≠.makeFunc f fs cs) (h3:∀ x xs ts,o.op≠.call { callee:=.value x,args:=xs,argTypes:=ts }):(opH P Γ lit fn σ η nb o).flat:=by
 unfold opH
 split
 · exact flat_withT (fun _=>flat_nO)
 · split
   · exact flat_nO
   · trivial
 · split
   · exact flat_old
   · refine flat_withT (fun ti=>?_)
     split
     · refine flat_withT (fun te=>?_)
       repeat' split
       all_goals first | trivial | exact flat_nO
     · trivial
 · exact flat_nO
 · rename_i heq;exact absurd heq (h2 _ _ _)
 · exact flat_conv
 · rename_i c ho
   obtain ⟨ce,args,ats⟩:=c
   dsimp only
   split
   · exact absurd ho (h3 _ _ _)
   · split
     · split
       · split
         · refine flat_withT (fun ti=>?_)
           split
           · exact flat_vO
           · trivial
         · exact flat_old
       · trivial
     · split
       · split
         · refine flat_withT (fun ti=>?_)
           split
           · exact flat_app
           · trivial
         · trivial
       · trivial
     · split
       · exact flat_vO
       · trivial
     · repeat' split
       all_goals trivial
     · exact flat_old
     · exact flat_old
     · trivial
   · trivial
 · exact flat_opP h1
theorem opH_value {lit fn:Bool} {σ:List SV} {η:List SB} {nb:Nat} {o:Oper} {x:Operand} {xs:Array Operand} {ts:Array TypeId} (ho:o.op=.call { callee:=.value x,args:=xs,argTypes:=ts }):opH P Γ lit fn σ η nb o=callO P Γ σ η o x xs.toList:=by
 unfold opH
 rw [ho]
theorem opH_call {lit fn:Bool} {σ:List SV} {η:List SB} {nb:Nat} {o:Oper} {r:HO} (h:opH P Γ lit fn σ η nb o=r) (hr:(∃ f l rd rh bs,r=.callD f l rd rh bs)∨(∃ p l rd bs,r=.callF p l rd bs)∨(∃ f l rd,r=.callH f l rd)) :
 ∃ x xs ts,o.op=.call { callee:=.value x,args:=xs,argTypes:=ts }:=by
 apply Classical.byContradiction
 intro hn
 have h3:∀ x xs ts,o.op≠.call { callee:=.value x,args:=xs,argTypes:=ts }:=fun x xs ts e=>hn ⟨x,xs,ts,e⟩
 by_cases h1:∀ T x y ok,o.op≠.lookup T x y ok
 · by_cases h2:∀ f fs cs,o.op≠.makeFunc f fs cs
   · have:=flat_opH (P:=P) (Γ:=Γ) (lit:=lit) (fn:=fn) (σ:=σ) (η:=η) (nb:=nb) h1 h2 h3
     rw [h] at this
     rcases hr with ⟨_,_,_,_,_,rfl⟩ | ⟨_,_,_,_,rfl⟩ | ⟨_,_,_,rfl⟩<;>exact this
   · obtain ⟨f,hf⟩:=Classical.not_forall.1 h2
     obtain ⟨fs,hf⟩:=Classical.not_forall.1 hf
     obtain ⟨cs,hf⟩:=Classical.not_forall.1 hf
     have ho:=Classical.not_not.1 hf
     have hno:∀ r,((∃ f l rd rh bs,r=HO.callD f l rd rh bs)∨(∃ p l rd bs,r=HO.callF p l rd bs)∨(∃ f l rd,r=HO.callH f l rd))→opH P Γ lit fn σ η nb o≠r:=fun r hr e=>by
      unfold opH at e
      rw [ho] at e
      cases f with
      | func f=>
       dsimp only at e
       split at e
       · split at e
         · split at e
           · subst e;rcases hr with ⟨_,_,_,_,_,e⟩ | ⟨_,_,_,_,e⟩ | ⟨_,_,_,e⟩<;>cases e
           · subst e;rcases hr with ⟨_,_,_,_,_,e⟩ | ⟨_,_,_,_,e⟩ | ⟨_,_,_,e⟩<;>cases e
         · split at e
           · have:=flat_nO (o:=o) (rd:=orrL cs.toList) (rh:=[]) (x:=.one (.fnr nb)) (heff:=[]) (b:=.clo f (argsH Γ σ cs.toList))
             rw [e] at this
             rcases hr with ⟨_,_,_,_,_,rfl⟩ | ⟨_,_,_,_,rfl⟩ | ⟨_,_,_,rfl⟩<;>exact this
           · subst e;rcases hr with ⟨_,_,_,_,_,e⟩ | ⟨_,_,_,_,e⟩ | ⟨_,_,_,e⟩<;>cases e
       · subst e;rcases hr with ⟨_,_,_,_,_,e⟩ | ⟨_,_,_,_,e⟩ | ⟨_,_,_,e⟩<;>cases e
      | _=>
       dsimp only at e
       unfold opP at e
       rw [ho] at e
       dsimp only at e
       subst e
       rcases hr with ⟨_,_,_,_,_,e⟩ | ⟨_,_,_,_,e⟩ | ⟨_,_,_,e⟩<;>cases e
     exact hno r hr h
 · obtain ⟨T,hf⟩:=Classical.not_forall.1 h1
   obtain ⟨x,hf⟩:=Classical.not_forall.1 hf
   obtain ⟨y,hf⟩:=Classical.not_forall.1 hf
   obtain ⟨ok,hf⟩:=Classical.not_forall.1 hf
   have ho:=Classical.not_not.1 hf
   unfold opH at h
   rw [ho] at h
   dsimp only at h
   have hnb:r≠.bad:=fun e=>by
    subst e;rcases hr with ⟨_,_,_,_,_,e⟩ | ⟨_,_,_,_,e⟩ | ⟨_,_,_,e⟩<;>cases e
   obtain ⟨_,_,_,_,_,_,_,_,_,_,_,_,_,_,_,_,_,rfl⟩:=opP_lookup ho h hnb
   rcases hr with ⟨_,_,_,_,_,e⟩ | ⟨_,_,_,_,e⟩ | ⟨_,_,_,e⟩<;>cases e
theorem sound_ob {o:Oper} {σ:List SV} {η:List SB} {nb:Nat} {rd rh:List Nat} {eff:List (Nat×SV)} {heff:List (Nat×SB)} {ob:Option SB} (hl:∀ p∈heff,p.1<η.length)
 (h:∀ η',(η'=η∨η'=η++[.fresh])→roomO η' nb ob=true→HStep Γ P o σ η' rd (oN nb ob++rh) eff (heff++oB nb ob)):Sound Γ P o σ η nb rd rh eff heff ob:=by
 cases ob with
 | none=>
  have:=h η (.inl rfl) rfl
  simp only [oN,oB,List.nil_append,List.append_nil] at this
  exact this
 | some b=>
  refine ⟨fun hr=>h η (.inl rfl) hr,fun e=>?_⟩
  subst e
  exact PStep.new (h (η++[.fresh]) (.inr rfl) (show roomO (η++[.fresh]) η.length (some b)=true from roomB_push η)) hl
theorem callee_lt {σ : List SV} {η : List SB} {x : Operand} {f : FuncId} {caps : List SV} {rd rh : List Nat} (h : calleeH Γ σ η x = some (f, caps, rd, rh)) : ∀ b ∈ rh, b < η.length := by
 unfold calleeH at h
 split at h
 · cases h;intro b hb;cases hb
 · split at h
   · obtain ⟨f0,_,e⟩:=Option.map_eq_some_iff.1 h;cases e;intro b hb;cases hb
   · split at h
     · rename_i hgb
       cases h
       intro b hb
       simp only [List.mem_singleton] at hb
       subst hb
       exact (List.getElem?_eq_some_iff.1 (gB_some hgb (by simp))).1
     · cases h
   · cases h
 · cases h
theorem opH_callD {lit fn:Bool} {σ:List SV} {η:List SB} {nb:Nat} {o:Oper} {f:FuncId} {l:List AV} {rd rh bs:List Nat} (h:opH P Γ lit fn σ η nb o=.callD f l rd rh bs) {res:AV} (hc:CallsD Γ P f l res) {y:SV} {ob:Option SB} (hr:resS nb res=some (y,ob)) :
 Sound Γ P o σ η nb rd (rh++bs) (dstEff o y) (frzE η bs) ob:=by
 obtain ⟨x,xs,ts,ho⟩:=opH_call h (.inl ⟨_,_,_,_,_,rfl⟩)
 rw [opH_value ho] at h
 have ho':o.op=.call { callee:=.value x,args:=xs.toList.toArray,argTypes:=ts }:=by rw [ho]
 have hG:∀{f':FuncId} {caps:List SV} {rd' rh':List Nat},calleeH Γ σ η x=some (f',caps,rd',rh')→(∀ b∈rh',b<η.length)→callO.callG Γ σ η o xs.toList f' caps rd' rh'=.callD f l rd rh bs→Sound Γ P o σ η nb rd (rh++bs) (dstEff o y) (frzE η bs) ob:=fun {f' caps rd' rh'} hcal hlt hg=>by
  unfold callO.callG at hg
  split at hg
  · rename_i l' bs' ha
    cases hg
    have harr:=argsD_arr ha
    refine sound_ob (frzE_lt harr) (fun η' he hroom=>?_)
    have hgb:∀ b∈bs,gB η' b=gB η b:=fun b hb=>gB_or he (harr b hb)
    have hcal':=callee_congr (σ':=σ) (η':=η') hcal (fun _ _=>rfl) (fun b hb=>by
     rcases he with rfl | rfl
     · rfl
     · exact gB_app (hlt b hb))
    have:=s_callD (η:=η') ho' hcal' (argsD_congr ha hgb) hc hr hroom
    rw [frzE_congr hgb,List.append_assoc (oN nb ob)] at this
    exact this
  · split at hg<;>cases hg
 unfold callO at h
 split at h
 · split at h
   · split at h
     · unfold vO at h;repeat' split at h
       all_goals cases h
     · cases h
   · exact hG rfl (by simp) h
 · rename_i t
   split at h
   · split at h<;>cases h
   · split at h
     · rename_i f' caps rd' rh' hcal
       exact hG hcal (callee_lt hcal) h
     · cases h
 · cases h
theorem opH_callF {lit fn:Bool} {σ:List SV} {η:List SB} {nb:Nat} {o:Oper} {F:List AV→AV→Prop} {l:List AV} {rd bs:List Nat} (h:opH P Γ lit fn σ η nb o=.callF (FnSpecD Γ P F) l rd bs) {res:AV} (hc:F l res) {y:SV} {ob:Option SB} (hr:resS nb res=some (y,ob)) :
 Sound Γ P o σ η nb rd bs (dstEff o y) (frzE η bs) ob:=by
 obtain ⟨x,xs,ts,ho⟩:=opH_call h (.inr (.inl ⟨_,_,_,_,rfl⟩))
 rw [opH_value ho] at h
 have ho':o.op=.call { callee:=.value x,args:=xs.toList.toArray,argTypes:=ts }:=by rw [ho]
 have hno:∀{f':FuncId} {caps:List SV} {rd' rh':List Nat},callO.callG Γ σ η o xs.toList f' caps rd' rh'≠.callF (FnSpecD Γ P F) l rd bs:=fun {f' caps rd' rh'} hg=>by
  unfold callO.callG at hg
  split at hg
  · cases hg
  · split at hg<;>cases hg
 unfold callO at h
 split at h
 · split at h
   · split at h
     · unfold vO at h;repeat' split at h
       all_goals cases h
     · cases h
   · exact absurd h hno
 · rename_i t
   split at h
   · rename_i p ht
     split at h
     · rename_i l' bs' ha
       cases h
       have harr:=argsD_arr ha
       refine sound_ob (frzE_lt harr) (fun η' he hroom=>?_)
       have hgb:∀ b∈bs,gB η' b=gB η b:=fun b hb=>gB_or he (harr b hb)
       have:=s_callF (η:=η') ho' ht (argsD_congr ha hgb) hc hr hroom
       rw [frzE_congr hgb] at this
       exact this
     · cases h
   · split at h
     · exact absurd h hno
     · cases h
 · cases h
theorem opH_callH {lit fn:Bool} {σ:List SV} {η:List SB} {nb:Nat} {o:Oper} {f:FuncId} {l:List SV} {rd:List Nat} (h:opH P Γ lit fn σ η nb o=.callH f l rd) {η':List SB} {res:SV} (hc:CallsH Γ P f η l η' res) :
 PStep Γ P o σ η (appL (dstEff o res) σ) η'∧(∀ heff,η'=appL heff η→HStep Γ P o σ η rd (List.range η.length) (dstEff o res) heff):=by
 obtain ⟨x,xs,ts,ho⟩:=opH_call h (.inr (.inr ⟨_,_,_,rfl⟩))
 rw [opH_value ho] at h
 have ho':o.op=.call { callee:=.value x,args:=xs.toList.toArray,argTypes:=ts }:=by rw [ho]
 have hG:∀{f':FuncId} {caps:List SV} {rd' rh':List Nat},calleeH Γ σ η x=some (f',caps,rd',rh')→callO.callG Γ σ η o xs.toList f' caps rd' rh'=.callH f l rd→PStep Γ P o σ η (appL (dstEff o res) σ) η'∧(∀ heff,η'=appL heff η→HStep Γ P o σ η rd (List.range η.length) (dstEff o res) heff):=fun {f' caps rd' rh'} hcal hg=>by
  unfold callO.callG at hg
  split at hg
  · cases hg
  · split at hg
    · rename_i hnt
      cases hg
      exact ⟨p_callH ho' hcal hnt hc,fun heff e=>by subst e;exact s_callH ho' hcal hnt hc⟩
    · cases hg
 unfold callO at h
 split at h
 · split at h
   · split at h
     · unfold vO at h;repeat' split at h
       all_goals cases h
     · cases h
   · exact hG rfl h
 · rename_i t
   split at h
   · split at h<;>cases h
   · split at h
     · rename_i f' caps rd' rh' hcal;exact hG hcal h
     · cases h
 · cases h
theorem opH_mk {lit fn : Bool} {σ : List SV} {η : List SB} {nb : Nat} {o : Oper} {f : FuncId} {caps : List AV} {rd bs : List Nat} (h : opH P Γ lit fn σ η nb o = .mk f caps rd bs) {F : List AV → AV → Prop} (hcall : Callable P f) (hF : ∀ args res, F args res → CallsD Γ P f (args ++ caps) res) :
 HStep Γ P o σ η rd bs (dstEff o (.one (.dat (.fnp (FnSpecD Γ P F))))) (frzE η bs):=by
 by_cases hm:∃ g cs,o.op=.makeFunc (.func g) #[] cs
 · obtain ⟨g,cs,ho⟩:=hm
   unfold opH at h
   rw [ho] at h
   dsimp only at h
   split at h
   · split at h
     · rename_i l' bs' d ha hd
       cases h
       have:=s_mkF (η:=η) (σ:=σ) (o:=o) (xs:=cs.toList) (by rw [ho]) hd ha hcall hF
       unfold dstEff
       rw [hd]
       exact this
     · cases h
   · split at h
     · exfalso
       have:=flat_nO (o:=o) (rd:=orrL cs.toList) (rh:=[]) (x:=.one (.fnr nb)) (heff:=[]) (b:=.clo g (argsH Γ σ cs.toList))
       rw [h] at this
       exact this
     · cases h
 · exfalso
   by_cases hl:∃ T x y ok,o.op=.lookup T x y ok
   · obtain ⟨T,x,y,ok,ho⟩:=hl
     unfold opH at h
     rw [ho] at h
     dsimp only at h
     obtain ⟨_,_,_,_,_,_,_,_,_,_,_,_,_,_,_,_,_,e⟩:=opP_lookup ho h (by simp)
     cases e
   · by_cases hc:∃ x xs ts,o.op=.call { callee:=.value x,args:=xs,argTypes:=ts }
     · obtain ⟨x,xs,ts,ho⟩:=hc
       rw [opH_value ho] at h
       unfold callO callO.callG vO at h
       repeat' split at h
       all_goals cases h
     · by_cases hmf:∃ f fs cs,o.op=.makeFunc f fs cs
       · obtain ⟨g,fs,cs,ho⟩:=hmf
         unfold opH at h
         rw [ho] at h
         cases g with
         | func g=>
          dsimp only at h
          split at h
          · rename_i hfs
            exact hm ⟨g,cs,by rw [ho,show fs=#[] by rw [←Array.toArray_toList (xs:=fs),hfs]]⟩
          · cases h
         | _=>
          dsimp only at h
          unfold opP at h
          rw [ho] at h
          cases h
       · have:=flat_opH (P:=P) (Γ:=Γ) (lit:=lit) (fn:=fn) (σ:=σ) (η:=η) (nb:=nb) (o:=o) (fun T x y ok e=>hl ⟨T,x,y,ok,e⟩) (fun f fs cs e=>hmf ⟨f,fs,cs,e⟩) (fun x xs ts e=>hc ⟨x,xs,ts,e⟩)
         rw [h] at this
         exact this
theorem opH_look {lit fn:Bool} {σ:List SV} {η:List SB} {nb:Nat} {o:Oper} {r:Option SV} {zero:SV} {ok:Bool} {rd rh:List Nat} (h:opH P Γ lit fn σ η nb o=.look r zero ok rd rh):HStep Γ P o σ η rd rh (dstEff o (lookV ok r zero)) []∨o.dst=none:=by
 by_cases hl:∃ T x y ok,o.op=.lookup T x y ok
 · obtain ⟨T,x,y,ok',ho⟩:=hl
   unfold opH at h
   rw [ho] at h
   dsimp only at h
   obtain ⟨ti,kt,et,tk,b,es,k,r',z',hti,hs,htk,hm,hk,hko,hf,hz,e⟩:=opP_lookup ho h (by simp)
   cases e
   cases hd:o.dst with
   | none=>exact .inr rfl
   | some d=>
    left
    have:=s_lookup (η:=η) (σ:=σ) ho hd hti hs htk hm hk hko hf hz
    unfold dstEff dstRd
    rw [hd]
    exact this
 · exfalso
   by_cases hc:∃ x xs ts,o.op=.call { callee:=.value x,args:=xs,argTypes:=ts }
   · obtain ⟨x,xs,ts,ho⟩:=hc
     rw [opH_value ho] at h
     unfold callO callO.callG vO at h
     repeat' split at h
     all_goals cases h
   · by_cases hmf:∃ f fs cs,o.op=.makeFunc f fs cs
     · obtain ⟨g,fs,cs,ho⟩:=hmf
       unfold opH at h
       rw [ho] at h
       cases g with
       | func g=>
        dsimp only at h
        unfold nO at h
        repeat' split at h
        all_goals cases h
       | _=>
        dsimp only at h
        unfold opP at h
        rw [ho] at h
        cases h
     · have:=flat_opH (P:=P) (Γ:=Γ) (lit:=lit) (fn:=fn) (σ:=σ) (η:=η) (nb:=nb) (o:=o) (fun T x y ok e=>hl ⟨T,x,y,ok,e⟩) (fun f fs cs e=>hmf ⟨f,fs,cs,e⟩) (fun x xs ts e=>hc ⟨x,xs,ts,e⟩)
       rw [h] at this
       exact this
end Go.Hp
