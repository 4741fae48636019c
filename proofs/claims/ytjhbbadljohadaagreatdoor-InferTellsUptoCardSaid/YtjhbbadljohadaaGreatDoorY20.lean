/- The proof, part Y20: Ho. -/
import Derived.Test.YtjhbbadljohadaaGreatDoorY19
namespace Go.Hp
open Go Go.RowKit Go.Slot
variable {P:Program} {Γ:List (Nat×List Cell)}
def HO.flat:HO->Prop
 | .eff _ _ _ _ _=>True
 | .bad=>True
 | _=>False
theorem zf5 {t:TypeId} {k:TI->HO} (h:∀ ti,(k ti).flat):(zc0 P t k).flat:=by
 unfold zc0
 split
 · exact h _
 · trivial
theorem zp5 {o:Oper} {rd rh:List Nat} {x:Option SV}:(vO o rd rh x).flat:=by
 unfold vO
 repeat' split
 all_goals trivial
theorem zk8 {o:Oper} {rd rh:List Nat} {x:SV} {heff:List (Nat×SB)} {b:SB}:(nO o rd rh x heff b).flat:=by
 unfold nO
 split<;>trivial
theorem zhn {σ:List SV} {nb:Nat} {o:Oper}:(oldO P σ nb o).flat:=by
 unfold oldO oldR
 repeat' split
 all_goals trivial
theorem z5w {σ:List SV} {η:List SB} {nb:Nat} {o:Oper} {S D:TypeId} {x:Operand}:(z59 P Γ σ η nb o S D x).flat:=by
 unfold z59
 repeat' split
 all_goals first | trivial | exact zp5 | exact zhn
theorem ybh {η:List SB} {nb:Nat} {o:Oper} {x y:SV} {rd:List Nat} {e:TypeId} {es eb:Nat} {ik:Option IntKind}:(opH.appO η nb o x y rd e es eb ik).flat:=by
 unfold opH.appO
 repeat' split
 all_goals first | trivial | exact zk8
theorem zxx {t:TypeId} {k:TI->HO} {r:HO} (hr:r≠.bad) (h:zc0 P t k=r):∃ ti,mkTI P t=some ti/\k ti=r:=by
 unfold zc0 at h
 split at h
 · rename_i ti hti;exact ⟨ti,hti,h⟩
 · exact absurd h.symm hr
theorem zlr {σ:List SV} {η:List SB} {nb:Nat} {o:Oper} {T:TypeId} {x y:Operand} {ok:Bool} (ho:o.op=.lookup T x y ok) {r:HO} (h:opP P Γ σ η nb o=r) (hr:r≠.bad) :
 ∃ ti kt et tk b es k r0 z,mkTI P T=some ti/\ti.sh=.map kt et/\mkTI P kt=some tk/\zuf η (opdS Γ σ x)=some (b,es)/\keyV (opdS Γ σ y)=some k/\zjo tk.sh k=true/\zq8 es k=some r0/\zqy P et=some z/\r=.look r0 z ok (zdn o++(orr x++orr y)) [b]:=by
 unfold opP at h
 rw [ho] at h
 dsimp only at h
 obtain ⟨ti,hti,h⟩:=zxx hr h
 split at h
 case h_2=>exact absurd h.symm hr
 rename_i kt et hs
 obtain ⟨tk,htk,h⟩:=zxx hr h
 split at h
 case h_2=>exact absurd h.symm hr
 rename_i b es k hm hk
 split at h
 case isFalse=>exact absurd h.symm hr
 rename_i hko
 unfold yd2 at h
 split at h
 case h_2=>exact absurd h.symm hr
 rename_i r' z' hf hz
 exact ⟨ti,kt,et,tk,b,es,k,r',z',hti,hs,htk,hm,hk,hko,hf,hz,h.symm⟩
theorem z9b {σ:List SV} {η:List SB} {nb:Nat} {o:Oper} (h:∀ T x y ok,o.op≠.lookup T x y ok):(opP P Γ σ η nb o).flat:=by
 unfold opP
 split
 all_goals first
  | trivial
  | exact zp5
  | exact zhn
  | (rename_i heq;exact absurd heq (h _ _ _ _))
  | skip
 all_goals
  repeat' first
   | trivial
   | exact zp5
   | exact zhn
   | refine zf5 (fun ti=>?_)
   | split
theorem zs9 {lit fn:Bool} {σ:List SV} {η:List SB} {nb:Nat} {o:Oper} (h1:∀ T x y ok,o.op≠.lookup T x y ok) (h2:∀ f fs cs,o.op≠.makeFunc f fs cs) (h3:∀ x xs ts,o.op≠.call { callee:=.value x,args:=xs,argTypes:=ts }):(opH P Γ lit fn σ η nb o).flat:=by
 unfold opH
 split
 · exact zf5 (fun _=>zk8)
 · split
   · exact zk8
   · trivial
 · split
   · exact zhn
   · refine zf5 (fun ti=>?_)
     split
     · refine zf5 (fun te=>?_)
       repeat' split
       all_goals first | trivial | exact zk8
     · trivial
 · exact zk8
 · rename_i heq;exact absurd heq (h2 _ _ _)
 · exact z5w
 · rename_i c ho
   obtain ⟨ce,args,ats⟩:=c
   dsimp only
   split
   · exact absurd ho (h3 _ _ _)
   · split
     · split
       · split
         · refine zf5 (fun ti=>?_)
           split
           · exact zp5
           · trivial
         · exact zhn
       · trivial
     · split
       · split
         · refine zf5 (fun ti=>?_)
           split
           · exact ybh
           · trivial
         · trivial
       · trivial
     · split
       · exact zp5
       · trivial
     · repeat' split
       all_goals trivial
     · exact zhn
     · exact zhn
     · trivial
   · trivial
 · exact z9b h1
theorem zgu {lit fn:Bool} {σ:List SV} {η:List SB} {nb:Nat} {o:Oper} {x:Operand} {xs:Array Operand} {ts:Array TypeId} (ho:o.op=.call { callee:=.value x,args:=xs,argTypes:=ts }):opH P Γ lit fn σ η nb o=zen P Γ σ η o x xs.toList:=by
 unfold opH
 rw [ho]
theorem znh {lit fn:Bool} {σ:List SV} {η:List SB} {nb:Nat} {o:Oper} {r:HO} (h:opH P Γ lit fn σ η nb o=r) (hr:(∃ f l rd rh bs,r=.callD f l rd rh bs)∨(∃ p l rd bs,r=.callF p l rd bs)∨(∃ f l rd,r=.callH f l rd)) :
 ∃ x xs ts,o.op=.call { callee:=.value x,args:=xs,argTypes:=ts }:=by
 apply Classical.byContradiction
 intro hn
 have h3:∀ x xs ts,o.op≠.call { callee:=.value x,args:=xs,argTypes:=ts }:=fun x xs ts e=>hn ⟨x,xs,ts,e⟩
 by_cases h1:∀ T x y ok,o.op≠.lookup T x y ok
 · by_cases h2:∀ f fs cs,o.op≠.makeFunc f fs cs
   · have:=zs9 (P:=P) (Γ:=Γ) (lit:=lit) (fn:=fn) (σ:=σ) (η:=η) (nb:=nb) h1 h2 h3
     rw [h] at this
     rcases hr with ⟨_,_,_,_,_,rfl⟩ | ⟨_,_,_,_,rfl⟩ | ⟨_,_,_,rfl⟩<;>exact this
   · obtain ⟨f,hf⟩:=Classical.not_forall.1 h2
     obtain ⟨fs,hf⟩:=Classical.not_forall.1 hf
     obtain ⟨cs,hf⟩:=Classical.not_forall.1 hf
     have ho:=Classical.not_not.1 hf
     have hno:∀ r,((∃ f l rd rh bs,r=HO.callD f l rd rh bs)∨(∃ p l rd bs,r=HO.callF p l rd bs)∨(∃ f l rd,r=HO.callH f l rd))->opH P Γ lit fn σ η nb o≠r:=fun r hr e=>by
      unfold opH at e
      rw [ho] at e
      cases f with
      | func f=>
       dsimp only at e
       split at e
       · split at e
         · split at e
           · subst e;rcases hr with ⟨_,_,_,_,_,e⟩ | ⟨_,_,_,_,e⟩ | ⟨_,_,_,e⟩<;>cases e
           · subst e;rcases hr with ⟨_,_,_,_,_,e⟩ | ⟨_,_,_,_,e⟩ | ⟨_,_,_,e⟩<;>cases e
         · split at e
           · have:=zk8 (o:=o) (rd:=orrL cs.toList) (rh:=[]) (x:=.one (.fnr nb)) (heff:=[]) (b:=.clo f (zdm Γ σ cs.toList))
             rw [e] at this
             rcases hr with ⟨_,_,_,_,_,rfl⟩ | ⟨_,_,_,_,rfl⟩ | ⟨_,_,_,rfl⟩<;>exact this
           · subst e;rcases hr with ⟨_,_,_,_,_,e⟩ | ⟨_,_,_,_,e⟩ | ⟨_,_,_,e⟩<;>cases e
       · subst e;rcases hr with ⟨_,_,_,_,_,e⟩ | ⟨_,_,_,_,e⟩ | ⟨_,_,_,e⟩<;>cases e
      | _=>
       dsimp only at e
       unfold opP at e
       rw [ho] at e
       dsimp only at e
       subst e
       rcases hr with ⟨_,_,_,_,_,e⟩ | ⟨_,_,_,_,e⟩ | ⟨_,_,_,e⟩<;>cases e
     exact hno r hr h
 · obtain ⟨T,hf⟩:=Classical.not_forall.1 h1
   obtain ⟨x,hf⟩:=Classical.not_forall.1 hf
   obtain ⟨y,hf⟩:=Classical.not_forall.1 hf
   obtain ⟨ok,hf⟩:=Classical.not_forall.1 hf
   have ho:=Classical.not_not.1 hf
   unfold opH at h
   rw [ho] at h
   dsimp only at h
   have hnb:r≠.bad:=fun e=>by
    subst e;rcases hr with ⟨_,_,_,_,_,e⟩ | ⟨_,_,_,_,e⟩ | ⟨_,_,_,e⟩<;>cases e
   obtain ⟨_,_,_,_,_,_,_,_,_,_,_,_,_,_,_,_,_,rfl⟩:=zlr ho h hnb
   rcases hr with ⟨_,_,_,_,_,e⟩ | ⟨_,_,_,_,e⟩ | ⟨_,_,_,e⟩<;>cases e
theorem zzi {o:Oper} {σ:List SV} {η:List SB} {nb:Nat} {rd rh:List Nat} {eff:List (Nat×SV)} {heff:List (Nat×SB)} {ob:Option SB} (hl:∀ p∈heff,p.1<η.length)
 (h:∀ η',(η'=η∨η'=η++[.fresh])->zxp η' nb ob=true->zaf Γ P o σ η' rd (oN nb ob++rh) eff (heff++oB nb ob)):Sound Γ P o σ η nb rd rh eff heff ob:=by
 cases ob with
 | none=>
  have:=h η (.inl rfl) rfl
  simp only [oN,oB,List.nil_append,List.append_nil] at this
  exact this
 | some b=>
  refine ⟨fun hr=>h η (.inl rfl) hr,fun e=>?_⟩
  subst e
  exact zi9.new (h (η++[.fresh]) (.inr rfl) (show zxp (η++[.fresh]) η.length (some b)=true from zm2 η)) hl
theorem z4f {σ : List SV} {η : List SB} {x : Operand} {f : FuncId} {caps : List SV} {rd rh : List Nat} (h : zd3 Γ σ η x = some (f, caps, rd, rh)) : ∀ b ∈ rh, b < η.length := by
 unfold zd3 at h
 split at h
 · cases h;intro b hb;cases hb
 · split at h
   · obtain ⟨f0,_,e⟩:=Option.map_eq_some_iff.1 h;cases e;intro b hb;cases hb
   · split at h
     · rename_i hgb
       cases h
       intro b hb
       simp only [List.mem_singleton] at hb
       subst hb
       exact (List.getElem?_eq_some_iff.1 (zg8 hgb (by simp))).1
     · cases h
   · cases h
 · cases h
theorem zdi {lit fn:Bool} {σ:List SV} {η:List SB} {nb:Nat} {o:Oper} {f:FuncId} {l:List AV} {rd rh bs:List Nat} (h:opH P Γ lit fn σ η nb o=.callD f l rd rh bs) {res:AV} (hc:CallsD Γ P f l res) {y:SV} {ob:Option SB} (hr:resS nb res=some (y,ob)) :
 Sound Γ P o σ η nb rd (rh++bs) (zah o y) (frzE η bs) ob:=by
 obtain ⟨x,xs,ts,ho⟩:=znh h (.inl ⟨_,_,_,_,_,rfl⟩)
 rw [zgu ho] at h
 have ho':o.op=.call { callee:=.value x,args:=xs.toList.toArray,argTypes:=ts }:=by rw [ho]
 have hG:∀{f':FuncId} {caps:List SV} {rd' rh':List Nat},zd3 Γ σ η x=some (f',caps,rd',rh')->(∀ b∈rh',b<η.length)->zen.callG Γ σ η o xs.toList f' caps rd' rh'=.callD f l rd rh bs->Sound Γ P o σ η nb rd (rh++bs) (zah o y) (frzE η bs) ob:=fun {f' caps rd' rh'} hcal hlt hg=>by
  unfold zen.callG at hg
  split at hg
  · rename_i l' bs' ha
    cases hg
    have harr:=zdc ha
    refine zzi (zsc harr) (fun η' he hroom=>?_)
    have hgb:∀ b∈bs,gB η' b=gB η b:=fun b hb=>z80 he (harr b hb)
    have hcal':=zi7 (σ':=σ) (η':=η') hcal (fun _ _=>rfl) (fun b hb=>by
     rcases he with rfl | rfl
     · rfl
     · exact yej (hlt b hb))
    have:=yia (η:=η') ho' hcal' (zdw ha hgb) hc hr hroom
    rw [zbe hgb,List.append_assoc (oN nb ob)] at this
    exact this
  · split at hg<;>cases hg
 unfold zen at h
 split at h
 · split at h
   · split at h
     · unfold vO at h;repeat' split at h
       all_goals cases h
     · cases h
   · exact hG rfl (by simp) h
 · rename_i t
   split at h
   · split at h<;>cases h
   · split at h
     · rename_i f' caps rd' rh' hcal
       exact hG hcal (z4f hcal) h
     · cases h
 · cases h
theorem zkf {lit fn:Bool} {σ:List SV} {η:List SB} {nb:Nat} {o:Oper} {F:List AV->AV->Prop} {l:List AV} {rd bs:List Nat} (h:opH P Γ lit fn σ η nb o=.callF (zg9 Γ P F) l rd bs) {res:AV} (hc:F l res) {y:SV} {ob:Option SB} (hr:resS nb res=some (y,ob)) :
 Sound Γ P o σ η nb rd bs (zah o y) (frzE η bs) ob:=by
 obtain ⟨x,xs,ts,ho⟩:=znh h (.inr (.inl ⟨_,_,_,_,rfl⟩))
 rw [zgu ho] at h
 have ho':o.op=.call { callee:=.value x,args:=xs.toList.toArray,argTypes:=ts }:=by rw [ho]
 have hno:∀{f':FuncId} {caps:List SV} {rd' rh':List Nat},zen.callG Γ σ η o xs.toList f' caps rd' rh'≠.callF (zg9 Γ P F) l rd bs:=fun {f' caps rd' rh'} hg=>by
  unfold zen.callG at hg
  split at hg
  · cases hg
  · split at hg<;>cases hg
 unfold zen at h
 split at h
 · split at h
   · split at h
     · unfold vO at h;repeat' split at h
       all_goals cases h
     · cases h
   · exact absurd h hno
 · rename_i t
   split at h
   · rename_i p ht
     split at h
     · rename_i l' bs' ha
       cases h
       have harr:=zdc ha
       refine zzi (zsc harr) (fun η' he hroom=>?_)
       have hgb:∀ b∈bs,gB η' b=gB η b:=fun b hb=>z80 he (harr b hb)
       have:=yfv (η:=η') ho' ht (zdw ha hgb) hc hr hroom
       rw [zbe hgb] at this
       exact this
     · cases h
   · split at h
     · exact absurd h hno
     · cases h
 · cases h
theorem zlb {lit fn:Bool} {σ:List SV} {η:List SB} {nb:Nat} {o:Oper} {f:FuncId} {l:List SV} {rd:List Nat} (h:opH P Γ lit fn σ η nb o=.callH f l rd) {η':List SB} {res:SV} (hc:zaa Γ P f η l η' res) :
 zi9 Γ P o σ η (appL (zah o res) σ) η'/\(∀ heff,η'=appL heff η->zaf Γ P o σ η rd (List.range η.length) (zah o res) heff):=by
 obtain ⟨x,xs,ts,ho⟩:=znh h (.inr (.inr ⟨_,_,_,rfl⟩))
 rw [zgu ho] at h
 have ho':o.op=.call { callee:=.value x,args:=xs.toList.toArray,argTypes:=ts }:=by rw [ho]
 have hG:∀{f':FuncId} {caps:List SV} {rd' rh':List Nat},zd3 Γ σ η x=some (f',caps,rd',rh')->zen.callG Γ σ η o xs.toList f' caps rd' rh'=.callH f l rd->zi9 Γ P o σ η (appL (zah o res) σ) η'/\(∀ heff,η'=appL heff η->zaf Γ P o σ η rd (List.range η.length) (zah o res) heff):=fun {f' caps rd' rh'} hcal hg=>by
  unfold zen.callG at hg
  split at hg
  · cases hg
  · split at hg
    · rename_i hnt
      cases hg
      exact ⟨z45 ho' hcal hnt hc,fun heff e=>by subst e;exact yhk ho' hcal hnt hc⟩
    · cases hg
 unfold zen at h
 split at h
 · split at h
   · split at h
     · unfold vO at h;repeat' split at h
       all_goals cases h
     · cases h
   · exact hG rfl h
 · rename_i t
   split at h
   · split at h<;>cases h
   · split at h
     · rename_i f' caps rd' rh' hcal;exact hG hcal h
     · cases h
 · cases h
theorem ye4 {lit fn : Bool} {σ : List SV} {η : List SB} {nb : Nat} {o : Oper} {f : FuncId} {caps : List AV} {rd bs : List Nat} (h : opH P Γ lit fn σ η nb o = .mk f caps rd bs) {F : List AV → AV → Prop} (za3 : zc1 P f) (hF : ∀ args res, F args res → CallsD Γ P f (args ++ caps) res) :
 zaf Γ P o σ η rd bs (zah o (.one (.dat (.fnp (zg9 Γ P F))))) (frzE η bs):=by
 by_cases hm:∃ g cs,o.op=.makeFunc (.func g) #[] cs
 · obtain ⟨g,cs,ho⟩:=hm
   unfold opH at h
   rw [ho] at h
   dsimp only at h
   split at h
   · split at h
     · rename_i l' bs' d ha hd
       cases h
       have:=yns (η:=η) (σ:=σ) (o:=o) (xs:=cs.toList) (by rw [ho]) hd ha za3 hF
       unfold zah
       rw [hd]
       exact this
     · cases h
   · split at h
     · exfalso
       have:=zk8 (o:=o) (rd:=orrL cs.toList) (rh:=[]) (x:=.one (.fnr nb)) (heff:=[]) (b:=.clo g (zdm Γ σ cs.toList))
       rw [h] at this
       exact this
     · cases h
 · exfalso
   by_cases hl:∃ T x y ok,o.op=.lookup T x y ok
   · obtain ⟨T,x,y,ok,ho⟩:=hl
     unfold opH at h
     rw [ho] at h
     dsimp only at h
     obtain ⟨_,_,_,_,_,_,_,_,_,_,_,_,_,_,_,_,_,e⟩:=zlr ho h (by simp)
     cases e
   · by_cases hc:∃ x xs ts,o.op=.call { callee:=.value x,args:=xs,argTypes:=ts }
     · obtain ⟨x,xs,ts,ho⟩:=hc
       rw [zgu ho] at h
       unfold zen zen.callG vO at h
       repeat' split at h
       all_goals cases h
     · by_cases hmf:∃ f fs cs,o.op=.makeFunc f fs cs
       · obtain ⟨g,fs,cs,ho⟩:=hmf
         unfold opH at h
         rw [ho] at h
         cases g with
         | func g=>
          dsimp only at h
          split at h
          · rename_i hfs
            exact hm ⟨g,cs,by rw [ho,show fs=#[] by rw [<-Array.toArray_toList (xs:=fs),hfs]]⟩
          · cases h
         | _=>
          dsimp only at h
          unfold opP at h
          rw [ho] at h
          cases h
       · have:=zs9 (P:=P) (Γ:=Γ) (lit:=lit) (fn:=fn) (σ:=σ) (η:=η) (nb:=nb) (o:=o) (fun T x y ok e=>hl ⟨T,x,y,ok,e⟩) (fun f fs cs e=>hmf ⟨f,fs,cs,e⟩) (fun x xs ts e=>hc ⟨x,xs,ts,e⟩)
         rw [h] at this
         exact this
theorem znv {lit fn:Bool} {σ:List SV} {η:List SB} {nb:Nat} {o:Oper} {r:Option SV} {zero:SV} {ok:Bool} {rd rh:List Nat} (h:opH P Γ lit fn σ η nb o=.look r zero ok rd rh):zaf Γ P o σ η rd rh (zah o (zkp ok r zero)) []∨o.dst=none:=by
 by_cases hl:∃ T x y ok,o.op=.lookup T x y ok
 · obtain ⟨T,x,y,ok',ho⟩:=hl
   unfold opH at h
   rw [ho] at h
   dsimp only at h
   obtain ⟨ti,kt,et,tk,b,es,k,r',z',hti,hs,htk,hm,hk,hko,hf,hz,e⟩:=zlr ho h (by simp)
   cases e
   cases hd:o.dst with
   | none=>exact .inr rfl
   | some d=>
    left
    have:=z9r (η:=η) (σ:=σ) ho hd hti hs htk hm hk hko hf hz
    unfold zah zdn
    rw [hd]
    exact this
 · exfalso
   by_cases hc:∃ x xs ts,o.op=.call { callee:=.value x,args:=xs,argTypes:=ts }
   · obtain ⟨x,xs,ts,ho⟩:=hc
     rw [zgu ho] at h
     unfold zen zen.callG vO at h
     repeat' split at h
     all_goals cases h
   · by_cases hmf:∃ f fs cs,o.op=.makeFunc f fs cs
     · obtain ⟨g,fs,cs,ho⟩:=hmf
       unfold opH at h
       rw [ho] at h
       cases g with
       | func g=>
        dsimp only at h
        unfold nO at h
        repeat' split at h
        all_goals cases h
       | _=>
        dsimp only at h
        unfold opP at h
        rw [ho] at h
        cases h
     · have:=zs9 (P:=P) (Γ:=Γ) (lit:=lit) (fn:=fn) (σ:=σ) (η:=η) (nb:=nb) (o:=o) (fun T x y ok e=>hl ⟨T,x,y,ok,e⟩) (fun f fs cs e=>hmf ⟨f,fs,cs,e⟩) (fun x xs ts e=>hc ⟨x,xs,ts,e⟩)
       rw [h] at this
       exact this
end Go.Hp
