/- The proof, part Y13: Ho, Hp. -/
import Derived.Test.YtocdljjhobaabaaGreatDoorY12
namespace Go.Hp
open Go Go.RowKit Go.Slot
variable {P:Program} {Γ:List (Nat×List Cell)}
def HO.flat:HO->Prop
 | .eff _ _ _ _ _=>True
 | .bad=>True
 | _=>False
theorem z8c {t:TypeId} {k:TI->HO} (h:∀ ti,(k ti).flat):(v0y P t k).flat:=by
 unfold v0y
 split
 . exact h _
 . trivial
theorem vqx {o:Oper} {rd rh:List Nat} {x:Option SV}:(vO o rd rh x).flat:=by
 unfold vO
 repeat' split
 all_goals trivial
theorem ya1 {o:Oper} {rd rh:List Nat} {x:SV} {heff:List (Nat×SB)} {b:SB}:(nO o rd rh x heff b).flat:=by
 unfold nO
 split<;>trivial
theorem vvn {σ:List SV} {nb:Nat} {o:Oper}:(oldO P σ nb o).flat:=by
 unfold oldO oldR
 repeat' split
 all_goals trivial
theorem xbd {σ:List SV} {η:List SB} {nb:Nat} {o:Oper} {S D:TypeId} {x:Operand}:(zwu P Γ σ η nb o S D x).flat:=by
 unfold zwu
 repeat' split
 all_goals first | trivial | exact vqx | exact vvn
theorem yg1 {η:List SB} {nb:Nat} {o:Oper} {x y:SV} {rd:List Nat} {e:TypeId} {es eb:Nat} {ik:Option IntKind}:(opH.appO η nb o x y rd e es eb ik).flat:=by
 unfold opH.appO
 repeat' split
 all_goals first | trivial | exact ya1
theorem xau {t:TypeId} {k:TI->HO} {r:HO} (hr:r≠.bad) (h:v0y P t k=r):∃ ti,mkTI P t=some ti/\k ti=r:=by
 unfold v0y at h;split at h
 . rename_i ti hti;exact ⟨ti,hti,h⟩
 . exact absurd h.symm hr
theorem w8v {σ:List SV} {η:List SB} {nb:Nat} {o:Oper} {T:TypeId} {x y:Operand} {ok:Bool} (ho:o.op=.lookup T x y ok) {r:HO} (h:opP P Γ σ η nb o=r) (hr:r≠.bad) :
 ∃ ti kt et tk b es k r0 z,mkTI P T=some ti/\ti.sh=.map kt et/\mkTI P kt=some tk/\ve1 η (opdS Γ σ x)=some (b,es)/\keyX (opdS Γ σ y)=some k/\zw0 P kt tk.sh k=true/\y1p es k=some r0/\yz9 P et=some z/\r=.look r0 z ok (zny o++(orr x++orr y)) [b]:=by
 unfold opP at h;rw [ho] at h;dsimp only at h;obtain ⟨ti,hti,h⟩:=xau hr h;split at h
 case h_2=>exact absurd h.symm hr
 rename_i kt et hs;obtain ⟨tk,htk,h⟩:=xau hr h;split at h
 case h_2=>exact absurd h.symm hr
 rename_i b es k hm hk;split at h
 case isFalse=>exact absurd h.symm hr
 rename_i hko;unfold wst at h;split at h
 case h_2=>exact absurd h.symm hr
 rename_i r' z' hf hz;exact ⟨ti,kt,et,tk,b,es,k,r',z',hti,hs,htk,hm,hk,hko,hf,hz,h.symm⟩
theorem x8n {σ:List SV} {η:List SB} {nb:Nat} {o:Oper} (h:∀ T x y ok,o.op≠.lookup T x y ok):(opP P Γ σ η nb o).flat:=by
 unfold opP
 split
 all_goals first
  | trivial
  | exact vqx
  | exact vvn
  | (rename_i heq;exact absurd heq (h _ _ _ _))
  | skip
 all_goals
  repeat' first
   | trivial
   | exact vqx
   | exact vvn
   | refine z8c (fun ti=>?_)
   | split
theorem xut {lit fn:Bool} {σ:List SV} {η:List SB} {nb:Nat} {o:Oper} (h1:∀ T x y ok,o.op≠.lookup T x y ok) (h2:∀ f fs cs,o.op≠.makeFunc f fs cs) (h3:∀ x xs ts,o.op≠.call { callee:=.value x,args:=xs,argTypes:=ts }):(opH P Γ lit fn σ η nb o).flat:=by
 unfold opH
 split
 . exact z8c (fun _=>ya1)
 . split
   . exact ya1
   . trivial
 . split
   . exact vvn
   . refine z8c (fun ti=>?_)
     split
     . refine z8c (fun te=>?_)
       repeat' split
       all_goals first | trivial | exact ya1
     . trivial
 . exact ya1
 . rename_i heq;exact absurd heq (h2 _ _ _)
 . exact xbd
 . rename_i c ho;obtain ⟨ce,args,ats⟩:=c;dsimp only
   split
   . exact absurd ho (h3 _ _ _)
   . split
     . split
       . split
         . refine z8c (fun ti=>?_)
           split
           . exact vqx
           . trivial
         . exact vvn
       . trivial
     . split
       . split
         . refine z8c (fun ti=>?_)
           split
           . exact yg1
           . trivial
         . trivial
       . trivial
     . split
       . exact vqx
       . trivial
     . repeat' split
       all_goals trivial
     . exact vvn
     . exact vvn
     . trivial
   . trivial
 . exact x8n h1
theorem xvr {lit fn:Bool} {σ:List SV} {η:List SB} {nb:Nat} {o:Oper} {x:Operand} {xs:Array Operand} {ts:Array TypeId} (ho:o.op=.call { callee:=.value x,args:=xs,argTypes:=ts }):opH P Γ lit fn σ η nb o=y2d P Γ (z7i lit fn) σ η o x xs.toList:=by
 unfold opH;rw [ho]
theorem vf5 {lit fn:Bool} {σ:List SV} {η:List SB} {nb:Nat} {o:Oper} {r:HO} (h:opH P Γ lit fn σ η nb o=r) (hr:(∃ f l rd rh bs,r=.callD f l rd rh bs)\/(∃ p l rd bs,r=.callF p l rd bs)\/(∃ f l rd,r=.callH f l rd)) :
 ∃ x xs ts,o.op=.call { callee:=.value x,args:=xs,argTypes:=ts }:=by
 apply Classical.byContradiction;intro hn
 have h3:∀ x xs ts,o.op≠.call { callee:=.value x,args:=xs,argTypes:=ts }:=fun x xs ts e=>hn ⟨x,xs,ts,e⟩
 by_cases h1:∀ T x y ok,o.op≠.lookup T x y ok
 . by_cases h2:∀ f fs cs,o.op≠.makeFunc f fs cs
   . have:=xut (P:=P) (Γ:=Γ) (lit:=lit) (fn:=fn) (σ:=σ) (η:=η) (nb:=nb) h1 h2 h3
     rw [h] at this
     rcases hr with ⟨_,_,_,_,_,rfl⟩ | ⟨_,_,_,_,rfl⟩ | ⟨_,_,_,rfl⟩<;>exact this
   . obtain ⟨f,hf⟩:=Classical.not_forall.1 h2;obtain ⟨fs,hf⟩:=Classical.not_forall.1 hf;obtain ⟨cs,hf⟩:=Classical.not_forall.1 hf;have ho:=Classical.not_not.1 hf
     have hno:∀ r,((∃ f l rd rh bs,r=HO.callD f l rd rh bs)\/(∃ p l rd bs,r=HO.callF p l rd bs)\/(∃ f l rd,r=HO.callH f l rd))->opH P Γ lit fn σ η nb o≠r:=fun r hr e=>by
      unfold opH at e;rw [ho] at e
      cases f with
      | func f=>
       dsimp only at e;split at e
       . split at e
         . split at e
           . subst e;rcases hr with ⟨_,_,_,_,_,e⟩ | ⟨_,_,_,_,e⟩ | ⟨_,_,_,e⟩<;>cases e
           . subst e;rcases hr with ⟨_,_,_,_,_,e⟩ | ⟨_,_,_,_,e⟩ | ⟨_,_,_,e⟩<;>cases e
         . split at e
           . have:=ya1 (o:=o) (rd:=orrL cs.toList) (rh:=[]) (x:=.one (.fnr nb)) (heff:=[]) (b:=.clo f (yvs Γ σ cs.toList))
             rw [e] at this
             rcases hr with ⟨_,_,_,_,_,rfl⟩ | ⟨_,_,_,_,rfl⟩ | ⟨_,_,_,rfl⟩<;>exact this
           . subst e;rcases hr with ⟨_,_,_,_,_,e⟩ | ⟨_,_,_,_,e⟩ | ⟨_,_,_,e⟩<;>cases e
       . subst e;rcases hr with ⟨_,_,_,_,_,e⟩ | ⟨_,_,_,_,e⟩ | ⟨_,_,_,e⟩<;>cases e
      | _=>
       dsimp only at e;unfold opP at e;rw [ho] at e;dsimp only at e;subst e
       rcases hr with ⟨_,_,_,_,_,e⟩ | ⟨_,_,_,_,e⟩ | ⟨_,_,_,e⟩<;>cases e
     exact hno r hr h
 . obtain ⟨T,hf⟩:=Classical.not_forall.1 h1;obtain ⟨x,hf⟩:=Classical.not_forall.1 hf;obtain ⟨y,hf⟩:=Classical.not_forall.1 hf;obtain ⟨ok,hf⟩:=Classical.not_forall.1 hf;have ho:=Classical.not_not.1 hf;unfold opH at h;rw [ho] at h;dsimp only at h
   have hnb:r≠.bad:=fun e=>by
    subst e;rcases hr with ⟨_,_,_,_,_,e⟩ | ⟨_,_,_,_,e⟩ | ⟨_,_,_,e⟩<;>cases e
   obtain ⟨_,_,_,_,_,_,_,_,_,_,_,_,_,_,_,_,_,rfl⟩:=w8v ho h hnb
   rcases hr with ⟨_,_,_,_,_,e⟩ | ⟨_,_,_,_,e⟩ | ⟨_,_,_,e⟩<;>cases e
theorem xds {o:Oper} {σ:List SV} {η:List SB} {nb:Nat} {rd rh:List Nat} {eff:List (Nat×SV)} {heff:List (Nat×SB)} {ob:Option SB} (hl:∀ p∈heff,p.1<η.length)
 (h:∀ η',(η'=η\/η'=η++[.fresh])->vgw η' nb ob=true->xlu Γ P o σ η' rd (oN nb ob++rh) eff (heff++oB nb ob)):Sound Γ P o σ η nb rd rh eff heff ob:=by
 cases ob with
 | none=>
  have:=h η (.inl rfl) rfl
  simp only [oN,oB,List.nil_append,List.append_nil] at this;exact this
 | some b=>
  refine ⟨fun hr=>h η (.inl rfl) hr,fun e=>?_⟩;subst e;exact van.new (h (η++[.fresh]) (.inr rfl) (show vgw (η++[.fresh]) η.length (some b)=true from ylp η)) hl
theorem w6k {σ : List SV} {η : List SB} {x : Operand} {f : FuncId} {caps : List SV} {rd rh : List Nat} (h : zw9 Γ σ η x = some (f, caps, rd, rh)) : ∀ b ∈ rh, b < η.length := by
 unfold zw9 at h;split at h
 . cases h;intro b hb;cases hb
 . split at h
   . obtain ⟨f0,_,e⟩:=Option.map_eq_some_iff.1 h;cases e;intro b hb;cases hb
   . split at h
     . rename_i hgb
       cases h;intro b hb;simp only [List.mem_singleton] at hb;subst hb;exact (List.getElem?_eq_some_iff.1 (ynn hgb (by simp))).1
     . cases h
   . cases h
 . cases h
theorem x2a {lit fn:Bool} {σ:List SV} {η:List SB} {nb:Nat} {o:Oper} {f:FuncId} {l:List AV} {rd rh bs:List Nat} (h:opH P Γ lit fn σ η nb o=.callD f l rd rh bs) {res:AV} (hc:CallsD Γ P f l res) {y:SV} {ob:Option SB} (hr:resS nb res=some (y,ob)) :
 Sound Γ P o σ η nb rd (rh++bs) (yph o y) (frzE η bs) ob:=by
 obtain ⟨x,xs,ts,ho⟩:=vf5 h (.inl ⟨_,_,_,_,_,rfl⟩);rw [xvr ho] at h
 have ho':o.op=.call { callee:=.value x,args:=xs.toList.toArray,argTypes:=ts }:=by rw [ho]
 have hG:∀{f':FuncId} {caps:List SV} {rd' rh':List Nat},zw9 Γ σ η x=some (f',caps,rd',rh')->(∀ b∈rh',b<η.length)->y2d.callG Γ (z7i lit fn) σ η o xs.toList f' caps rd' rh'=.callD f l rd rh bs->Sound Γ P o σ η nb rd (rh++bs) (yph o y) (frzE η bs) ob:=fun {f' caps rd' rh'} hcal hlt hg=>by
  unfold y2d.callG at hg;split at hg
  . rename_i l' bs' ha;have ha:=whr ha
    cases hg;have harr:=v8b ha;refine xds (vne harr) (fun η' he hroom=>?_)
    have hgb:∀ b∈bs,gB η' b=gB η b:=fun b hb=>y15 he (harr b hb)
    have hcal':=vwy (σ':=σ) (η':=η') hcal (fun _ _=>rfl) (fun b hb=>by
     rcases he with rfl | rfl
     . rfl
     . exact zsy (hlt b hb))
    have:=ys3 (η:=η') ho' hcal' (y93 ha hgb) hc hr hroom
    rw [xuq hgb,List.append_assoc (oN nb ob)] at this;exact this
  . split at hg<;>cases hg
 unfold y2d at h;split at h
 . split at h
   . split at h
     . unfold vO at h;repeat' split at h
       all_goals cases h
     . cases h
   . exact hG rfl (by simp) h
 . rename_i t;split at h
   . split at h<;>cases h
   . split at h
     . rename_i f' caps rd' rh' hcal;exact hG hcal (w6k hcal) h
     . cases h
 . cases h
theorem wt7 {lit fn:Bool} {σ:List SV} {η:List SB} {nb:Nat} {o:Oper} {F:List AV->AV->Prop} {l:List AV} {rd bs:List Nat} (h:opH P Γ lit fn σ η nb o=.callF (yjp Γ P F) l rd bs) {res:AV} (hc:F l res) {y:SV} {ob:Option SB} (hr:resS nb res=some (y,ob)) :
 Sound Γ P o σ η nb rd bs (yph o y) (frzE η bs) ob:=by
 obtain ⟨x,xs,ts,ho⟩:=vf5 h (.inr (.inl ⟨_,_,_,_,rfl⟩));rw [xvr ho] at h
 have ho':o.op=.call { callee:=.value x,args:=xs.toList.toArray,argTypes:=ts }:=by rw [ho]
 have hno:∀{f':FuncId} {caps:List SV} {rd' rh':List Nat},y2d.callG Γ (z7i lit fn) σ η o xs.toList f' caps rd' rh'≠.callF (yjp Γ P F) l rd bs:=fun {f' caps rd' rh'} hg=>by
  unfold y2d.callG at hg;split at hg
  . cases hg
  . split at hg<;>cases hg
 unfold y2d at h;split at h
 . split at h
   . split at h
     . unfold vO at h;repeat' split at h
       all_goals cases h
     . cases h
   . exact absurd h hno
 . rename_i t;split at h
   . rename_i p ht;split at h
     . rename_i l' bs' ha
       cases h;have harr:=v8b ha;refine xds (vne harr) (fun η' he hroom=>?_)
       have hgb:∀ b∈bs,gB η' b=gB η b:=fun b hb=>y15 he (harr b hb)
       have:=ytn (η:=η') ho' ht (y93 ha hgb) hc hr hroom
       rw [xuq hgb] at this;exact this
     . cases h
   . split at h
     . exact absurd h hno
     . cases h
 . cases h
theorem xrw {lit fn:Bool} {σ:List SV} {η:List SB} {nb:Nat} {o:Oper} {f:FuncId} {l:List SV} {rd:List Nat} (h:opH P Γ lit fn σ η nb o=.callH f l rd) {η':List SB} {res:SV} (hc:xgj Γ P f η l η' res) :
 van Γ P o σ η (appL (yph o res) σ) η'/\(∀ heff,η'=appL heff η->xlu Γ P o σ η rd (List.range η.length) (yph o res) heff):=by
 obtain ⟨x,xs,ts,ho⟩:=vf5 h (.inr (.inr ⟨_,_,_,rfl⟩));rw [xvr ho] at h
 have ho':o.op=.call { callee:=.value x,args:=xs.toList.toArray,argTypes:=ts }:=by rw [ho]
 have hG:∀{f':FuncId} {caps:List SV} {rd' rh':List Nat},zw9 Γ σ η x=some (f',caps,rd',rh')->y2d.callG Γ (z7i lit fn) σ η o xs.toList f' caps rd' rh'=.callH f l rd->van Γ P o σ η (appL (yph o res) σ) η'/\(∀ heff,η'=appL heff η->xlu Γ P o σ η rd (List.range η.length) (yph o res) heff):=fun {f' caps rd' rh'} hcal hg=>by
  unfold y2d.callG at hg;split at hg
  . cases hg
  . split at hg
    . rename_i hnt
      cases hg;exact ⟨x90 ho' hcal hnt hc,fun heff e=>by subst e;exact wau ho' hcal hnt hc⟩
    . cases hg
 unfold y2d at h;split at h
 . split at h
   . split at h
     . unfold vO at h;repeat' split at h
       all_goals cases h
     . cases h
   . exact hG rfl h
 . rename_i t;split at h
   . split at h<;>cases h
   . split at h
     . rename_i f' caps rd' rh' hcal;exact hG hcal h
     . cases h
 . cases h
theorem vg1 {lit fn : Bool} {σ : List SV} {η : List SB} {nb : Nat} {o : Oper} {f : FuncId} {caps : List AV} {rd bs : List Nat} (h : opH P Γ lit fn σ η nb o = .mk f caps rd bs) {F : List AV → AV → Prop} (v47 : za1 P f) (hF : ∀ args res, F args res → CallsD Γ P f (args ++ caps) res) :
 xlu Γ P o σ η rd bs (yph o (.one (.dat (.fnp (yjp Γ P F))))) (frzE η bs):=by
 by_cases hm:∃ g cs,o.op=.makeFunc (.func g) #[] cs
 . obtain ⟨g,cs,ho⟩:=hm;unfold opH at h;rw [ho] at h;dsimp only at h;split at h
   . split at h
     . rename_i l' bs' d ha hd
       cases h
       have:=x0v (η:=η) (σ:=σ) (o:=o) (xs:=cs.toList) (by rw [ho]) hd ha v47 hF
       unfold yph;rw [hd];exact this
     . cases h
   . split at h
     . exfalso
       have:=ya1 (o:=o) (rd:=orrL cs.toList) (rh:=[]) (x:=.one (.fnr nb)) (heff:=[]) (b:=.clo g (yvs Γ σ cs.toList))
       rw [h] at this;exact this
     . cases h
 . exfalso;by_cases hl:∃ T x y ok,o.op=.lookup T x y ok
   . obtain ⟨T,x,y,ok,ho⟩:=hl;unfold opH at h;rw [ho] at h;dsimp only at h;obtain ⟨_,_,_,_,_,_,_,_,_,_,_,_,_,_,_,_,_,e⟩:=w8v ho h (by simp)
     cases e
   . by_cases hc:∃ x xs ts,o.op=.call { callee:=.value x,args:=xs,argTypes:=ts }
     . obtain ⟨x,xs,ts,ho⟩:=hc;rw [xvr ho] at h;unfold y2d y2d.callG vO at h
       repeat' split at h
       all_goals cases h
     . by_cases hmf:∃ f fs cs,o.op=.makeFunc f fs cs
       . obtain ⟨g,fs,cs,ho⟩:=hmf;unfold opH at h;rw [ho] at h
         cases g with
         | func g=>
          dsimp only at h;split at h
          . rename_i hfs;exact hm ⟨g,cs,by rw [ho,show fs=#[] by rw [<-Array.toArray_toList (xs:=fs),hfs]]⟩
          . cases h
         | _=>
          dsimp only at h;unfold opP at h;rw [ho] at h
          cases h
       . have:=xut (P:=P) (Γ:=Γ) (lit:=lit) (fn:=fn) (σ:=σ) (η:=η) (nb:=nb) (o:=o) (fun T x y ok e=>hl ⟨T,x,y,ok,e⟩) (fun f fs cs e=>hmf ⟨f,fs,cs,e⟩) (fun x xs ts e=>hc ⟨x,xs,ts,e⟩)
         rw [h] at this;exact this
theorem x2o {lit fn:Bool} {σ:List SV} {η:List SB} {nb:Nat} {o:Oper} {r:Option SV} {zero:SV} {ok:Bool} {rd rh:List Nat} (h:opH P Γ lit fn σ η nb o=.look r zero ok rd rh):xlu Γ P o σ η rd rh (yph o (y2m ok r zero)) []\/o.dst=none:=by
 by_cases hl:∃ T x y ok,o.op=.lookup T x y ok
 . obtain ⟨T,x,y,ok',ho⟩:=hl;unfold opH at h;rw [ho] at h;dsimp only at h;obtain ⟨ti,kt,et,tk,b,es,k,r',z',hti,hs,htk,hm,hk,hko,hf,hz,e⟩:=w8v ho h (by simp)
   cases e
   cases hd:o.dst with
   | none=>exact .inr rfl
   | some d=>
    left
    have:=z4u (η:=η) (σ:=σ) ho hd hti hs htk hm hk hko hf hz
    unfold yph zny;rw [hd];exact this
 . exfalso;by_cases hc:∃ x xs ts,o.op=.call { callee:=.value x,args:=xs,argTypes:=ts }
   . obtain ⟨x,xs,ts,ho⟩:=hc;rw [xvr ho] at h;unfold y2d y2d.callG vO at h
     repeat' split at h
     all_goals cases h
   . by_cases hmf:∃ f fs cs,o.op=.makeFunc f fs cs
     . obtain ⟨g,fs,cs,ho⟩:=hmf;unfold opH at h;rw [ho] at h
       cases g with
       | func g=>
        dsimp only at h;unfold nO at h
        repeat' split at h
        all_goals cases h
       | _=>
        dsimp only at h;unfold opP at h;rw [ho] at h
        cases h
     . have:=xut (P:=P) (Γ:=Γ) (lit:=lit) (fn:=fn) (σ:=σ) (η:=η) (nb:=nb) (o:=o) (fun T x y ok e=>hl ⟨T,x,y,ok,e⟩) (fun f fs cs e=>hmf ⟨f,fs,cs,e⟩) (fun x xs ts e=>hc ⟨x,xs,ts,e⟩)
       rw [h] at this;exact this
theorem y6z {E:HEnv} {ρ:Nat->Value} {σ:List SV} {η:List SB} {a:Act} {w:World} {ops:Array Oper} {j d:Nat} (hj:(ops[j]?).bind (·.dst)=some d) (hd:d<σ.length) (hI:RI Γ E ρ σ η a w) :
 (∀ b,gtS σ d=.one (.dat (.raw (.bool b)))->yielded ops a.tmps j=some b)/\(gtS σ d=.undef->yielded ops a.tmps j=none):=by
 have hs:=hI.gt d
 have hlt:d<a.tmps.size:=by rw [hI.hs];exact hd
 unfold yielded;rw [hj];simp only [Option.bind_some];constructor
 . intro b hb;rw [hb] at hs;have e:a.tmps.getD d Go.undef=.bool b:=RdC.xcn hs;rw [Array.getElem?_eq_getElem hlt];rw [Array.getD_eq_getD_getElem?,Array.getElem?_eq_getElem hlt] at e;simp at e;rw [e]
 . intro hb;rw [hb] at hs;have e:a.tmps.getD d Go.undef=Go.undef:=hs;rw [Array.getElem?_eq_getElem hlt];rw [Array.getD_eq_getD_getElem?,Array.getElem?_eq_getElem hlt] at e;simp at e;rw [e];rfl
theorem ylt {σ:List SV} {d:Nat} {x:SV} (h:gtS σ d=x) (hx:x≠.any):d<σ.length:=by
 rcases Nat.lt_or_ge d σ.length with h1 | h1
 . exact h1
 . unfold gtS at h;rw [List.getElem?_eq_none h1] at h;exact absurd h.symm hx
def GP (Γ:List (Nat×List Cell)) (P:Program) (ops:Array Oper) (o:Oper) (σ:List SV) (η:List SB) (σ2:List SV) (η2:List SB):Prop:=
 ∀(E:HEnv) (ρ:Nat->Value) (a:Act) (w:World),RI Γ E ρ σ η a w->∀(K:Act->World->Prop) (Q:Exit->Act->World->Prop),
  (∀ a' w' ρ',RI Γ E ρ' σ2 η2 a' w'->K a' w')->if Region.wanted o (yielded ops a.tmps) then o.wp P a w K Q else K (a.put o.dst Go.undef) w
def GH (Γ:List (Nat×List Cell)) (P:Program) (ops:Array Oper) (o:Oper) (σ:List SV) (η:List SB) (rd rh:List Nat) (eff:List (Nat×SV)) (heff:List (Nat×SB)):Prop:=
 ∀(E:HEnv) (ρ:Nat->Value) (σ':List SV) (η':List SB) (a:Act) (w:World),agS rd σ σ'->agB rh η η'->RI Γ E ρ σ' η' a w->∀(K:Act->World->Prop) (Q:Exit->Act->World->Prop),
  (∀ a' w' ρ',RI Γ E ρ' (appL eff σ') (appL heff η') a' w'->K a' w')->if Region.wanted o (yielded ops a.tmps) then o.wp P a w K Q else K (a.put o.dst Go.undef) w
theorem GP.plain {ops:Array Oper} {o:Oper} {σ σ2:List SV} {η η2:List SB} (hg:o.guard=none) (h:van Γ P o σ η σ2 η2):GP Γ P ops o σ η σ2 η2:=
 fun E ρ a w hI K Q hK=>by simp only [Region.wanted,hg,if_true];exact h E ρ a w hI K Q hK
theorem GP.taken {ops:Array Oper} {o:Oper} {σ σ2:List SV} {η η2:List SB} {j d:Nat} {b:Bool} (hg:o.guard=some (j,b)) (hj:(ops[j]?).bind (·.dst)=some d) (hd:gtS σ d=.one (.dat (.raw (.bool b)))) (h:van Γ P o σ η σ2 η2) :
 GP Γ P ops o σ η σ2 η2:=fun E ρ a w hI K Q hK=>by
 have hy:=(y6z hj (ylt hd (by simp)) hI).1 b hd;simp only [Region.wanted,hg,hy,beq_self_eq_true,if_true];exact h E ρ a w hI K Q hK
theorem xbu {E:HEnv} {ρ:Nat->Value} {σ:List SV} {η:List SB} {a:Act} {w:World} {ops:Array Oper} {o:Oper} {j d:Nat} {b:Bool} (hI:RI Γ E ρ σ η a w) (hg:o.guard=some (j,b)) (hj:(ops[j]?).bind (·.dst)=some d)
 (hd:gtS σ d=.one (.dat (.raw (.bool (!b))))\/gtS σ d=.undef):Region.wanted o (yielded ops a.tmps)=false:=by
 rcases hd with hd | hd
 . have hy:=(y6z hj (ylt hd (by simp)) hI).1 (!b) hd;simp only [Region.wanted,hg,hy]
   cases b<;>rfl
 . have hy:=(y6z hj (ylt hd (by simp)) hI).2 hd;simp only [Region.wanted,hg,hy];rfl
theorem GP.vcu {ops:Array Oper} {o:Oper} {σ:List SV} {η:List SB} {j d:Nat} {b:Bool} (hg:o.guard=some (j,b)) (hj:(ops[j]?).bind (·.dst)=some d) (hd:gtS σ d=.one (.dat (.raw (.bool (!b))))\/gtS σ d=.undef) :
 GP Γ P ops o σ η (appL (yph o .undef) σ) η:=fun E ρ a w hI K Q hK=>by
 rw [xbu hI hg hj hd];simp only [Bool.false_eq_true,if_false];exact hK _ _ ρ (hI.dst (v:=Go.undef) (x:=.undef) rfl)
theorem agS.sub {rd rd':List Nat} {σ σ':List SV} (h:agS rd σ σ') (hs:∀ r∈rd',r∈rd):agS rd' σ σ':=⟨h.1,fun r hr=>h.2 r (hs r hr)⟩
theorem GH.plain {ops:Array Oper} {o:Oper} {σ:List SV} {η:List SB} {rd rh:List Nat} {eff:List (Nat×SV)} {heff:List (Nat×SB)} (hg:o.guard=none) (h:xlu Γ P o σ η rd rh eff heff):GH Γ P ops o σ η rd rh eff heff:=
 fun E ρ σ' η' a w h1 h2 hI K Q hK=>by simp only [Region.wanted,hg,if_true];exact h E ρ σ' η' a w h1 h2 hI K Q hK
theorem GH.taken {ops:Array Oper} {o:Oper} {σ:List SV} {η:List SB} {rd rh:List Nat} {eff:List (Nat×SV)} {heff:List (Nat×SB)} {j d:Nat} {b:Bool} (hg:o.guard=some (j,b)) (hj:(ops[j]?).bind (·.dst)=some d)
 (hd:gtS σ d=.one (.dat (.raw (.bool b)))) (h:xlu Γ P o σ η rd rh eff heff):GH Γ P ops o σ η (d::rd) rh eff heff:=fun E ρ σ' η' a w h1 h2 hI K Q hK=>by
 have hd':gtS σ' d=.one (.dat (.raw (.bool b))):=by rw [h1.2 d (by simp)];exact hd
 have hy:=(y6z hj (ylt hd' (by simp)) hI).1 b hd';simp only [Region.wanted,hg,hy,beq_self_eq_true,if_true];exact h E ρ σ' η' a w (h1.sub (fun r hr=>by simp [hr])) h2 hI K Q hK
theorem GH.vcu {ops:Array Oper} {o:Oper} {σ:List SV} {η:List SB} {j d:Nat} {b:Bool} (hg:o.guard=some (j,b)) (hj:(ops[j]?).bind (·.dst)=some d) (hd:gtS σ d=.one (.dat (.raw (.bool (!b))))\/gtS σ d=.undef) :
 GH Γ P ops o σ η (d::zny o) [] (yph o .undef) []:=fun E ρ σ' η' a w h1 h2 hI K Q hK=>by
 rw [xbu hI hg hj (by rw [h1.2 d (by simp)];exact hd)];simp only [Bool.false_eq_true,if_false];exact hK _ _ ρ (hI.dst (v:=Go.undef) (x:=.undef) rfl)
def RunP (Γ:List (Nat×List Cell)) (P:Program) (ops:Array Oper):List Oper->List SV->List SB->(List SV->List SB->Prop)->Prop
 | [],σ,η,K=>K σ η
 | o::r,σ,η,K=>∃ σ2 η2,GP Γ P ops o σ η σ2 η2/\RunP Γ P ops r σ2 η2 K
theorem RunP.wpList {ops:Array Oper} {E:HEnv} {Q:Exit->Act->World->Prop} {K:List SV->List SB->Prop} (hQ:∀ σ η ρ a w,K σ η->RI Γ E ρ σ η a w->Q .normal a w):∀(l:List Oper) (σ:List SV) (η:List SB) (ρ:Nat->Value) (a:Act) (w:World),
 RunP Γ P ops l σ η K->RI Γ E ρ σ η a w->Go.wpList P ops Q l a w
 | [],σ,η,ρ,a,w,h,hR=>hQ σ η ρ a w h hR
 | o::r,σ,η,ρ,a,w,⟨σ2,η2,hg,hr⟩,hR=>by
  refine wpList_step (fun K' hK'=>?_);exact hg E ρ a w hR K' Q (fun a' w' ρ' hR'=>hK' _ _ (RunP.wpList hQ r σ2 η2 ρ' a' w' hr hR'))
section one
variable {α:Type}
def evL (eff:List (Nat×α)) (r:Nat):Option α:=(eff.reverse.find? (fun p=>p.1==r)).map (·.2)
theorem zfa (i:Nat) (x:α) (eff:List (Nat×α)) (r:Nat):evL ((i,x)::eff) r=(evL eff r).or (if i=r then some x else none):=by
 unfold evL;rw [List.reverse_cons,List.find?_append]
 cases hf:eff.reverse.find? (fun p=>p.1==r) with
 | some q=>rfl
 | none=>
  simp only [Option.none_or,Option.map_none,List.find?_cons,List.find?_nil];by_cases h:i=r
  . simp [h]
  . have:(i==r)=false:=by simpa using h
    simp [this,h]
theorem zva:∀(eff:List (Nat×α)) (l:List α) (r:Nat),r<l.length->(appL eff l)[r]? = (evL eff r).or l[r]?
 | [],l,r,_=>by simp [appL,evL]
 | (i,x)::eff,l,r,h=>by
  simp only [appL];rw [zva eff (l.set i x) r (by simpa using h),zfa]
  cases evL eff r with
  | some v=>rfl
  | none=>
   simp only [Option.none_or];by_cases e:i=r
   . subst e;simp [h]
   . rw [List.getElem?_set_ne e];simp [e]
theorem yn3 {eff:List (Nat×α)} {r:Nat} (h:r∉eff.map (·.1)):evL eff r=none:=by
 unfold evL;rw [Option.map_eq_none_iff,List.find?_eq_none];intro p hp;simp only [beq_iff_eq]
 exact fun e=>h (List.mem_map.2 ⟨p,by simpa using hp,e⟩)
theorem vvj {eff:List (Nat×α)} {r:Nat} (h:r∈eff.map (·.1)):∃ v,evL eff r=some v:=by
 unfold evL;obtain ⟨p,hp,he⟩:=List.mem_map.1 h
 cases hf:eff.reverse.find? (fun p=>p.1==r) with
 | none=>rw [List.find?_eq_none] at hf;exact absurd (by simpa using he) (hf p (by simpa using hp))
 | some q=>exact ⟨q.2,rfl⟩
variable (effs:List (List (Nat×α))) (l0:List α)
def stL (X:Nat->Bool):Nat->List α
 | 0=>l0
 | n+1=>if X n then appL (effs.getD n []) (stL X n) else stL X n
theorem xrp (X:Nat->Bool):∀ n,(stL effs l0 X n).length=l0.length
 | 0=>rfl
 | n+1=>by
  unfold stL
  split
  . rw [x9j,xrp X n]
  . exact xrp X n
def wrL (i:Nat):List Nat:=(effs.getD i []).map (·.1)
theorem zw6 {X Y:Nat->Bool} {r:Nat} (hr:r<l0.length):∀ n,(∀ i,i<n->r∈wrL effs i->X i=Y i)->(stL effs l0 X n)[r]? = (stL effs l0 Y n)[r]?
 | 0,_=>rfl
 | n+1,h=>by
  have ih:=zw6 hr n (fun i hi=>h i (by omega));by_cases hw:r∈wrL effs n
  . have e:=h n (by omega) hw;unfold stL;rw [<-e]
    split
    . rw [zva _ _ _ (by rw [xrp];exact hr),zva _ _ _ (by rw [xrp];exact hr),ih]
    . exact ih
  . have hn:evL (effs.getD n []) r=none:=yn3 hw
    have one:∀ Z,(stL effs l0 Z (n+1))[r]? = (stL effs l0 Z n)[r]?:=fun Z=>by
     show (if Z n then _ else _:List α)[r]? = _
     split
     . rw [zva _ _ _ (by rw [xrp];exact hr),hn];rfl
     . rfl
    rw [one,one,ih]
theorem xum {Z:Nat->Bool} {r j:Nat} (hr:r<l0.length) (hj:Z j=true) {v:α} (hv:evL (effs.getD j []) r=some v):∀ n,j<n->(∀ i,j<i->i<n->Z i=true->r∉wrL effs i)->(stL effs l0 Z n)[r]? = some v
 | 0,h,_=>absurd h (by omega)
 | n + 1, h, ha => by
  by_cases e:j=n
  . subst e;unfold stL;rw [if_pos hj,zva _ _ _ (by rw [xrp];exact hr),hv];rfl
  . have ih:=xum hr hj hv n (by omega) (fun i h1 h2=>ha i h1 (by omega));unfold stL
    split
    . rename_i hz;rw [zva _ _ _ (by rw [xrp];exact hr),yn3 (ha n (by omega) (by omega) hz)];exact ih
    . exact ih
theorem x4k {X:Nat->Bool} {j:Nat}:∀ n,j<=n->(∀ i,j<=i->i<n->X i=false)->stL effs l0 X n=stL effs l0 X j
 | 0,h,_=>by rw [show j=0 by omega]
 | n+1,h,ha=>by
  by_cases e:j=n+1
  . rw [e]
  . rw [<-x4k n (by omega) (fun i h1 h2=>ha i h1 (by omega))];show (if X n then _ else _)=_;rw [ha n (by omega) (by omega)];rfl
theorem wh4 {X Y:Nat->Bool}:∀ n,(∀ i,i<n->X i=Y i)->stL effs l0 X n=stL effs l0 Y n
 | 0,_=>rfl
 | n+1,h=>by
  unfold stL;rw [h n (by omega),wh4 n (fun i hi=>h i (by omega))]
theorem x3b {N:Nat} (j:Nat) (hj:j<=N):stL effs l0 (fun i=>decide (i<j)) N=stL effs l0 (fun _=>true) j:=by
 rw [x4k effs l0 N hj (fun i h1 _=>by simp;omega)];exact wh4 effs l0 j (fun i hi=>by simp [hi])
variable {effs l0} {N:Nat} {bef:Nat->List Nat} {rds:Nat->List Nat}
theorem NextL.agree (hlt:∀ j i,i∈bef j->i<j) (hdisj:∀ i j,i<N->j<N->i≠j->i∉bef j->j∉bef i->∀ r∈rds j,r∉wrL effs i) {X:Nat->Bool} {j:Nat} (hj:j<N) (hX:Slot.Next bef X j) {r:Nat} (hr:r∈rds j) :
 (stL effs l0 X N)[r]? = (stL effs l0 (fun _=>true) j)[r]?:=by
 by_cases hlen:r<l0.length
 . rw [← x3b (N := N) effs l0 j (by omega)];refine zw6 effs l0 hlen N (fun i hi hw=>?_);by_cases e:i=j
   . subst e;rw [hX.out];simp
   . by_cases h1:i∈bef j
     . rw [hX.all i h1];simp [hlt j i h1]
     . by_cases h2:j∈bef i
       . have h3:X i=false:=by
          cases hx:X i with
          | false=>rfl
          | true=>have:=hX.closed i hx j h2;rw [hX.out] at this;cases this
         have:=hlt i j h2
         rw [h3];simp;omega
       . exact absurd hw (hdisj i j hi hj e h1 h2 r hr)
 . rw [List.getElem?_eq_none (by rw [xrp];omega),List.getElem?_eq_none (by rw [xrp];omega)]
theorem NextL.step (hlt:∀ j i,i∈bef j->i<j) (hdisj:∀ i j,i<N->j<N->i≠j->i∉bef j->j∉bef i->∀ r∈rds j,r∉wrL effs i) (hrdw:∀ j,j<N->∀ x∈wrL effs j,x∈rds j) {X:Nat->Bool} {j:Nat} (hj:j<N) (hX:Slot.Next bef X j) :
 appL (effs.getD j []) (stL effs l0 X N)=stL effs l0 (fun i=>X i||i==j) N:=by
 apply List.ext_getElem?;intro r;by_cases hr:r<l0.length
 . rw [zva _ _ _ (by rw [xrp];exact hr)];by_cases hw:r∈wrL effs j
   . obtain ⟨v,hv⟩:=vvj hw;rw [hv];refine (xum effs l0 hr (by simp) hv N hj (fun i hji hi hz=>?_)).symm;simp only [Bool.or_eq_true,beq_iff_eq] at hz;have hXi:X i=true:=hz.resolve_right (by omega);refine hdisj i j hi hj (by omega) (fun hb=>by have:=hlt j i hb;omega) (fun hb=>?_) r (hrdw j hj r hw)
     have:=hX.closed i hXi j hb
     rw [hX.out] at this;cases this
   . rw [yn3 hw,Option.none_or];refine zw6 effs l0 hr N (fun i _ hwi=>?_)
     have:i≠j:=fun e=>hw (e▸hwi)
     simp [this]
 . rw [List.getElem?_eq_none (by rw [x9j,xrp];omega),List.getElem?_eq_none (by rw [xrp];omega)]
end one
structure HR where
 rd:List Nat
 rh:List Nat
 eff:List (Nat×SV)
 heff:List (Nat×SB)
def HR.ws (s:HR):List Nat:=s.eff.map (·.1)
def HR.wh (s:HR):List Nat:=s.heff.map (·.1)
def x2u (s t:HR):Bool:=(s.ws.all fun x=>!t.rd.contains x)&&(t.ws.all fun x=>!s.rd.contains x)&&(s.wh.all fun x=>!t.rh.contains x)&&(t.wh.all fun x=>!s.rh.contains x)
def ysl (bs:List (List Nat)):Nat->List HR->List HR->Bool
 | _,_,[]=>true
 | j,before,x::r=>(before.zipIdx.all fun (y,i)=>(bs.getD j []).contains i||x2u y x)&&ysl bs (j+1) (before++[x]) r
def yir (l:List Oper) (recs:List HR):Bool:=
 vwe 0 l&&(recs.all fun s=>(s.ws.all fun x=>s.rd.contains x)&&s.wh.all fun x=>s.rh.contains x)&&ysl (befs l []) 0 [] recs
def zqv (Γ:List (Nat×List Cell)) (P:Program) (ops:Array Oper) (l:List Oper):List Oper->List HR->List SV->List SB->(List SV->List SB->Prop)->Prop
 | [],acc,σ,η,K=>yir l acc=true/\K σ η
 | o::r,acc,σ,η,K=>∃ rd rh eff heff,GH Γ P ops o σ η rd rh eff heff/\zqv Γ P ops l r (acc++[⟨rd,rh,eff,heff⟩]) (appL eff σ) (appL heff η) K
theorem zua (bs:List (List Nat)):∀(l before:List HR) (j0:Nat),ysl bs j0 before l=true->j0=before.length->
 ∀(i j:Nat) (x y:HR),i<j->j0<=j->(before++l)[i]? = some x->(before++l)[j]? = some y->i∈bs.getD j []\/x2u x y=true:=by
 intro l
 induction l with
 | nil=>
  intro before j0 _ hj0 i j x y hij hj hx hy
  have:=(List.getElem?_eq_some_iff.1 hy).1
  simp at this;omega
 | cons z l ih=>
  intro before j0 h hj0 i j x y hij hj hx hy;simp only [ysl,Bool.and_eq_true] at h;by_cases e:j=j0
  . subst e;subst hj0;rw [List.getElem?_append_right (Nat.le_refl _)] at hy;simp at hy;subst hy;rw [List.getElem?_append_left hij] at hx
    have hm:(x,i)∈before.zipIdx:=by
     rw [List.mem_zipIdx_iff_getElem?];simpa using hx
    have:=(List.all_eq_true.1 h.1) (x,i) hm
    simp only [Bool.or_eq_true,List.contains_iff_mem] at this;simpa using this
  . refine ih (before++[z]) (j0+1) h.2 (by simp [hj0]) i j x y hij (by omega) ?_ ?_
    . simpa using hx
    . simpa using hy
structure y4l (recs:List HR) (N:Nat) (bef:Nat->List Nat):Prop where
 lt:∀ j i,i∈bef j->i<j
 rws:∀ j,j<N->∀ x∈wrL (recs.map (·.eff)) j,x∈(recs.getD j ⟨[],[],[],[]⟩).rd
 rwh:∀ j,j<N->∀ x∈wrL (recs.map (·.heff)) j,x∈(recs.getD j ⟨[],[],[],[]⟩).rh
 ds:∀ i j,i<N->j<N->i≠j->i∉bef j->j∉bef i->∀ r∈(recs.getD j ⟨[],[],[],[]⟩).rd,r∉wrL (recs.map (·.eff)) i
 dh:∀ i j,i<N->j<N->i≠j->i∉bef j->j∉bef i->∀ r∈(recs.getD j ⟨[],[],[],[]⟩).rh,r∉wrL (recs.map (·.heff)) i
theorem xog (recs:List HR) (i:Nat):(recs.map (·.eff)).getD i []=(recs.getD i ⟨[],[],[],[]⟩).eff:=by
 simp only [List.getD_eq_getElem?_getD,List.getElem?_map]
 cases recs[i]?<;>rfl
theorem y9u (recs:List HR) (i:Nat):(recs.map (·.heff)).getD i []=(recs.getD i ⟨[],[],[],[]⟩).heff:=by
 simp only [List.getD_eq_getElem?_getD,List.getElem?_map]
 cases recs[i]?<;>rfl
theorem xs5 {l:List Oper} {recs:List HR} (hlen:recs.length=l.length) (h:yir l recs=true):y4l recs l.length (fun j=>(befs l []).getD j []):=by
 simp only [yir,Bool.and_eq_true] at h;obtain ⟨⟨h1,h2⟩,h3⟩:=h
 have hget:∀ j,j<recs.length->recs[j]? = some (recs.getD j (⟨[],[],[],[]⟩:HR)):=fun j hj=>by simp [List.getD,List.getElem?_eq_getElem hj]
 have hlt:∀ j i,i∈(befs l []).getD j []->i<j:=by
  intro j
  induction j using Nat.strongRecOn with
  | _ j ih =>
   intro i hi;by_cases hj:j<l.length
   . have hs:=(ygp l [] j l[j] (List.getElem?_eq_getElem hj) i).1 (by simpa using hi);have he:=wi5 l 0 h1 j l[j] (List.getElem?_eq_getElem hj)
     rcases hs with hd | ⟨d,hd,hdl,hi'⟩
     . have:=he i hd;omega
     . have h4:=he d hd;have h5:=ih d (by omega) i hi';omega
   . simp [List.getD,List.getElem?_eq_none (show (befs l []).length<=j by rw [zao];simp;omega)] at hi
 have hmem:∀ j,j<l.length->(recs.getD j (⟨[],[],[],[]⟩:HR))∈recs:=fun j hj=>List.mem_of_getElem? (hget j (by omega))
 have hap:∀ i j,i<j->j<l.length->i∉(befs l []).getD j []->x2u (recs.getD i ⟨[],[],[],[]⟩) (recs.getD j ⟨[],[],[],[]⟩)=true:=fun i j hij hj hb=>
  (zua (befs l []) recs [] 0 h3 rfl i j _ _ hij (Nat.zero_le _) (by simpa using hget i (by omega)) (by simpa using hget j (by omega))).resolve_left hb
 refine ⟨hlt,fun j hj x hx=>?_,fun j hj x hx=>?_,fun i j hi hj hne h4 h5 r hr hw=>?_,fun i j hi hj hne h4 h5 r hr hw=>?_⟩
 . have:=(List.all_eq_true.1 h2) _ (hmem j hj)
   simp only [Bool.and_eq_true] at this;unfold wrL at hx;rw [xog] at hx
   have:=(List.all_eq_true.1 this.1) x hx
   simpa using this
 . have:=(List.all_eq_true.1 h2) _ (hmem j hj)
   simp only [Bool.and_eq_true] at this;unfold wrL at hx;rw [y9u] at hx
   have:=(List.all_eq_true.1 this.2) x hx
   simpa using this
 . unfold wrL at hw;rw [xog] at hw
   rcases Nat.lt_or_ge i j with hlt' | hge
   . have:=hap i j hlt' hj h4
     simp only [x2u,Bool.and_eq_true] at this;have h6:=(List.all_eq_true.1 this.1.1.1) r hw;simp at h6;exact h6 hr
   . have:=hap j i (by omega) hi h5
     simp only [x2u,Bool.and_eq_true] at this;have h6:=(List.all_eq_true.1 this.1.1.2) r hw;simp at h6;exact h6 hr
 . unfold wrL at hw;rw [y9u] at hw
   rcases Nat.lt_or_ge i j with hlt' | hge
   . have:=hap i j hlt' hj h4
     simp only [x2u,Bool.and_eq_true] at this;have h6:=(List.all_eq_true.1 this.1.2) r hw;simp at h6;exact h6 hr
   . have:=hap j i (by omega) hi h5
     simp only [x2u,Bool.and_eq_true] at this;have h6:=(List.all_eq_true.1 this.2) r hw;simp at h6;exact h6 hr
abbrev stS (recs:List HR) (σ0:List SV) (X:Nat->Bool) (n:Nat):List SV:=stL (recs.map (·.eff)) σ0 X n
abbrev stH (recs:List HR) (η0:List SB) (X:Nat->Bool) (n:Nat):List SB:=stL (recs.map (·.heff)) η0 X n
theorem yl4 {α:Type} {effs effs':List (List (Nat×α))} {l0:List α} {X:Nat->Bool}:∀ n,(∀ i,i<n->effs.getD i []=effs'.getD i [])->stL effs l0 X n=stL effs' l0 X n
 | 0,_=>rfl
 | n+1,h=>by
  unfold stL;rw [h n (by omega),yl4 n (fun i hi=>h i (by omega))]
theorem zqv.chain {ops:Array Oper} {l:List Oper} {σ0:List SV} {η0:List SB} {K:List SV->List SB->Prop}:∀(r pre:List Oper) (acc:List HR) (σ:List SV) (η:List SB),zqv Γ P ops l r acc σ η K->pre++r=l->acc.length=pre.length->
 σ=stS acc σ0 (fun _=>true) acc.length->η=stH acc η0 (fun _=>true) acc.length->
 (∀(j:Nat) (o:Oper) (s:HR),pre[j]? = some o->acc[j]? = some s->GH Γ P ops o (stS acc σ0 (fun _=>true) j) (stH acc η0 (fun _=>true) j) s.rd s.rh s.eff s.heff)->
 ∃ recs:List HR,recs.length=l.length/\yir l recs=true/\K (stS recs σ0 (fun _=>true) recs.length) (stH recs η0 (fun _=>true) recs.length)/\
  ∀(j:Nat) (o:Oper) (s:HR),l[j]? = some o->recs[j]? = some s->GH Γ P ops o (stS recs σ0 (fun _=>true) j) (stH recs η0 (fun _=>true) j) s.rd s.rh s.eff s.heff:=by
 intro r
 induction r with
 | nil=>
  intro pre acc σ η h hl hlen hσ hη hsteps;simp only [List.append_nil] at hl;subst hl;exact ⟨acc,hlen,h.1,by rw [<-hσ,<-hη];exact h.2,hsteps⟩
 | cons o r ih=>
  intro pre acc σ η h hl hlen hσ hη hsteps;obtain ⟨rd,rh,eff,heff,hg,hr⟩:=h
  have hpS:∀ n,n<=acc.length->stS (acc++[(⟨rd,rh,eff,heff⟩:HR)]) σ0 (fun _=>true) n=stS acc σ0 (fun _=>true) n:=fun n hn=>
   yl4 n (fun i hi=>by rw [xog,xog];simp [List.getD,List.getElem?_append_left (show i<acc.length by omega)])
  have hpH:∀ n,n<=acc.length->stH (acc++[(⟨rd,rh,eff,heff⟩:HR)]) η0 (fun _=>true) n=stH acc η0 (fun _=>true) n:=fun n hn=>
   yl4 n (fun i hi=>by rw [y9u,y9u];simp [List.getD,List.getElem?_append_left (show i<acc.length by omega)])
  refine ih (pre++[o]) (acc++[⟨rd,rh,eff,heff⟩]) (appL eff σ) (appL heff η) hr (by rw [<-hl];simp) (by simp [hlen]) ?_ ?_ ?_
  . simp only [List.length_append,List.length_cons,List.length_nil];show _=(if true then appL _ (stL _ σ0 _ acc.length) else _)
    have:=hpS acc.length (Nat.le_refl _)
    simp only [stS] at this;rw [this,hσ,xog];simp [List.getD]
  . simp only [List.length_append,List.length_cons,List.length_nil];show _=(if true then appL _ (stL _ η0 _ acc.length) else _)
    have:=hpH acc.length (Nat.le_refl _)
    simp only [stH] at this;rw [this,hη,y9u];simp [List.getD]
  . intro j o' s ho hs;by_cases e:j<pre.length
    . rw [List.getElem?_append_left e] at ho;rw [List.getElem?_append_left (by omega)] at hs;rw [hpS j (by omega),hpH j (by omega)];exact hsteps j o' s ho hs
    . have hj:j=pre.length:=by
       have:=(List.getElem?_eq_some_iff.1 ho).1
       simp at this;omega
      subst hj;simp at ho;subst ho;rw [<-hlen] at hs ⊢;simp at hs;subst hs;rw [hpS _ (Nat.le_refl _),hpH _ (Nat.le_refl _),<-hσ,<-hη];exact hg
theorem v55 {σ σ':List SV} {r:Nat} (h:σ'[r]? = σ[r]?):gtS σ' r=gtS σ r:=by unfold gtS;rw [h]
theorem zeb {ops:Array Oper} {recs:List HR} {σ0:List SV} {η0:List SB} (hind:y4l recs ops.size (fun j=>(befs ops.toList []).getD j [])) (hlen:recs.length=ops.size) (hedge:vwe 0 ops.toList=true)
 (hsteps:∀(j:Nat) (o:Oper) (s:HR),ops.toList[j]? = some o->recs[j]? = some s->GH Γ P ops o (stS recs σ0 (fun _=>true) j) (stH recs η0 (fun _=>true) j) s.rd s.rh s.eff s.heff) {E:HEnv} {Q:Exit->Act->World->Prop}
 (hQ:∀ ρ a w,RI Γ E ρ (stS recs σ0 (fun _=>true) ops.size) (stH recs η0 (fun _=>true) ops.size) a w->Q .normal a w):∀(fuel:Nat) (listed:Array Bool) (ρ:Nat->Value) (a:Act) (w:World),listed.size=ops.size->
   (listed.toList.filter (! ·)).length<=fuel->(∀ k,listed.getD k false=true->∀ i∈(befs ops.toList []).getD k [],listed.getD i false=true)->
   RI Γ E ρ (stS recs σ0 (fun i=>listed.getD i false) ops.size) (stH recs η0 (fun i=>listed.getD i false) ops.size) a w->wpAny P .any ops Q fuel listed a w:=by
 have done:∀(listed:Array Bool),listed.size=ops.size->Region.ready .any ops listed=[]->∀ i,i<ops.size->listed.getD i false=true:=by
  intro listed hsz hr i
  induction i using Nat.strongRecOn with
  | _ i ih =>
   intro hi
   cases hx:listed.getD i false with
   | true=>rfl
   | false=>
    exfalso
    have hmem:i∈Region.ready .any ops listed:=by
     rw [mem_ready];refine ⟨?_,ops[i],by simp [hi],fun e he hb=>?_⟩
     . simp only [Array.getD_eq_getD_getElem?,Array.getElem?_eq_getElem (show i<listed.size by omega),Option.getD_some] at hx ⊢;exact hx
     . have hd:e.on∈direct ops[i]:=List.mem_map.2 ⟨e,by simp [List.mem_filter,hb];exact he,rfl⟩
       have:=wi5 ops.toList 0 hedge i ops[i] (by simp [hi]) e.on hd
       exact ih e.on (by omega) (by omega)
    rw [hr] at hmem
    cases hmem
 have fin:∀(listed:Array Bool) (ρ:Nat->Value) (a:Act) (w:World),(∀ i,i<ops.size->listed.getD i false=true)->RI Γ E ρ (stS recs σ0 (fun i=>listed.getD i false) ops.size) (stH recs η0 (fun i=>listed.getD i false) ops.size) a w->Q .normal a w:=fun listed ρ a w hall hR=>by
  refine hQ ρ a w ?_
  rw [show stS recs σ0 (fun _=>true) ops.size=stS recs σ0 (fun i=>listed.getD i false) ops.size from (wh4 _ σ0 ops.size (fun i hi=>hall i hi)).symm,
   show stH recs η0 (fun _=>true) ops.size=stH recs η0 (fun i=>listed.getD i false) ops.size from (wh4 _ η0 ops.size (fun i hi=>hall i hi)).symm]
  exact hR
 intro fuel
 induction fuel with
 | zero=>
  intro listed ρ a w hsz hf hcl hR
  have hall:∀ i,i<ops.size->listed.getD i false=true:=fun i hi=>by
   have hnil:listed.toList.filter (! ·)=[]:=List.eq_nil_of_length_eq_zero (by omega);rw [List.filter_eq_nil_iff] at hnil
   have:=hnil listed[i] (by simp)
   simp only [Bool.not_eq_true',Bool.not_eq_false] at this;simp [show i<listed.size by omega,this]
  have hready:Region.ready .any ops listed=[]:=by
   cases hr:Region.ready .any ops listed with
   | nil=>rfl
   | cons j _=>
    exfalso
    have hj:j∈Region.ready .any ops listed:=by rw [hr];simp
    obtain ⟨h1,o,ho,_⟩:=mem_ready.1 hj;have hjl:j<ops.size:=(Array.getElem?_eq_some_iff.1 ho).1
    have:=hall j hjl
    simp only [Array.getD_eq_getD_getElem?,Array.getElem?_eq_getElem (show j<listed.size by omega),Option.getD_some] at this h1;rw [this] at h1;cases h1
  exact ⟨hready,fin listed ρ a w hall hR⟩
 | succ fuel ih=>
  intro listed ρ a w hsz hf hcl hR;refine ⟨fun hready=>fin listed ρ a w (done listed hsz hready) hR,fun j hj=>?_⟩;obtain ⟨h1,o,ho,hall⟩:=mem_ready.1 hj;have hjl:j<ops.size:=(Array.getElem?_eq_some_iff.1 ho).1
  have hout:listed.getD j false=false:=by
   simp only [Array.getD_eq_getD_getElem?,Array.getElem?_eq_getElem (show j<listed.size by omega),Option.getD_some] at h1 ⊢;exact h1
  have hdir:∀ d∈direct o,listed.getD d false=true:=fun d hd=>by
   obtain ⟨e,he,rfl⟩:=List.mem_map.1 hd;rw [List.mem_filter] at he;exact hall e (by simpa using he.1) he.2
  have hnext:Slot.Next (fun j=>(befs ops.toList []).getD j []) (fun i=>listed.getD i false) j:=by
   refine ⟨hcl,hout,fun i hi=>?_⟩;have hs:=(ygp ops.toList [] j o (by simpa using ho) i).1 (by simpa using hi)
   rcases hs with hd | ⟨d,hd,_,hi'⟩
   . exact hdir i hd
   . exact hcl d (hdir d hd) i hi'
  have hs:recs[j]? = some (recs.getD j (⟨[],[],[],[]⟩:HR)):=by simp [List.getD,List.getElem?_eq_getElem (show j<recs.length by omega)]
  have hg:=hsteps j o _ (by simpa using ho) hs;have hagS:agS (recs.getD j (⟨[],[],[],[]⟩:HR)).rd (stS recs σ0 (fun _=>true) j) (stS recs σ0 (fun i=>listed.getD i false) ops.size):=
   ⟨by rw [xrp,xrp],fun r hr=>v55 (NextL.agree (N:=ops.size) (rds:=fun j=>(recs.getD j (⟨[],[],[],[]⟩:HR)).rd) hind.lt hind.ds hjl hnext hr)⟩
  have hagB:agB (recs.getD j (⟨[],[],[],[]⟩:HR)).rh (stH recs η0 (fun _=>true) j) (stH recs η0 (fun i=>listed.getD i false) ops.size):=
   ⟨by rw [xrp,xrp],fun r hr=>NextL.agree (N:=ops.size) (rds:=fun j=>(recs.getD j (⟨[],[],[],[]⟩:HR)).rh) hind.lt hind.dh hjl hnext hr⟩
  have hstepS:=NextL.step (effs:=recs.map (·.eff)) (l0:=σ0) (N:=ops.size) (rds:=fun j=>(recs.getD j (⟨[],[],[],[]⟩:HR)).rd) hind.lt hind.ds hind.rws hjl hnext;have hstepH:=NextL.step (effs:=recs.map (·.heff)) (l0:=η0) (N:=ops.size) (rds:=fun j=>(recs.getD j (⟨[],[],[],[]⟩:HR)).rh) hind.lt hind.dh hind.rwh hjl hnext;rw [xog] at hstepS;rw [y9u] at hstepH;have hstep:=hg E ρ _ _ a w hagS hagB hR (wpAny P .any ops Q fuel (listed.setIfInBounds j true)) Q ?_
  . unfold wpOp;rw [ho];dsimp only
    split
    . rename_i hw;rw [if_pos hw] at hstep;exact .inl hstep
    . rename_i hw;rw [if_neg hw] at hstep;exact hstep
  . intro a' w' ρ' hR';rw [hstepS,hstepH] at hR'
    have hX:∀ i,(listed.setIfInBounds j true).getD i false=(listed.getD i false||i==j):=fun i=>by
     by_cases e:i=j
     . subst e;simp [show i<listed.size by omega]
     . simp only [Array.getD_eq_getD_getElem?,Array.getElem?_setIfInBounds_ne (Ne.symm e)];simp [e]
    refine ih _ ρ' a' w' (by simpa using hsz) ?_ ?_ ?_
    . have hcount:∀(l:List Bool) (j:Nat),l[j]? = some false->((l.set j true).filter (! ·)).length+1=(l.filter (! ·)).length:=by
       intro l
       induction l with
       | nil=>intro j h;simp at h
       | cons b l ihl=>
        intro j h
        cases j with
        | zero=>simp at h;subst h;simp
        | succ j=>
         have:=ihl j (by simpa using h)
         cases b<;>simp<;>omega
      have hjb:listed.toList[j]? = some false:=by
       simp only [Array.getD_eq_getD_getElem?,Array.getElem?_eq_getElem (show j<listed.size by omega),Option.getD_some] at hout;simp [Array.getElem?_eq_getElem (show j<listed.size by omega),hout]
      have:=hcount listed.toList j hjb
      simp only [Array.toList_setIfInBounds];omega
    . intro k hk i hi;rw [hX] at hk ⊢;exact hnext.grow k hk i hi
    . rw [show stS recs σ0 (fun i=>(listed.setIfInBounds j true).getD i false) ops.size=_ from wh4 _ σ0 ops.size (fun i _=>hX i),
       show stH recs η0 (fun i=>(listed.setIfInBounds j true).getD i false) ops.size=_ from wh4 _ η0 ops.size (fun i _=>hX i)]
      exact hR'
theorem z5z {ops:Array Oper} {σ:List SV} {η:List SB} {E:HEnv} {ρ:Nat->Value} {Q:Exit->Act->World->Prop} {K:List SV->List SB->Prop} {id:Nat} (hm:P.follows .mixedOrders=true)
 (hQ:∀ σ η ρ a w,K σ η->RI Γ E ρ σ η a w->Q .normal a w) (h:zqv Γ P ops ops.toList ops.toList [] σ η K) {a:Act} {w:World} (hR:RI Γ E ρ σ η a w):(Code.region id ops true).wp P Q a w:=by
 obtain ⟨recs,hlen,hind,hK,hsteps⟩:=zqv.chain (σ0:=σ) (η0:=η) ops.toList [] [] σ η h rfl rfl rfl rfl (fun j o s ho=>by simp at ho)
 have hedge:vwe 0 ops.toList=true:=by
  simp only [yir,Bool.and_eq_true] at hind;exact hind.1.1
 have hI:=xs5 hlen hind;simp only [Array.length_toList] at hlen hI
 have none0:∀{α:Type} (effs:List (List (Nat×α))) (l0:List α) (n:Nat),stL effs l0 (fun _=>false) n=l0:=fun effs l0 n=>by
  induction n with
  | zero=>rfl
  | succ n ih=>show (if false then _ else _)=_;exact ih
 refine wp_region_any hm (zeb hI hlen hedge hsteps (fun ρ a w hR=>hQ _ _ ρ a w (by rw [hlen] at hK;exact hK) hR) ops.size _ ρ a _ (by simp) (by simp) ?_ ?_)
 . intro k hk;exfalso;rw [Array.getD_eq_getD_getElem?] at hk;by_cases hk':k<ops.size
   . simp [hk'] at hk
   . rw [Array.getElem?_eq_none (by simp;omega)] at hk
     cases hk
 . have hb:Below w.heap.size w { w with drawn:=w.drawn+1 }:=(Below.refl _ w).drew
   have hz:∀ i,i<ops.size->(Array.replicate ops.size false).getD i false=false:=fun i hi=>by simp [hi]
   rw [show stS recs σ (fun i=>(Array.replicate ops.size false).getD i false) ops.size=σ from (wh4 _ σ ops.size (fun i hi=>hz i hi)).trans (none0 _ σ _),
    show stH recs η (fun i=>(Array.replicate ops.size false).getD i false) ops.size=η from (wh4 _ η ops.size (fun i hi=>hz i hi)).trans (none0 _ η _)]
   exact hR.go (Went.below hR.inv hb)
end Go.Hp
