/- The proof, part Z11: Hv, Hw, Hx, Ia, Ib. -/
import Derived.Test.YtjhbbadljohadaaGreatDoorZ10
namespace Go.Hp
open Go Go.RowKit Go.Slot
noncomputable section
abbrev Rr:=Option (List SV×List SB×List Nat)
abbrev Rc:=Option (Exit×List SV×List SB×List Nat)
def gdT (y n:Rr):SV→Rr
 | .one (.dat (.raw (.bool true)))=>y
 | .one (.dat (.raw (.bool false)))=>n
 | .undef=>n
 | _=>none
def gdF (y n:Rr):SV→Rr
 | .one (.dat (.raw (.bool true)))=>n
 | .one (.dat (.raw (.bool false)))=>y
 | .undef=>n
 | _=>none
def skp:Option Nat→List SV→List SV
 | some d,σ=>setF σ .undef d
 | none,σ=>σ
def nrm:Rr→Rc
 | some (s,h,wl)=>some (.normal,s,h,wl)
 | none=>none
def sqB (g:List SV→List SB→List Nat→Rc):Rc→Rc
 | some (.normal,s,h,w)=>g s h w
 | r=>r
def cnB (x y:Rc):SV→Rc
 | .one (.dat (.raw (.bool true)))=>x
 | .one (.dat (.raw (.bool false)))=>y
 | _=>none
def blB (id:Nat):Rc→Rc
 | some (.exit j,s,h,w)=>if j=id then some (.normal,s,h,w) else some (.exit j,s,h,w)
 | r=>r
def scB:Rc→Rc
 | some (.goto _,_,_,_)=>none
 | r=>r
def rgB:Rr→Rc→Rc
 | some (s,h,wl),_=>some (.normal,s,h,wl)
 | none,r=>r
variable (P:Program) (Γ:List (Nat×List Cell)) (gen:Oper→Kr→(List SV→List SB→HO)→Kr)
def cgd (ops:List Oper) (o:Oper) (k:Kr):Bx Kr:=match o.guard with
 | none=>cdo P Γ gen (isSrc ops o.dst) o k
 | some (j,b)=>match (ops[j]?).bind (·.dst),cdo P Γ gen (isSrc ops o.dst) o k,o.dst,b with
  | some d,⟨f⟩,od,true=>⟨fun cD cH σ η wl=>gdT (f cD cH σ η wl) (k cD cH (skp od σ) η wl) (gtF σ d)⟩
  | some d,⟨f⟩,od,false=>⟨fun cD cH σ η wl=>gdF (f cD cH σ η wl) (k cD cH (skp od σ) η wl) (gtF σ d)⟩
  | none,_,_,_=>⟨fun _ _ _ _ _=>none⟩
def crun (ops:List Oper):List Oper→Bx Kr
 | []=>⟨fun _ _ σ η wl=>some (σ,η,wl)⟩
 | o::r=>match crun ops r with
  | ⟨k⟩=>cgd P Γ gen ops o k
def dRg (ops:Array Oper):Kc:=fun cD cH σ η wl=>match evRunD cD cH P Γ ops.toList η.length ops.toList [] σ (η++[.fresh]) wl with
 | some (s,h,wl)=>some (.normal,s,trimF η.length h,wl)
 | none=>none
def ccode (N:Nat):Code→Bx Kc
 | .skip=>⟨fun _ _ σ η wl=>some (.normal,σ,η,wl)⟩
 | .region _ ops false=>match crun P Γ genE ops.toList ops.toList with
  | ⟨f⟩=>⟨fun cD cH σ η wl=>nrm (f cD cH σ η wl)⟩
 | .region _ ops true=>match P.follows .mixedOrders,stOk ops.toList,crun P Γ genP ops.toList ops.toList with
  | true,true,⟨f⟩=>⟨fun cD cH σ η wl=>rgB (f cD cH σ η wl) (dRg P Γ ops cD cH σ η wl)⟩
  | true,false,_=>⟨fun cD cH σ η wl=>dRg P Γ ops cD cH σ η wl⟩
  | false,_,_=>⟨fun _ _ _ _ _=>none⟩
 | .seq a b=>match ccode N a,ccode N b with
  | ⟨f⟩,⟨g⟩=>⟨fun cD cH σ η wl=>sqB (g cD cH) (f cD cH σ η wl)⟩
 | .cond c a b=>match copd Γ c,ccode N a,ccode N b with
  | ⟨gc⟩,⟨f⟩,⟨g⟩=>⟨fun cD cH σ η wl=>cnB (f cD cH σ η wl) (g cD cH σ η wl) (gc σ)⟩
 | .block id a=>match ccode N a with
  | ⟨f⟩=>⟨fun cD cH σ η wl=>blB id (f cD cH σ η wl)⟩
 | .loop a=>match ccode N a with
  | ⟨f⟩=>⟨fun cD cH σ η wl=>evLoop (f cD cH) N σ η wl⟩
 | .scope a=>match ccode N a with
  | ⟨f⟩=>⟨fun cD cH σ η wl=>scB (f cD cH σ η wl)⟩
 | .exit id=>⟨fun _ _ σ η wl=>some (.exit id,σ,η,wl)⟩
 | .ret=>⟨fun _ _ σ η wl=>some (.ret,σ,η,wl)⟩
 | .label _=>⟨fun _ _ σ η wl=>some (.normal,σ,η,wl)⟩
 | _=>⟨fun _ _ _ _ _=>none⟩
def appF (l r:List SV):List SV:=List.rec (motive:=fun _=>List SV) r (fun x _ ih=>x::ih) l
theorem appF_eq (l r:List SV):appF l r=l++r:=by
 induction l with
 | nil=>rfl
 | cons x l ih=>show x::appF l r=_;rw [ih];rfl
def evEnd (rs:List ResultVar):Rc→Option (SV×List SB×List Nat)
 | some (.ret,σ,h,wl)=>(resHV P σ h rs).map fun x=>(x,h,wl)
 | some (.normal,σ,h,wl)=>(resHV P σ h rs).map fun x=>(x,h,wl)
 | _=>none
abbrev Kf:=CD→CH→List SV→List SB→Option (SV×List SB×List Nat)
def cfun (N:Nat) (f:FuncId):Bx Kf:=match P.funcs[f]? with
 | some fn=>match fn.body,fn.name == "runtime.NumGoroutine" with
  | some c,false=>match ccode P Γ N c,fn.results.toList,fn.ntmps with
   | ⟨g⟩,rs,nt=>frcN fn.params.size fun np=>frcL (List.replicate (nt-np) SV.undef) fun pad=>⟨fun cD cH l η=>frcSL l fun l=>match l.length==np with
    | true=>evEnd P rs (g cD cH (appF l pad) η [])
    | false=>evEnd P rs (g cD cH (l++List.replicate (nt-l.length) .undef) η [])⟩
  | _,_=>⟨fun _ _ _ _=>none⟩
 | none=>⟨fun _ _ _ _=>none⟩
variable {P Γ}
theorem skp_eq {o:Oper} {σ:List SV}:skp o.dst σ=appL (dstEff o .undef) σ:=by
 unfold skp dstEff
 cases o.dst with
 | none=>rfl
 | some d=>exact setF_eq _ _ _
theorem cgd_eq {gen:Oper→Kr→(List SV→List SB→HO)→Kr} {ops:List Oper} {o:Oper} {k:Kr} {cD:CD} {cH:CH} {σ:List SV} {η:List SB} {wl:List Nat} {A:Rr} (hdo:(cdo P Γ gen (isSrc ops o.dst) o k).f cD cH σ η wl=A) :
 (cgd P Γ gen ops o k).f cD cH σ η wl=match guardH ops σ o with
   | .plain=>A
   | .when _ c b=>if c=b then A else k cD cH (appL (dstEff o .undef) σ) η wl
   | .skip _=>k cD cH (appL (dstEff o .undef) σ) η wl
   | .bad=>none:=by
 unfold cgd guardH
 cases hg:o.guard with
 | none=>exact hdo
 | some p=>
  obtain ⟨j,b⟩:=p
  simp only []
  cases hc:cdo P Γ gen (isSrc ops o.dst) o k with
  | mk f=>
   rw [hc] at hdo
   cases hd:(ops[j]?).bind (·.dst) with
   | none=>cases b<;>rfl
   | some d=>
    cases b with
    | true=>
     show gdT (f cD cH σ η wl) (k cD cH (skp o.dst σ) η wl) (gtF σ d)=_
     rw [gtF_eq,skp_eq]
     unfold gdT
     split
     · rename_i e;simp only [e];exact hdo
     · rename_i e;simp only [e];rfl
     · rename_i e;simp only [e]
     · rename_i h1 h2 h3
       dsimp only
       split
       · rename_i heq
         split at heq
         · cases heq
         · cases heq
         · cases heq
       · rename_i heq
         split at heq
         · rename_i c e;cases c
           · exact absurd e h2
           · exact absurd e h1
         · cases heq
         · cases heq
       · rename_i heq
         split at heq
         · cases heq
         · rename_i e;exact absurd e h3
         · cases heq
       · rfl
    | false=>
     show gdF (f cD cH σ η wl) (k cD cH (skp o.dst σ) η wl) (gtF σ d)=_
     rw [gtF_eq,skp_eq]
     unfold gdF
     split
     · rename_i e;simp only [e];rfl
     · rename_i e;simp only [e];exact hdo
     · rename_i e;simp only [e]
     · rename_i h1 h2 h3
       dsimp only
       split
       · rename_i heq
         split at heq
         · cases heq
         · cases heq
         · cases heq
       · rename_i heq
         split at heq
         · rename_i c e;cases c
           · exact absurd e h2
           · exact absurd e h1
         · cases heq
         · cases heq
       · rename_i heq
         split at heq
         · cases heq
         · rename_i e;exact absurd e h3
         · cases heq
       · rfl
theorem crun_eq {ops:List Oper} {cD:CD} {cH:CH}:∀(l:List Oper) (σ:List SV) (η:List SB) (wl:List Nat),(crun P Γ genE ops l).f cD cH σ η wl=evRun cD cH P Γ ops l σ η wl
 | [],σ,η,wl=>rfl
 | o::r,σ,η,wl=>by
  show (match crun P Γ genE ops r with | ⟨k⟩=>cgd P Γ genE ops o k:Bx Kr).f cD cH σ η wl=_
  have ih:=crun_eq (ops:=ops) (cD:=cD) (cH:=cH) r
  cases hc:crun P Γ genE ops r with
  | mk k=>
   rw [hc] at ih
   have ih':∀ σ η wl,k cD cH σ η wl=evRun cD cH P Γ ops r σ η wl:=ih
   show (cgd P Γ genE ops o k).f cD cH σ η wl=_
   rw [cgd_eq (cdo_eq (fun r=>thn k cD cH wl (evDo cD cH o σ η r)) (fun g=>rfl) (fun _ hd=>thn_vO hd) (fun hd=>thn_vO_none hd) rfl)]
   unfold evRun evGd
   cases guardH ops σ o with
   | plain=>
    dsimp only
    cases evDo cD cH o σ η (opF P Γ (isSrc ops o.dst) false σ η η.length o) with
    | none=>rfl
    | some p=>obtain ⟨s,h,ws⟩:=p;simp only [frcL_eq];exact ih' _ _ _
   | when d c b=>
    dsimp only
    by_cases hcb:c=b
    · simp only [if_pos hcb]
      cases evDo cD cH o σ η (opF P Γ (isSrc ops o.dst) false σ η η.length o) with
      | none=>rfl
      | some p=>obtain ⟨s,h,ws⟩:=p;simp only [frcL_eq];exact ih' _ _ _
    · simp only [if_neg hcb,frcL_eq];exact ih' _ _ _
   | skip d=>simp only [frcL_eq];exact ih' _ _ _
   | bad=>rfl
theorem thnP_vO {k:Kr} {cD:CD} {cH:CH} {wl:List Nat} {o:Oper} {σ:List SV} {η:List SB} {rd rh:List Nat} {x:SV} {d:Nat} (hr:∀ r∈rd,r∈opRd o.op) (hd:o.dst=some d):thn k cD cH wl (evDoP cD o σ η (vO o rd rh (some x)))=k cD cH (σ.set d x) η wl:=by
 unfold vO
 rw [hd]
 have h1:inRd (d::rd) (sRd o)=true:=by
  unfold inRd
  rw [List.all_eq_true]
  intro y hy
  have:y∈sRd o:=by
   unfold sRd dstRd
   rw [hd]
   simp only [List.mem_append,List.mem_cons] at hy ⊢
   rcases hy with rfl | hy
   · exact .inl (.inl rfl)
   · exact .inr (hr y hy)
  simpa using this
 simp only [evDoP,h1,hd,frcS_eq,and_self,if_true]
 rfl
theorem thnP_vO_none {k:Kr} {cD:CD} {cH:CH} {wl:List Nat} {o:Oper} {σ:List SV} {η:List SB} {rd rh:List Nat} {x:Option SV} (hd:o.dst=none):thn k cD cH wl (evDoP cD o σ η (vO o rd rh x))=none:=by
 unfold vO
 cases x<;>simp only [hd,evDoP,thn]
theorem crunP_eq {ops:List Oper} {cD:CD} {cH:CH}:∀(l:List Oper) (σ:List SV) (η:List SB) (wl:List Nat),(crun P Γ genP ops l).f cD cH σ η wl=evRunP cD P Γ ops l σ η wl
 | [],σ,η,wl=>rfl
 | o::r,σ,η,wl=>by
  show (match crun P Γ genP ops r with | ⟨k⟩=>cgd P Γ genP ops o k:Bx Kr).f cD cH σ η wl=_
  have ih:=crunP_eq (ops:=ops) (cD:=cD) (cH:=cH) r
  cases hc:crun P Γ genP ops r with
  | mk k=>
   rw [hc] at ih
   have ih':∀ σ η wl,k cD cH σ η wl=evRunP cD P Γ ops r σ η wl:=ih
   show (cgd P Γ genP ops o k).f cD cH σ η wl=_
   rw [cgd_eq (cdo_eq (fun r=>thn k cD cH wl (evDoP cD o σ η r)) (fun g=>rfl) (fun hr hd=>thnP_vO hr hd) (fun hd=>thnP_vO_none hd) rfl)]
   unfold evRunP evGdP
   cases guardH ops σ o with
   | plain=>
    dsimp only
    cases evDoP cD o σ η (opF P Γ (isSrc ops o.dst) false σ η η.length o) with
    | none=>rfl
    | some p=>obtain ⟨s,h,ws⟩:=p;exact ih' _ _ _
   | when d c b=>
    dsimp only
    by_cases hcb:c=b
    · simp only [if_pos hcb]
      cases evDoP cD o σ η (opF P Γ (isSrc ops o.dst) false σ η η.length o) with
      | none=>rfl
      | some p=>obtain ⟨s,h,ws⟩:=p;exact ih' _ _ _
    · simp only [if_neg hcb];exact ih' _ _ _
   | skip d=>exact ih' _ _ _
   | bad=>rfl
theorem ccode_eq {N : Nat} {cD : CD} {cH : CH} : ∀ (c : Code) (σ : List SV) (η : List SB) (wl : List Nat), (ccode P Γ N c).f cD cH σ η wl = evCode cD cH P Γ N c σ η wl := by
 intro c
 induction c with
 | region id ops dr=>
  intro σ η wl
  cases dr with
  | true=>
   show (match P.follows .mixedOrders,stOk ops.toList,crun P Γ genP ops.toList ops.toList with
    | true,true,⟨f⟩=>⟨fun cD cH σ η wl=>rgB (f cD cH σ η wl) (dRg P Γ ops cD cH σ η wl)⟩
    | true,false,_=>⟨fun cD cH σ η wl=>dRg P Γ ops cD cH σ η wl⟩
    | false,_,_=>⟨fun _ _ _ _ _=>none⟩:Bx Kc).f cD cH σ η wl=_
   have hp:=crunP_eq (P:=P) (Γ:=Γ) (ops:=ops.toList) (cD:=cD) (cH:=cH) ops.toList σ η wl
   unfold evCode evRegP
   cases hm:P.follows .mixedOrders with
   | false=>rfl
   | true=>
    cases hs:stOk ops.toList with
    | false=>rfl
    | true=>
     cases hc:crun P Γ genP ops.toList ops.toList with
     | mk f=>
      rw [hc] at hp
      show rgB (f cD cH σ η wl) (dRg P Γ ops cD cH σ η wl)=_
      have hp':f cD cH σ η wl=evRunP cD P Γ ops.toList ops.toList σ η wl:=hp
      rw [hp']
      cases evRunP cD P Γ ops.toList ops.toList σ η wl with
      | none=>rfl
      | some p=>rfl
  | false=>
   show (match crun P Γ genE ops.toList ops.toList with | ⟨f⟩=>⟨fun cD cH σ η wl=>nrm (f cD cH σ η wl)⟩:Bx Kc).f cD cH σ η wl=_
   have:=crun_eq (P:=P) (Γ:=Γ) (ops:=ops.toList) (cD:=cD) (cH:=cH) ops.toList σ η wl
   cases hc:crun P Γ genE ops.toList ops.toList with
   | mk f=>
    rw [hc] at this
    show nrm (f cD cH σ η wl)=_
    unfold evCode nrm
    rw [←this]
    rfl
 | seq a b iha ihb =>
  intro σ η wl
  show (match ccode P Γ N a,ccode P Γ N b with | ⟨f⟩,⟨g⟩=>⟨fun cD cH σ η wl=>sqB (g cD cH) (f cD cH σ η wl)⟩:Bx Kc).f cD cH σ η wl=_
  cases ha:ccode P Γ N a with
  | mk f=>
   cases hb:ccode P Γ N b with
   | mk g=>
    rw [ha] at iha
    rw [hb] at ihb
    show sqB (g cD cH) (f cD cH σ η wl)=_
    unfold evCode
    rw [←iha σ η wl]
    unfold sqB
    split
    · rename_i e;simp only [e];exact ihb _ _ _
    · rename_i hne
      split
      · rename_i e;exact absurd e (hne _ _ _)
      · rfl
 | cond c a b iha ihb=>
  intro σ η wl
  show (match copd Γ c,ccode P Γ N a,ccode P Γ N b with | ⟨gc⟩,⟨f⟩,⟨g⟩=>⟨fun cD cH σ η wl=>cnB (f cD cH σ η wl) (g cD cH σ η wl) (gc σ)⟩:Bx Kc).f cD cH σ η wl=_
  have hc:=copd_eq (Γ:=Γ) (x:=c) (σ:=σ)
  cases h0:copd Γ c with
  | mk gc=>
   cases ha:ccode P Γ N a with
   | mk f=>
    cases hb:ccode P Γ N b with
    | mk g=>
     rw [ha] at iha
     rw [hb] at ihb
     rw [h0] at hc
     show cnB (f cD cH σ η wl) (g cD cH σ η wl) (gc σ)=_
     have hc':gc σ=opdS Γ σ c:=hc
     rw [hc']
     unfold evCode
     rw [←iha σ η wl,←ihb σ η wl]
     rfl
 | block id a iha=>
  intro σ η wl
  show (match ccode P Γ N a with | ⟨f⟩=>⟨fun cD cH σ η wl=>blB id (f cD cH σ η wl)⟩:Bx Kc).f cD cH σ η wl=_
  cases ha:ccode P Γ N a with
  | mk f=>
   rw [ha] at iha
   show blB id (f cD cH σ η wl)=_
   unfold evCode
   rw [←iha σ η wl]
   rfl
 | loop a iha=>
  intro σ η wl
  show (match ccode P Γ N a with | ⟨f⟩=>⟨fun cD cH σ η wl=>evLoop (f cD cH) N σ η wl⟩:Bx Kc).f cD cH σ η wl=_
  cases ha:ccode P Γ N a with
  | mk f=>
   rw [ha] at iha
   show evLoop (f cD cH) N σ η wl=_
   unfold evCode
   have:f cD cH=evCode cD cH P Γ N a:=by
    funext σ η wl;exact iha σ η wl
   rw [this]
 | scope a iha=>
  intro σ η wl
  show (match ccode P Γ N a with | ⟨f⟩=>⟨fun cD cH σ η wl=>scB (f cD cH σ η wl)⟩:Bx Kc).f cD cH σ η wl=_
  cases ha:ccode P Γ N a with
  | mk f=>
   rw [ha] at iha
   show scB (f cD cH σ η wl)=_
   unfold evCode
   rw [←iha σ η wl]
   rfl
 | _=>intro σ η wl;rfl
theorem cfun_eq {N:Nat} {f:FuncId} {cD:CD} {cH:CH} {l:List SV} {η:List SB}:(cfun P Γ N f).f cD cH l η=evBody cD cH P Γ N f l η:=by
 unfold cfun evBody
 cases hf:P.funcs[f]? with
 | none=>rfl
 | some fn=>
  dsimp only
  cases hb:fn.body with
  | none=>rfl
  | some c=>
   cases hn:fn.name == "runtime.NumGoroutine" with
   | true=>rfl
   | false=>
    have hcode:=ccode_eq (P:=P) (Γ:=Γ) (N:=N) (cD:=cD) (cH:=cH) c
    show (frcN fn.params.size fun np=>frcL (List.replicate (fn.ntmps-np) SV.undef) fun pad=>(⟨fun cD cH l η=>frcSL l fun l=>match l.length==np with
     | true=>evEnd P fn.results.toList ((ccode P Γ N c).f cD cH (appF l pad) η [])
     | false=>evEnd P fn.results.toList ((ccode P Γ N c).f cD cH (l++List.replicate (fn.ntmps-l.length) SV.undef) η [])⟩:Bx Kf)).f cD cH l η=_
    rw [frcN_eq,frcL_eq]
    show (frcSL l fun l=>match l.length==fn.params.size with
     | true=>evEnd P fn.results.toList ((ccode P Γ N c).f cD cH (appF l (List.replicate (fn.ntmps-fn.params.size) SV.undef)) η [])
     | false=>evEnd P fn.results.toList ((ccode P Γ N c).f cD cH (l++List.replicate (fn.ntmps-l.length) SV.undef) η []))=_
    rw [frcSL_eq]
    dsimp only
    rw [frcSL_eq]
    have key:evEnd P fn.results.toList ((ccode P Γ N c).f cD cH (l++List.replicate (fn.ntmps-l.length) SV.undef) η [])=_:=congrArg (evEnd P fn.results.toList) (hcode (l++List.replicate (fn.ntmps-l.length) SV.undef) η [])
    split
    · rename_i hl
      rw [appF_eq,←(beq_iff_eq.1 hl),key];rfl
    · rw [key];rfl
variable (P Γ)
mutual
def fvD (known:FuncId→List AV→Option AV) (N:Nat):Nat→FuncId→List AV→Option AV
 | 0,_,_=>none
 | n+1,f,l=>match known f l with
  | some r=>some r
  | none=>match fromL l with
   | some sl=>match cfun P Γ N f with
    | ⟨g⟩=>match g (fvD known N n) (fvH known N n) sl [] with
     | some (x,η,_)=>(datRes η x).map (·.1)
     | none=>none
   | none=>none
def fvH (known:FuncId→List AV→Option AV) (N:Nat):Nat→FuncId→List SB→List SV→Option (List SB×SV×List Nat)
 | 0,_,_,_=>none
 | n+1,f,η,l=>match cfun P Γ N f with
  | ⟨g⟩=>match g (fvD known N n) (fvH known N n) l η with
   | some (x,h,wl)=>match cutFin η.length (datFin η.length x h) with
    | (h',y)=>some (h',y,wl.filter (fun i=>decide (i<η.length)))
   | none=>none
end
variable {P Γ}
theorem fv_eq {known:FuncId→List AV→Option AV} {N:Nat}:∀ n,fvD P Γ known N n=evD P Γ known N n∧fvH P Γ known N n=evH P Γ known N n
 | 0=>⟨by funext f l;simp [fvD,evD],by funext f η l;simp [fvH,evH]⟩
 | n + 1 => by
  obtain ⟨h1,h2⟩:=fv_eq (known:=known) (N:=N) n
  constructor
  · funext f l
    unfold fvD evD
    rw [h1,h2]
    split
    · rename_i r hr;simp only [hr]
    · rename_i hr
      simp only [hr]
      cases fromL l with
      | none=>rfl
      | some sl=>
       have:=cfun_eq (P:=P) (Γ:=Γ) (N:=N) (f:=f) (cD:=evD P Γ known N n) (cH:=evH P Γ known N n) (l:=sl) (η:=[])
       cases hc:cfun P Γ N f with
       | mk g=>
        rw [hc] at this
        simp only []
        rw [←this]
        rfl
  · funext f η l
    unfold fvH evH
    rw [h1,h2]
    have:=cfun_eq (P:=P) (Γ:=Γ) (N:=N) (f:=f) (cD:=evD P Γ known N n) (cH:=evH P Γ known N n) (l:=l) (η:=η)
    cases hc:cfun P Γ N f with
    | mk g=>
     rw [hc] at this
     simp only []
     rw [←this]
     rfl
theorem CallsD.fv {known:FuncId→List AV→Option AV} (hK:OkD Γ P known) {N n:Nat} {f:FuncId} {l:List AV} {r:AV} (h:fvD P Γ known N n f l=some r):CallsD Γ P f l r:=CallsD.ev hK (by rw [←(fv_eq _).1];exact h)
theorem CallsH.fv {known:FuncId→List AV→Option AV} (hK:OkD Γ P known) {N n:Nat} {f:FuncId} {η η':List SB} {l:List SV} {r:SV} {ch:List Nat} (h:fvH P Γ known N n f η l=some (η',r,ch)):CallsH Γ P f η l η' r:=CallsH.ev hK (by rw [←(fv_eq _).2];exact h)
end
end Go.Hp

namespace Go.Hp
open Go Go.RowKit Go.Slot
variable {P:Program} {Γ:List (Nat×List Cell)}
def strAV (l:List UInt8):AV:=.one (.raw (.string ⟨⟨l⟩⟩))
theorem OkD.or {k k':FuncId→List AV→Option AV} (h:OkD Γ P k) (h':OkD Γ P k'):OkD Γ P (fun f l=>match k f l with
 | .some r=>.some r
 | .none=>k' f l):=fun f l r e=>by
 simp only at e
 split at e
 · rename_i x hx;cases e;exact h _ _ _ hx
 · exact h' _ _ _ e
end Go.Hp

namespace Go.Hp
open Go Go.RowKit Go.Slot
variable {P:Program} {Γ:List (Nat×List Cell)}
def rnHC (r:Nat→Nat):HC→HC
 | .ptr b o=>.ptr (r b) o
 | .pel b es k f=>.pel (r b) es k f
 | .sl b es lo n=>.sl (r b) es lo n
 | .mp b=>.mp (r b)
 | .fnr b=>.fnr (r b)
 | .any=>.any
 | .dat c=>.dat c
def rnSV0 (r:Nat→Nat):SV→SV
 | .one h=>.one (rnHC r h)
 | .agg l=>.agg (l.map (rnHC r))
 | .any=>.any
 | .undef=>.undef
 | .elt cs=>.elt cs
 | .tup l=>.tup l
def rnSV (r:Nat→Nat):SV→SV
 | .one h=>.one (rnHC r h)
 | .agg l=>.agg (l.map (rnHC r))
 | .any=>.any
 | .undef=>.undef
 | .elt cs=>.elt cs
 | .tup l=>.tup (l.map (rnSV0 r))
def rnSB (r:Nat→Nat):SB→SB
 | .box l T=>.box (l.map (rnHC r)) T
 | .map es=>.map (es.map fun p=>(p.1,rnSV0 r p.2))
 | .clo f l=>.clo f (l.map (rnSV0 r))
 | .fresh=>.fresh
 | .dead=>.dead
 | .arr c k T=>.arr c k T
theorem rnSB_own {r:Nat→Nat} {x:SB}:(rnSB r x).own=x.own:=by cases x<;>rfl
theorem rnSB_mut {r:Nat→Nat} {o:Nat} {x:SB}:(rnSB r x).mut o↔x.mut o:=by cases x<;>exact Iff.rfl
theorem rnSB_fresh {r:Nat→Nat} {x:SB}:rnSB r x=.fresh↔x=.fresh:=by cases x<;>simp [rnSB]
structure Rn (r:Nat→Nat) (η:List SB) (ρ:Nat→Value) (η':List SB) (ρ':Nat→Value):Prop where
 ok:∀ b,okB η b→okB η' (r b)
 back:∀ b,okB η' (r b)→okB η b
 rho:∀ b,ρ' (r b)=ρ b
section
variable {r:Nat→Nat} {η η':List SB} {ρ ρ':Nat→Value} {M:Nat→Nat→Prop} {w:World}
theorem HRd.rn (R:Rn r η ρ η' ρ') {v:Value} {h:HC}:HRd η' ρ' M w v (rnHC r h)↔HRd η ρ M w v h:=by
 have hb:∀ b,okB η' (r b)↔okB η b:=fun b=>⟨R.back b,R.ok b⟩
 cases h<;>simp only [rnHC,HRd,hb,R.rho]
theorem HRL.rn (R:Rn r η ρ η' ρ'):∀{vs:List Value} {l:List HC},HRL η' ρ' M w vs (l.map (rnHC r))↔HRL η ρ M w vs l
 | [],[]=>Iff.rfl
 | [],_::_=>Iff.rfl
 | _::_,[]=>Iff.rfl
 | _::_,_::_=>by simp only [List.map_cons,HRL,HRd.rn R,HRL.rn R]
theorem SVR0.rn (R:Rn r η ρ η' ρ') {v:Value} {x:SV}:SVR0 η' ρ' M w v (rnSV0 r x)↔SVR0 η ρ M w v x:=by
 cases x<;>simp only [rnSV0,SVR0,HRd.rn R,HRL.rn R]
theorem SRL.rn (R:Rn r η ρ η' ρ'):∀{vs:List Value} {l:List SV},SRL η' ρ' M w vs (l.map (rnSV0 r))↔SRL η ρ M w vs l
 | [],[]=>Iff.rfl
 | [],_::_=>Iff.rfl
 | _::_,[]=>Iff.rfl
 | _::_,_::_=>by simp only [List.map_cons,SRL,SVR0.rn R,SRL.rn R]
theorem SVR.rn (R:Rn r η ρ η' ρ') {v:Value} {x:SV}:SVR η' ρ' M w v (rnSV r x)↔SVR η ρ M w v x:=by
 cases x with
 | tup l=>simp only [rnSV,SVR,SRL.rn R]
 | one h=>exact HRd.rn R
 | agg l=>simp only [rnSV,SVR,SVR0,HRL.rn R]
 | _=>exact Iff.rfl
theorem EnR.rn (R:Rn r η ρ η' ρ'):∀{es:List MapEntry} {l:List (Value×SV)},EnR η' ρ' M w es (l.map fun p=>(p.1,rnSV0 r p.2))↔EnR η ρ M w es l
 | [],[]=>Iff.rfl
 | [],_::_=>Iff.rfl
 | _::_,[]=>Iff.rfl
 | _::_,_::_=>by simp only [List.map_cons,EnR,SVR0.rn R,EnR.rn R]
theorem SBR.rn (R:Rn r η ρ η' ρ') {v:Value} {x:SB}:SBR η' ρ' M w v (rnSB r x)↔SBR η ρ M w v x:=by
 cases x<;>simp only [rnSB,SBR,HRL.rn R,EnR.rn R,SRL.rn R]
end
def atR (φ:List Nat) (N:Nat) (i:Nat):Nat:=match φ[i]? with
 | some j=>j
 | none=>N+(i-φ.length)
def partOk (φ:List Nat) (η ηs:List SB):Prop:=ηs.length=φ.length∧∀(i:Nat) (x:SB),ηs[i]? = some x→∃ j:Nat,φ[i]? = some j∧η[j]? = some (rnSB (atR φ η.length) x)
def putR (φ:List Nat) (η η':List SB):List SB:=appL (φ.zip (η'.map (rnSB (atR φ η.length)))) η++(η'.drop φ.length).map (rnSB (atR φ η.length))
theorem appL_zip_not {α:Type}:∀(φ:List Nat) (xs l:List α) (j:Nat),j∉φ→(appL (φ.zip xs) l)[j]? = l[j]?
 | [],_,_,_,_=>rfl
 | _::_,[],_,_,_=>rfl
 | i::φ,x::xs,l,j,h=>by
  simp only [List.mem_cons,not_or] at h
  show (appL (φ.zip xs) (l.set i x))[j]? = _
  rw [appL_zip_not φ xs _ j h.2,List.getElem?_set_ne (Ne.symm h.1)]
theorem appL_zip_at {α:Type}:∀(φ:List Nat) (xs l:List α) (i j:Nat) (x:α),φ.Nodup→φ[i]? = some j→xs[i]? = some x→j<l.length→(appL (φ.zip xs) l)[j]? = some x
 | [],_,_,_,_,_,_,h,_,_=>by simp at h
 | _::_,[],_,_,_,_,_,_,h,_=>by simp at h
 | k::φ,y::xs,l,i,j,x,hn,h,hx,hl=>by
  show (appL (φ.zip xs) (l.set k y))[j]? = _
  rw [List.nodup_cons] at hn
  cases i with
  | zero=>
   simp only [List.getElem?_cons_zero,Option.some.injEq] at h hx
   subst h;subst hx
   rw [appL_zip_not φ xs _ k hn.1,List.getElem?_set_self hl]
  | succ i=>
   simp only [List.getElem?_cons_succ] at h hx
   exact appL_zip_at φ xs _ i j x hn.2 h hx (by simpa using hl)
section
variable {φ:List Nat} {η ηs ηs':List SB}
theorem atR_lt {N i j:Nat} (h:φ[i]? = some j):atR φ N i=j:=by unfold atR;rw [h]
theorem atR_ge {N i:Nat} (h:φ.length≤i):atR φ N i=N+(i-φ.length):=by unfold atR;rw [List.getElem?_eq_none h]
theorem putR_len:(putR φ η ηs').length=η.length+(ηs'.length-φ.length):=by unfold putR;simp [appL_length]
theorem putR_at (hn:φ.Nodup) (hb:∀ j∈φ,j<η.length) {i:Nat} {x:SB} (hx:ηs'[i]? = some x):(putR φ η ηs')[atR φ η.length i]? = some (rnSB (atR φ η.length) x):=by
 unfold putR
 by_cases hi:i<φ.length
 · have hj:φ[i]? = some φ[i]:=List.getElem?_eq_getElem hi
   rw [atR_lt hj,List.getElem?_append_left (by rw [appL_length];exact hb _ (List.getElem_mem hi))]
   exact appL_zip_at φ _ η i _ _ hn hj (by rw [List.getElem?_map,hx];rfl) (hb _ (List.getElem_mem hi))
 · rw [atR_ge (by omega),List.getElem?_append_right (by rw [appL_length];omega),appL_length]
   rw [show η.length+(i-φ.length)-η.length=i-φ.length from by omega,List.getElem?_map,List.getElem?_drop,show φ.length+(i-φ.length)=i from by omega,hx]
   rfl
theorem putR_not {j:Nat} (hl:j<η.length) (h:j∉φ):(putR φ η ηs')[j]? = η[j]?:=by
 unfold putR
 rw [List.getElem?_append_left (by rw [appL_length];exact hl),appL_zip_not φ _ _ j h]
theorem putR_inv (hn:φ.Nodup) (hb:∀ j∈φ,j<η.length) (hlen:φ.length≤ηs'.length) {j:Nat} {y:SB} (h:(putR φ η ηs')[j]? = some y) :
 (∃ i x,j=atR φ η.length i∧ηs'[i]? = some x∧y=rnSB (atR φ η.length) x)∨(j∉φ∧j<η.length∧η[j]? = some y):=by
 have hjl:j<(putR φ η ηs').length:=(List.getElem?_eq_some_iff.1 h).1
 rw [putR_len] at hjl
 have key:∀ i,i<ηs'.length→j=atR φ η.length i→∃ i x,j=atR φ η.length i∧ηs'[i]? = some x∧y=rnSB (atR φ η.length) x:=fun i hi e=>by
  have hx:ηs'[i]? = some ηs'[i]:=List.getElem?_eq_getElem hi
  refine ⟨i,_,e,hx,?_⟩
  have:=putR_at hn hb hx
  rw [←e,h] at this
  exact (Option.some.inj this)
 by_cases hm:j∈φ
 · obtain ⟨i,hi,e⟩:=List.getElem_of_mem hm
   exact .inl (key i (by omega) (by rw [atR_lt (List.getElem?_eq_getElem hi),e]))
 · by_cases hj:j<η.length
   · rw [putR_not hj hm] at h
     exact .inr ⟨hm,hj,h⟩
   · exact .inl (key (φ.length+(j-η.length)) (by omega) (by rw [atR_ge (by omega)];omega))
end
def unR (φ:List Nat) (N j:Nat):Nat:=if j<N then φ.idxOf j else φ.length+(j-N)
theorem unR_at {φ:List Nat} {N:Nat} (hn:φ.Nodup) (hb:∀ j∈φ,j<N) (i:Nat):unR φ N (atR φ N i)=i:=by
 unfold unR
 by_cases hi:i<φ.length
 · rw [atR_lt (List.getElem?_eq_getElem hi),if_pos (hb _ (List.getElem_mem hi))]
   exact hn.idxOf_getElem i hi
 · rw [atR_ge (by omega),if_neg (by omega)];omega
theorem CallsH.frame {f:FuncId} {φ:List Nat} {η ηs ηs':List SB} {args:List SV} {res:SV} (hn:φ.Nodup) (hb:∀ j∈φ,j<η.length) (hp:partOk φ η ηs) (hlen:φ.length≤ηs'.length) (h:CallsH Γ P f ηs args ηs' res) :
 CallsH Γ P f η (args.map (rnSV0 (atR φ η.length))) (putR φ η ηs') (rnSV (atR φ η.length) res):=by
 refine ⟨h.1,fun Mo ρ w vs hI hsr=>?_⟩
 generalize hr:atR φ η.length=r at hsr ⊢
 have hlt:∀ i,i<φ.length→r i<η.length∧r i∈φ:=fun i hi=>by
  rw [←hr,atR_lt (List.getElem?_eq_getElem hi)]
  exact ⟨hb _ (List.getElem_mem hi),List.getElem_mem hi⟩
 have hge:∀ i,φ.length≤i→η.length≤r i:=fun i hi=>by rw [←hr,atR_ge hi];omega
 have hun:∀ i,unR φ η.length (r i)=i:=fun i=>by rw [←hr];exact unR_at hn hb i
 have hinj:∀ i j,r i=r j→i=j:=fun i j e=>by rw [←hun i,←hun j,e]
 have hat:∀ i x,ηs[i]? = some x→η[r i]? = some (rnSB r x):=fun i x hx=>by
  obtain ⟨j,hj,hy⟩:=hp.2 i x hx
  rw [hr] at hy
  rw [←hr,atR_lt hj,hr];exact hy
 have hsl:∀ i x,ηs[i]? = some x→i<φ.length:=fun i x hx=>by
  have:=(List.getElem?_eq_some_iff.1 hx).1
  rw [hp.1] at this;exact this
 have hget:∀ i,i<φ.length→∃ x,ηs[i]? = some x:=fun i hi=>⟨_,List.getElem?_eq_getElem (by rw [hp.1];exact hi)⟩
 have hphi:∀ j,j∈φ→∃ i,i<φ.length∧r i=j:=fun j hj=>by
  obtain ⟨i,hi,e⟩:=List.getElem_of_mem hj
  exact ⟨i,hi,by rw [←hr,atR_lt (List.getElem?_eq_getElem hi),e]⟩
 have R0:Rn r ηs (fun i=>ρ (r i)) η ρ:=⟨fun b ⟨x,hx,hf⟩=>⟨_,hat b x hx,fun e=>hf (rnSB_fresh.1 e)⟩,fun b ⟨y,hy,hf⟩=>by
  have hbl:b<φ.length:=by
   rcases Nat.lt_or_ge b φ.length with h1 | h1
   · exact h1
   · have:=hge b h1
     rw [List.getElem?_eq_none this] at hy;cases hy
  obtain ⟨x,hx⟩:=hget b hbl
  have:=hat b x hx
  rw [hy] at this
  cases this
  exact ⟨x,hx,fun e=>hf (rnSB_fresh.2 e)⟩,fun b=>rfl⟩
 let Mo':Nat→Nat→Prop:=fun b o=>Mo b o∨∃ j x,j∉φ∧η[j]? = some x∧x.mut o∧real (ρ j)∧bk (ρ j)=b
 have hM:MX Mo' (fun i=>ρ (r i)) ηs=MX Mo ρ η:=by
  funext b o
  apply propext
  constructor
  · rintro ((hm | ⟨j,x,_,hx,hmut,hre,hbk⟩) | ⟨i,x,hx,hmut,hre,hbk⟩)
    · exact .inl hm
    · exact .inr ⟨j,x,hx,hmut,hre,hbk⟩
    · exact .inr ⟨_,_,hat i x hx,rnSB_mut.2 hmut,hre,hbk⟩
  · rintro (hm | ⟨j,y,hy,hmut,hre,hbk⟩)
    · exact .inl (.inl hm)
    · by_cases hj:j∈φ
      · obtain ⟨i,hi,rfl⟩:=hphi j hj
        obtain ⟨x,hx⟩:=hget i hi
        have:=hat i x hx
        rw [hy] at this;cases this
        exact .inr ⟨i,x,hx,rnSB_mut.1 hmut,hre,hbk⟩
      · exact .inl (.inr ⟨j,y,hj,hy,hmut,hre,hbk⟩)
 have hIs:HInv Γ Mo' (fun i=>ρ (r i)) ηs w:=by
  refine ⟨fun b o hm=>?_,fun i x hx=>?_,fun i j x y hx hy ho ho' hre hre' he=>?_,fun i x hx ho hre o hm=>?_,?_⟩
  · rcases hm with hm | ⟨j,x,_,hx,hmut,hre,rfl⟩
    · exact hI.bnd b o hm
    · exact (hI.blk j x hx).blk_lt (SB.mut_own hmut) hre
  · rw [hM];exact (SBR.rn R0).1 (hI.blk _ _ (hat i x hx))
  · exact hinj i j (hI.inj _ _ _ _ (hat i x hx) (hat j y hy) (by rw [rnSB_own];exact ho) (by rw [rnSB_own];exact ho') hre hre' he)
  · rcases hm with hm | ⟨j,y,hj,hy,hmut,hre',he⟩
    · exact hI.sep _ _ (hat i x hx) (by rw [rnSB_own];exact ho) hre o hm
    · have:=hI.inj _ _ _ _ hy (hat i x hx) (SB.mut_own hmut) (by rw [rnSB_own];exact ho) hre' hre he
      subst this
      exact hj (hlt i (hsl i x hx)).2
  · rw [hM];exact hI.glob
 have hsr':SRL ηs (fun i=>ρ (r i)) (MX Mo' (fun i=>ρ (r i)) ηs) w vs args:=by rw [hM];exact (SRL.rn R0).1 hsr
 refine (h.2 Mo' _ w vs hIs hsr').mono ?_
 rintro e w' ⟨v,ρs',rfl,hw,hv⟩
 let ρ':Nat→Value:=fun j=>if j∈φ∨η.length≤j then ρs' (unR φ η.length j) else ρ j
 have hρr:∀ i,ρ' (r i)=ρs' i:=fun i=>by
  show (if r i∈φ∨η.length≤r i then ρs' (unR φ η.length (r i)) else ρ (r i))=_
  rw [if_pos,hun]
  rcases Nat.lt_or_ge i φ.length with h1 | h1
  · exact .inl (hlt i h1).2
  · exact .inr (hge i h1)
 have hρn:∀ j,j∉φ→j<η.length→ρ' j=ρ j:=fun j h1 h2=>if_neg (fun h=>h.elim h1 (fun h=>by omega))
 have L1:∀ i x,ηs'[i]? = some x→(putR φ η ηs')[r i]? = some (rnSB r x):=fun i x hx=>by rw [←hr];exact putR_at hn hb hx
 have L2:∀ j y,(putR φ η ηs')[j]? = some y→(∃ i x,j=r i∧ηs'[i]? = some x∧y=rnSB r x)∨(j∉φ∧j<η.length∧η[j]? = some y):=fun j y hy=>by
  rw [←hr];exact putR_inv hn hb hlen hy
 have L3:∀ j,j∉φ→j<η.length→(putR φ η ηs')[j]? = η[j]?:=fun j h1 h2=>putR_not h2 h1
 have R1:Rn r ηs' ρs' (putR φ η ηs') ρ':=⟨fun b ⟨x,hx,hf⟩=>⟨_,L1 b x hx,fun e=>hf (rnSB_fresh.1 e)⟩,fun b ⟨y,hy,hf⟩=>by
  rcases L2 _ y hy with ⟨i,x,hi,hx,rfl⟩ | ⟨h1,h2,_⟩
  · rw [hinj _ _ hi];exact ⟨x,hx,fun e=>hf (rnSB_fresh.2 e)⟩
  · rcases Nat.lt_or_ge b φ.length with h3 | h3
    · exact absurd (hlt b h3).2 h1
    · exact absurd (hge b h3) (by omega),hρr⟩
 have hM':MX Mo' ρs' ηs'=MX Mo ρ' (putR φ η ηs'):=by
  funext b o
  apply propext
  constructor
  · rintro ((hm | ⟨j,x,hj,hx,hmut,hre,hbk⟩) | ⟨i,x,hx,hmut,hre,hbk⟩)
    · exact .inl hm
    · have hjl:=(List.getElem?_eq_some_iff.1 hx).1
      exact .inr ⟨j,x,by rw [L3 j hj hjl];exact hx,hmut,by rw [hρn j hj hjl];exact hre,by rw [hρn j hj hjl];exact hbk⟩
    · exact .inr ⟨_,_,L1 i x hx,rnSB_mut.2 hmut,by rw [hρr];exact hre,by rw [hρr];exact hbk⟩
  · rintro (hm | ⟨j,y,hy,hmut,hre,hbk⟩)
    · exact .inl (.inl hm)
    · rcases L2 j y hy with ⟨i,x,rfl,hx,rfl⟩ | ⟨h1,h2,h3⟩
      · rw [hρr] at hre hbk
        exact .inr ⟨i,x,hx,rnSB_mut.1 hmut,hre,hbk⟩
      · rw [hρn j h1 h2] at hre hbk
        exact .inl (.inr ⟨j,y,h1,h3,hmut,hre,hbk⟩)
 have hX:∀ k,Xb (fun i=>ρ (r i)) ηs k→Xb ρ η k:=fun k ⟨i,x,hx,ho,hre,hbk⟩=>⟨_,_,hat i x hx,by rw [rnSB_own];exact ho,hre,hbk⟩
 have hnX:∀ j x,j∉φ→η[j]? = some x→x.own=true→real (ρ j)→¬Xb (fun i=>ρ (r i)) ηs (bk (ρ j)):=fun j x hj hx ho hre ⟨i,y,hy,hoy,hrey,hbk⟩=>by
  have:=hI.inj _ _ _ _ (hat i y hy) hx (by rw [rnSB_own];exact hoy) ho hrey hre hbk
  subst this
  exact hj (hlt i (hsl i y hy)).2
 have hmv:Mv η ρ (MX Mo ρ η) w (putR φ η ηs') ρ' (MX Mo ρ' (putR φ η ηs')) w':=by
  refine ⟨fun b hb'=>?_,fun b hb'=>?_,by rw [←hM,←hM'];exact hw.keep,hw.grow⟩
  · have hbl:=okB_lt hb'
    by_cases hj:b∈φ
    · obtain ⟨i,hi,rfl⟩:=hphi b hj
      exact R1.ok i (hw.ok i (R0.back i hb'))
    · obtain ⟨x,hx,hf⟩:=hb'
      exact ⟨x,by rw [L3 b hj hbl];exact hx,hf⟩
  · have hbl:=okB_lt hb'
    by_cases hj:b∈φ
    · obtain ⟨i,hi,rfl⟩:=hphi b hj
      rw [hρr];exact hw.rho i (R0.back i hb')
    · exact hρn b hj hbl
 have hfar:∀ j x i y,j∉φ→η[j]? = some x→x.own=true→real (ρ j)→ηs'[i]? = some y→y.own=true→real (ρs' i)→bk (ρ j)≠bk (ρs' i):=fun j x i y hj hx ho hre hy hoy hrey he=>by
  rcases hw.fresh (bk (ρs' i)) ⟨i,y,hy,hoy,hrey,rfl⟩ with h1 | h1
  · have:=(hI.blk j x hx).blk_lt ho hre
    omega
  · rw [←he] at h1
    exact hnX j x hj hx ho hre h1
 refine ⟨v,ρ',rfl,⟨hmv.ok,hmv.rho,hmv.keep,hw.grow,⟨fun b o hm=>Nat.lt_of_lt_of_le (hI.bnd b o hm) hw.size,fun j y hy=>?_,fun j k y z hy hz ho ho' hre hre' he=>?_,fun j y hy ho hre o hm=>?_,?_⟩,hw.size,hw.os,hw.tape,hw.output,fun k hk hx=>hw.frame k hk (fun h=>hx (hX k h)),fun k ⟨j,y,hy,ho,hre,hbk⟩=>?_⟩,?_⟩
 · rcases L2 j y hy with ⟨i,x,rfl,hx,rfl⟩ | ⟨h1,h2,h3⟩
   · rw [hρr,←hM'];exact (SBR.rn R1).2 (hw.inv.blk i x hx)
   · rw [hρn j h1 h2]
     exact (hI.blk j y h3).mv hmv (fun ho hre=>hw.frame _ ((hI.blk j y h3).blk_lt ho hre) (hnX j y h1 h3 ho hre))
 · rcases L2 j y hy with ⟨i,x,rfl,hx,rfl⟩ | ⟨h1,h2,h3⟩<;>rcases L2 k z hz with ⟨i',x',rfl,hx',rfl⟩ | ⟨h1',h2',h3'⟩
   · rw [hρr] at hre he;rw [hρr] at hre' he
     rw [rnSB_own] at ho ho'
     rw [hw.inv.inj i i' x x' hx hx' ho ho' hre hre' he]
   · rw [hρr] at hre he;rw [hρn k h1' h2'] at hre' he
     rw [rnSB_own] at ho
     exact absurd he.symm (hfar k z i x h1' h3' ho' hre' hx ho hre)
   · rw [hρn j h1 h2] at hre he;rw [hρr] at hre' he
     rw [rnSB_own] at ho'
     exact absurd he (hfar j y i' x' h1 h3 ho hre hx' ho' hre')
   · rw [hρn j h1 h2] at hre he;rw [hρn k h1' h2'] at hre' he
     exact hI.inj j k y z h3 h3' ho ho' hre hre' he
 · rcases L2 j y hy with ⟨i,x,rfl,hx,rfl⟩ | ⟨h1,h2,h3⟩
   · rw [hρr] at hre hm
     rw [rnSB_own] at ho
     exact hw.inv.sep i x hx ho hre o (.inl hm)
   · rw [hρn j h1 h2] at hre hm
     exact hI.sep j y h3 ho hre o hm
 · rw [←hM'];exact hw.inv.glob
 · rcases L2 j y hy with ⟨i,x,rfl,hx,rfl⟩ | ⟨h1,h2,h3⟩
   · rw [hρr] at hre hbk
     rw [rnSB_own] at ho
     rcases hw.fresh k ⟨i,x,hx,ho,hre,hbk⟩ with h4 | h4
     · exact .inl h4
     · exact .inr (hX k h4)
   · rw [hρn j h1 h2] at hre hbk
     exact .inr ⟨j,y,h3,ho,hre,hbk⟩
 · rw [←hM'];exact (SVR.rn R1).2 hv
end Go.Hp

namespace Go.Hp
open Go Go.RowKit Go.Slot
variable {P:Program} {Γ:List (Nat×List Cell)}
inductive GhH where
 | join
 | own
 | clo
 | any (s:Nat)
 | room (n:Nat)
def ghOfH:List (Nat×List GhH)→Nat→List GhH
 | [],_=>[]
 | (i,l)::r,j=>bif i==j then l else ghOfH r j
def hasJoinH:List GhH→Bool
 | []=>false
 | .join::_=>true
 | .own::r=>hasJoinH r
 | .clo::r=>hasJoinH r
 | .any _::r=>hasJoinH r
 | .room _::r=>hasJoinH r
def hasOwn:List GhH→Bool
 | []=>false
 | .own::_=>true
 | .join::r=>hasOwn r
 | .clo::r=>hasOwn r
 | .any _::r=>hasOwn r
 | .room _::r=>hasOwn r
def hasClo:List GhH→Bool
 | []=>false
 | .clo::_=>true
 | .join::r=>hasClo r
 | .own::r=>hasClo r
 | .any _::r=>hasClo r
 | .room _::r=>hasClo r
def anyS:List GhH→List SV→List SV
 | [],σ=>σ
 | .any s::r,σ=>anyS r (σ.set s .any)
 | .join::r,σ=>anyS r σ
 | .own::r,σ=>anyS r σ
 | .clo::r,σ=>anyS r σ
 | .room _::r,σ=>anyS r σ
def freshL:Nat→List SB
 | 0=>[]
 | n+1=>.fresh::freshL n
def roomG:List GhH→List SB
 | []=>[.fresh]
 | .room n::_=>freshL n
 | .join::r=>roomG r
 | .own::r=>roomG r
 | .clo::r=>roomG r
 | .any _::r=>roomG r
theorem freshL_eq:∀ n:Nat,freshL n=List.replicate n .fresh
 | 0=>rfl
 | n+1=>by rw [freshL,freshL_eq n];rfl
theorem roomG_eq:∀ g:List GhH,∃ n,roomG g=List.replicate n .fresh
 | []=>⟨1,rfl⟩
 | .room n::_=>⟨n,freshL_eq n⟩
 | .join::r=>roomG_eq r
 | .own::r=>roomG_eq r
 | .clo::r=>roomG_eq r
 | .any _::r=>roomG_eq r
def nxtB (nb:Nat):List (Nat×SB)→Nat
 | []=>nb
 | p::r=>bif p.1==nb then nb+1 else nxtB nb r
def joinAtH:List (Nat×List GhH)→Code→Bool
 | [],_=>false
 | g::G,y=>match firstR y with
  | some id=>hasJoinH (ghOfH (g::G) id)
  | none=>false
def BadO (_o:Op) (_σ:List SV) (_η:List SB):Prop:=False
def BadCH (_c:Operand) (_σ:List SV):Prop:=False
def CallKD (Γ:List (Nat×List Cell)) (P:Program) (f:FuncId) (l:List AV) (η:List SB) (KD:Bool→AV→Prop) (KH:Bool→List SB→SV→Prop):Prop:=
 (∃ res,CallsD Γ P f l res∧KD true res)∨(∃ sl η2 res,fromL l=some sl∧CallsH Γ P f η sl η2 res∧KH true η2 res)
def CallKH (Γ:List (Nat×List Cell)) (P:Program) (f:FuncId) (η:List SB) (l:List SV) (K:Bool→List SB→SV→Prop):Prop:=∃ η2 res,CallsH Γ P f η l η2 res∧K true η2 res
def CallKG (Γ:List (Nat×List Cell)) (P:Program) (f:FuncId) (η:List SB) (l:List SV) (K:Bool→List (Nat×SB)→SV→Prop):Prop:=∃ heff res,CallsH Γ P f η l (appL heff η) res∧K true heff res
def FnKH (Γ:List (Nat×List Cell)) (P:Program) (p:(Nat→Nat→Prop)→World→Value→Prop) (args:List AV) (K:Bool→AV→Prop):Prop:=∃ F,p=FnSpecD Γ P F∧∃ res,F args res∧K true res
def MkKH (Γ:List (Nat×List Cell)) (P:Program) (f:FuncId) (caps:List AV) (K:Bool→(List AV→AV→Prop)→Prop):Prop:=∃ F,Callable P f∧(∀ args res,F args res→CallsD Γ P f (args++caps) res)∧K true F
theorem hcall {f:FuncId} {l:List AV} {η:List SB} {KD:Bool→AV→Prop} {KH:Bool→List SB→SV→Prop} {res:AV} (h:CallsD Γ P f l res) (hk:KD true res):CallKD Γ P f l η KD KH:=.inl ⟨res,h,hk⟩
theorem hcallh {f:FuncId} {l:List AV} {η:List SB} {KD:Bool→AV→Prop} {KH:Bool→List SB→SV→Prop} {sl:List SV} {η2:List SB} {res:SV} (h:CallsH Γ P f η sl η2 res) (hs:fromL l=some sl) (hk:KH true η2 res):CallKD Γ P f l η KD KH:=.inr ⟨sl,η2,res,hs,h,hk⟩
theorem hcallb {f:FuncId} {η:List SB} {l:List SV} {K:Bool→List SB→SV→Prop} {η2:List SB} {res:SV} (h:CallsH Γ P f η l η2 res) (hk:K true η2 res):CallKH Γ P f η l K:=⟨η2,res,h,hk⟩
theorem hcallg {f:FuncId} {η:List SB} {l:List SV} {K:Bool→List (Nat×SB)→SV→Prop} (heff:List (Nat×SB)) {res:SV} (h:CallsH Γ P f η l (appL heff η) res) (hk:K true heff res):CallKG Γ P f η l K:=⟨heff,res,h,hk⟩
theorem hfn {F:List AV→AV→Prop} {args:List AV} {K:Bool→AV→Prop} {res:AV} (h:F args res) (hk:K true res):FnKH Γ P (FnSpecD Γ P F) args K:=⟨F,rfl,res,h,hk⟩
def resK (o:Oper) (σ:List SV) (η:List SB) (b:Bool) (k:Bool→List SV→List SB→Prop):Option (SV×Option SB)→Prop
 | some (y,none)=>k b (appL (dstEff o y) σ) η
 | some (y,some x)=>k b (appL (dstEff o y) σ) (η++[x])
 | none=>BadO o.op σ η
def lookK (o:Oper) (σ:List SV) (η:List SB) (b:Bool) (k:Bool→List SV→List SB→Prop) (y:SV):Prop:=match o.dst with
 | some d=>k b (σ.set d y) η
 | none=>BadO o.op σ η
def doH (Γ:List (Nat×List Cell)) (P:Program) (x:HO) (o:Oper) (σ:List SV) (η:List SB) (b:Bool) (k:Bool→List SV→List SB→Prop):Prop:=match x with
 | .eff _ _ e h none=>k b (appL e σ) (appL h η)
 | .eff _ _ e h (some z)=>k b (appL e σ) (appL h η++[z])
 | .callD f l _ _ bs=>CallKD Γ P f l (appL (frzE η bs) η) (fun b res=>resK o σ (appL (frzE η bs) η) b k (resS η.length res)) (fun b η2 res=>k b (appL (dstEff o res) σ) η2)
 | .callF p l _ bs=>FnKH Γ P p l (fun b res=>resK o σ (appL (frzE η bs) η) b k (resS η.length res))
 | .callH f l _=>CallKH Γ P f η l (fun b η2 res=>k b (appL (dstEff o res) σ) η2)
 | .mk f caps _ bs=>MkKH Γ P f caps (fun b F=>k b (appL (dstEff o (.one (.dat (.fnp (FnSpecD Γ P F))))) σ) (appL (frzE η bs) η))
 | .look r z ok _ _=>lookK o σ η b k (lookV ok r z)
 | .bad=>BadO o.op σ η
def skipH (o:Oper) (σ:List SV) (η:List SB) (b:Bool) (k:Bool→List SV→List SB→Prop):Prop:=k b (appL (dstEff o .undef) σ) η
def gdH (Γ:List (Nat×List Cell)) (P:Program) (lit fn:Bool) (g:GR) (o:Oper) (σ:List SV) (η:List SB) (b:Bool) (k:Bool→List SV→List SB→Prop):Prop:=match g with
 | .plain=>doH Γ P (opF P Γ lit fn σ η η.length o) o σ η b k
 | .when _ c b'=>GuardK c b' (fun b=>doH Γ P (opF P Γ lit fn σ η η.length o) o σ η b k) (fun b=>skipH o σ η b k)
 | .skip _=>skipH o σ η b k
 | .bad=>BadO o.op σ η
theorem doH_ok {lit fn:Bool} {o:Oper} {σ:List SV} {η:List SB} {b:Bool} {k:Bool→List SV→List SB→Prop} (h:doH Γ P (opF P Γ lit fn σ η η.length o) o σ η b k):∃ b' σ2 η2,PStep Γ P o σ η σ2 η2∧k b' σ2 η2:=by
 cases hr:opF P Γ lit fn σ η η.length o with
 | eff rd rh e hf new=>
  have hs:=soundF hr
  rw [hr] at h
  cases new with
  | none=>exact ⟨_,_,_,HStep.p hs,h⟩
  | some x=>exact ⟨_,_,_,hs.2 rfl,h⟩
 | callD f l rd rh bs=>
  have hr':=opF_not hr (by simp)
  rw [hr] at h
  rcases h with ⟨res,h1,h2⟩ | ⟨sl,η2,res,h0,h1,h2⟩
  · unfold resK at h2
    split at h2
    · rename_i y hy;exact ⟨_,_,_,HStep.p (opH_callD hr' h1 hy),h2⟩
    · rename_i y x hy;exact ⟨_,_,_,(opH_callD hr' h1 hy).2 rfl,h2⟩
    · exact h2.elim
  · exact ⟨_,_,_,opH_callDH hr' h0 h1,h2⟩
 | callF p l rd bs=>
  have hr':=opF_not hr (by simp)
  rw [hr] at h
  obtain ⟨F,rfl,res,h1,h2⟩:=h
  unfold resK at h2
  split at h2
  · rename_i y hy;exact ⟨_,_,_,HStep.p (opH_callF hr' h1 hy),h2⟩
  · rename_i y x hy;exact ⟨_,_,_,(opH_callF hr' h1 hy).2 rfl,h2⟩
  · exact h2.elim
 | callH f l rd=>
  have hr':=opF_not hr (by simp)
  rw [hr] at h
  obtain ⟨η2,res,h1,h2⟩:=h
  exact ⟨_,_,_,(opH_callH hr' h1).1,h2⟩
 | mk f caps rd bs=>
  have hr':=opF_not hr (by simp)
  rw [hr] at h
  obtain ⟨F,h0,h1,h2⟩:=h
  exact ⟨_,_,_,(opH_mk hr' h0 h1).p,h2⟩
 | look r z ok rd rh=>
  have hr':=opF_not hr (by simp)
  rw [hr] at h
  have h:lookK o σ η b k (lookV ok r z):=h
  unfold lookK at h
  split at h
  · rename_i d hd
    rcases opH_look hr' with h1 | h1
    · have he:dstEff o (lookV ok r z)=[(d,lookV ok r z)]:=by unfold dstEff;rw [hd]
      rw [he] at h1
      exact ⟨_,_,_,h1.p,h⟩
    · rw [hd] at h1;cases h1
  · exact h.elim
 | bad=>rw [hr] at h;exact h.elim
theorem gdH_ok {lit fn:Bool} {ops:Array Oper} {o:Oper} {σ:List SV} {η:List SB} {b:Bool} {k:Bool→List SV→List SB→Prop} (h:gdH Γ P lit fn (guardH ops.toList σ o) o σ η b k):∃ b' σ2 η2,GP Γ P ops o σ η σ2 η2∧k b' σ2 η2:=by
 have hs:=guardH_spec (ops:=ops) (σ:=σ) (o:=o)
 unfold gdH at h
 split at h
 · rename_i hg
   obtain ⟨b',s,t,h1,h2⟩:=doH_ok h
   exact ⟨b',s,t,GP.plain (hs.1 hg) h1,h2⟩
 · rename_i d c b' hg
   obtain ⟨j,h1,h2,h3⟩:=hs.2.1 d c b' hg
   obtain ⟨hx,hy⟩:=h
   by_cases hcb:c=b'
   · subst hcb
     obtain ⟨b'',s,t,h4,h5⟩:=doH_ok (hx rfl)
     exact ⟨b'',s,t,GP.taken h1 h2 h3 h4,h5⟩
   · have hn:c = !b':=by cases c<;>cases b'<;>simp_all
     exact ⟨_,_,_,GP.skipped h1 h2 (.inl (by rw [h3,hn])),hy hn⟩
 · rename_i d hg
   obtain ⟨j,b',h1,h2,h3⟩:=hs.2.2 d hg
   exact ⟨_,_,_,GP.skipped h1 h2 (.inr h3),h⟩
 · exact h.elim
def RunFH (Γ:List (Nat×List Cell)) (P:Program) (lit fn:Bool) (ops:List Oper):Bool→List Oper→List SV→List SB→(Bool→List SV→List SB→Prop)→Prop
 | b,[],σ,η,K=>K b σ η
 | b,o::r,σ,η,K=>gdH Γ P lit fn (guardH ops σ o) o σ η b (fun b σ η=>RunFH Γ P lit fn ops b r σ η K)
theorem RunFH.run {lit fn:Bool} {ops:Array Oper}:∀(l:List Oper) (b:Bool) (σ:List SV) (η:List SB) (K:Bool→List SV→List SB→Prop),RunFH Γ P lit fn ops.toList b l σ η K→RunP Γ P ops l σ η (fun σ η=>∃ b,K b σ η)
 | [],b,_,_,_,h=>⟨b,h⟩
 | o::r,b,σ,η,K,h=>by
  unfold RunFH at h
  obtain ⟨b',σ2,η2,h1,h2⟩:=gdH_ok h
  exact ⟨_,_,h1,RunFH.run r b' _ _ K h2⟩
def resG (o:Oper) (σ:List SV) (η:List SB) (nb:Nat) (rd rh bs:List Nat) (b:Bool) (k:Bool→List Nat→List Nat→List (Nat×SV)→List (Nat×SB)→Prop):Option (SV×Option SB)→Prop
 | some (y,none)=>k b rd (rh++bs) (dstEff o y) (frzE η bs)
 | some (y,some x)=>roomB η nb=true∧k b rd (nb::(rh++bs)) (dstEff o y) (frzE η bs++[(nb,x)])
 | none=>BadO o.op σ η
def lookG (o:Oper) (σ:List SV) (η:List SB) (rd rh:List Nat) (b:Bool) (k:Bool→List Nat→List Nat→List (Nat×SV)→List (Nat×SB)→Prop) (y:SV):Prop:=match o.dst with
 | some d=>k b rd rh [(d,y)] []
 | none=>BadO o.op σ η
def doG (Γ:List (Nat×List Cell)) (P:Program) (x:HO) (o:Oper) (σ:List SV) (η:List SB) (nb:Nat) (b:Bool) (k:Bool→List Nat→List Nat→List (Nat×SV)→List (Nat×SB)→Prop):Prop:=match x with
 | .eff rd rh e h none=>k b rd rh e h
 | .eff rd rh e h (some z)=>roomB η nb=true∧k b rd (nb::rh) e (h++[(nb,z)])
 | .callD f l rd rh bs=>∃ res,CallsD Γ P f l res∧resG o σ η nb rd rh bs true k (resS nb res)
 | .callF p l rd bs=>FnKH Γ P p l (fun b res=>resG o σ η nb rd [] bs b k (resS nb res))
 | .callH f l rd=>CallKG Γ P f η l (fun b heff res=>k b rd (List.range η.length) (dstEff o res) heff)
 | .mk f caps rd bs=>MkKH Γ P f caps (fun b F=>k b rd bs (dstEff o (.one (.dat (.fnp (FnSpecD Γ P F))))) (frzE η bs))
 | .look r z ok rd rh=>lookG o σ η rd rh b k (lookV ok r z)
 | .bad=>BadO o.op σ η
def CallKE (Γ:List (Nat×List Cell)) (P:Program) (f:FuncId) (l:List AV) (K:Bool→AV→Prop):Prop:=∃ res,CallsD Γ P f l res∧K true res
theorem hcalle {f:FuncId} {l:List AV} {K:Bool→AV→Prop} {res:AV} (h:CallsD Γ P f l res) (hk:K true res):CallKE Γ P f l K:=⟨res,h,hk⟩
def onG (d:Nat) (k:Bool→List Nat→List Nat→List (Nat×SV)→List (Nat×SB)→Prop) (b:Bool) (rd rh:List Nat) (e:List (Nat×SV)) (h:List (Nat×SB)):Prop:=k b (d::rd) rh e h
def skipG (d:Nat) (o:Oper) (b:Bool) (k:Bool→List Nat→List Nat→List (Nat×SV)→List (Nat×SB)→Prop):Prop:=k b (d::dstRd o) [] (dstEff o .undef) []
def gdG (Γ:List (Nat×List Cell)) (P:Program) (lit fn:Bool) (nb:Nat) (g:GR) (o:Oper) (σ:List SV) (η:List SB) (b:Bool) (k:Bool→List Nat→List Nat→List (Nat×SV)→List (Nat×SB)→Prop):Prop:=match g with
 | .plain=>doG Γ P (opF P Γ lit fn σ η nb o) o σ η nb b k
 | .when d c b'=>GuardK c b' (fun b=>doG Γ P (opF P Γ lit fn σ η nb o) o σ η nb b (onG d k)) (fun b=>skipG d o b k)
 | .skip d=>skipG d o b k
 | .bad=>BadO o.op σ η
theorem doG_ok {lit fn:Bool} {o:Oper} {σ:List SV} {η:List SB} {nb:Nat} {b:Bool} {k:Bool→List Nat→List Nat→List (Nat×SV)→List (Nat×SB)→Prop} (h:doG Γ P (opF P Γ lit fn σ η nb o) o σ η nb b k):∃ b' rd rh e hf,HStep Γ P o σ η rd rh e hf∧k b' rd rh e hf:=by
 cases hr:opF P Γ lit fn σ η nb o with
 | eff rd rh e hf new=>
  have hs:=soundF hr
  rw [hr] at h
  cases new with
  | none=>exact ⟨_,_,_,_,_,hs,h⟩
  | some x=>exact ⟨_,_,_,_,_,hs.1 h.1,h.2⟩
 | callD f l rd rh bs=>
  have hr':=opF_not hr (by simp)
  rw [hr] at h
  obtain ⟨res,h1,h2⟩:=h
  unfold resG at h2
  split at h2
  · rename_i y hy;exact ⟨_,_,_,_,_,opH_callD hr' h1 hy,h2⟩
  · rename_i y x hy;exact ⟨_,_,_,_,_,(opH_callD hr' h1 hy).1 h2.1,h2.2⟩
  · exact h2.elim
 | callF p l rd bs=>
  have hr':=opF_not hr (by simp)
  rw [hr] at h
  obtain ⟨F,rfl,res,h1,h2⟩:=h
  unfold resG at h2
  split at h2
  · rename_i y hy;exact ⟨_,_,_,_,_,opH_callF hr' h1 hy,h2⟩
  · rename_i y x hy;exact ⟨_,_,_,_,_,(opH_callF hr' h1 hy).1 h2.1,h2.2⟩
  · exact h2.elim
 | callH f l rd=>
  have hr':=opF_not hr (by simp)
  rw [hr] at h
  obtain ⟨heff,res,h1,h2⟩:=h
  exact ⟨_,_,_,_,_,(opH_callH hr' h1).2 _ rfl,h2⟩
 | mk f caps rd bs=>
  have hr':=opF_not hr (by simp)
  rw [hr] at h
  obtain ⟨F,h0,h1,h2⟩:=h
  exact ⟨_,_,_,_,_,opH_mk hr' h0 h1,h2⟩
 | look r z ok rd rh=>
  have hr':=opF_not hr (by simp)
  rw [hr] at h
  have h:lookG o σ η rd rh b k (lookV ok r z):=h
  unfold lookG at h
  split at h
  · rename_i d hd
    rcases opH_look hr' with h1 | h1
    · have he:dstEff o (lookV ok r z)=[(d,lookV ok r z)]:=by unfold dstEff;rw [hd]
      rw [he] at h1
      exact ⟨_,_,_,_,_,h1,h⟩
    · rw [hd] at h1;cases h1
  · exact h.elim
 | bad=>rw [hr] at h;exact h.elim
theorem gdG_ok {lit fn:Bool} {ops:Array Oper} {o:Oper} {σ:List SV} {η:List SB} {nb:Nat} {b:Bool} {k:Bool→List Nat→List Nat→List (Nat×SV)→List (Nat×SB)→Prop} (h:gdG Γ P lit fn nb (guardH ops.toList σ o) o σ η b k):∃ b' rd rh e hf,GH Γ P ops o σ η rd rh e hf∧k b' rd rh e hf:=by
 have hs:=guardH_spec (ops:=ops) (σ:=σ) (o:=o)
 unfold gdG at h
 split at h
 · rename_i hg
   obtain ⟨b',rd,rh,e,hf,h1,h2⟩:=doG_ok h
   exact ⟨b',_,_,_,_,GH.plain (hs.1 hg) h1,h2⟩
 · rename_i d c b' hg
   obtain ⟨j,h1,h2,h3⟩:=hs.2.1 d c b' hg
   obtain ⟨hx,hy⟩:=h
   by_cases hcb:c=b'
   · subst hcb
     obtain ⟨b'',rd,rh,e,hf,h4,h5⟩:=doG_ok (hx rfl)
     exact ⟨b'',_,_,_,_,GH.taken h1 h2 h3 h4,h5⟩
   · have hn:c = !b':=by cases c<;>cases b'<;>simp_all
     exact ⟨_,_,_,_,_,GH.skipped h1 h2 (.inl (by rw [h3,hn])),hy hn⟩
 · rename_i d hg
   obtain ⟨j,b',h1,h2,h3⟩:=hs.2.2 d hg
   exact ⟨_,_,_,_,_,GH.skipped h1 h2 (.inr h3),h⟩
 · exact h.elim
def IndKH (ops:List Oper) (acc:List HR) (k:Bool→Prop):Prop:=indepH ops acc=true∧k true
theorem hind {ops:List Oper} {acc:List HR} {k:Bool→Prop} (h:indepH ops acc=true) (hk:k true):IndKH ops acc k:=⟨h,hk⟩
def RunGH (Γ:List (Nat×List Cell)) (P:Program) (lit fn:Bool):Nat→List Oper→Bool→List Oper→List HR→List SV→List SB→(Bool→List SV→List SB→Prop)→Prop
 | _,ops,_,[],acc,σ,η,K=>IndKH ops acc (fun b=>K b σ η)
 | nb,ops,b,o::r,acc,σ,η,K=>gdG Γ P lit fn nb (guardH ops σ o) o σ η b (fun b rd rh e h=>RunGH Γ P lit fn (nxtB nb h) ops b r (acc++[⟨rd,rh,e,h⟩]) (appL e σ) (appL h η) K)
theorem RunGH.runD {lit fn:Bool} {ops:Array Oper}:∀(l:List Oper) (nb:Nat) (b:Bool) (acc:List HR) (σ:List SV) (η:List SB) (K:Bool→List SV→List SB→Prop),RunGH Γ P lit fn nb ops.toList b l acc σ η K→RunDH Γ P ops ops.toList l acc σ η (fun σ η=>∃ b,K b σ η)
 | [],_,b,_,_,_,_,h=>⟨h.1,true,h.2⟩
 | o::r,nb,b,acc,σ,η,K,h=>by
  unfold RunGH at h
  obtain ⟨b',rd,rh,e,hf,h1,h2⟩:=gdG_ok h
  exact ⟨_,_,_,_,h1,RunGH.runD r _ b' _ _ _ K h2⟩
def thenHC (next:Bool→List SV→List SB→Prop) (Q:Exit→Bool→List SV→List SB→Prop):Exit→Bool→List SV→List SB→Prop
 | .normal=>next
 | .exit id=>Q (.exit id)
 | .goto l=>Q (.goto l)
 | .ret=>Q .ret
 | .panic c=>Q (.panic c)
 | .outgrown=>Q .outgrown
def inBlockHC (id:Nat) (Q:Exit→Bool→List SV→List SB→Prop):Exit→Bool→List SV→List SB→Prop
 | .normal=>Q .normal
 | .exit j=>if j=id then Q .normal else Q (.exit j)
 | .goto l=>Q (.goto l)
 | .ret=>Q .ret
 | .panic c=>Q (.panic c)
 | .outgrown=>Q .outgrown
def outH (Q:Exit→Bool→List SV→List SB→Prop):Exit→List SV→List SB→Prop:=fun e σ η=>∃ b,Q e b σ η
def LoopKH (Γ:List (Nat×List Cell)) (P:Program) (e:List SB) (_G:List (Nat×List GhH)) (c:Code) (Q:Exit→Bool→List SV→List SB→Prop) (σ:List SV) (η:List SB):Prop:=HCode Γ P e (.loop c) (outH Q) σ η
def JoinKH (Γ:List (Nat×List Cell)) (P:Program) (e:List SB) (_G:List (Nat×List GhH)) (x y:Code) (Q:Exit→Bool→List SV→List SB→Prop) (σ:List SV) (η:List SB):Prop:=HCode Γ P e (.seq x y) (outH Q) σ η
def DrawKH (P:Program) (k:Bool→Prop):Prop:=P.follows .mixedOrders=true∧k true
def condFH (c:Operand) (σ:List SV) (X Y:Bool→Prop):SV→Prop
 | .one (.dat (.raw (.bool p)))=>CondK p X Y
 | _=>BadCH c σ
def trimK (n:Nat) (k:Bool→List SV→List SB→Prop) (b:Bool) (σ:List SV) (η:List SB):Prop:=k b σ (trimF n η)
def RH (Γ:List (Nat×List Cell)) (P:Program) (e:List SB) (G:List (Nat×List GhH)):Code→Bool→(Exit→Bool→List SV→List SB→Prop)→List SV→List SB→Prop
 | .skip,b,Q,σ,η=>Q .normal b σ η
 | .region id ops false,b,Q,σ,η=>RunFH Γ P (!(hasOwn (ghOfH G id))) (!(hasClo (ghOfH G id))) ops.toList b ops.toList (anyS (ghOfH G id) σ) η (Q .normal)
 | .region id ops true,b,Q,σ,η=>DrawKH P (fun _=>RunGH Γ P (!(hasOwn (ghOfH G id))) (!(hasClo (ghOfH G id))) η.length ops.toList b ops.toList [] (anyS (ghOfH G id) σ) (η++roomG (ghOfH G id)) (trimK η.length (Q .normal)))
 | .seq x y,b,Q,σ,η=>seqF (joinAtH G y) (fun _=>JoinKH Γ P e G x y Q σ η) (fun _=>RH Γ P e G x b (thenHC (fun b σ η=>RH Γ P e G y b Q σ η) Q) σ η)
 | .cond c x y,_,Q,σ,η=>condFH c σ (fun b=>RH Γ P e G x b Q σ η) (fun b=>RH Γ P e G y b Q σ η) (opdS Γ σ c)
 | .block id x,b,Q,σ,η=>RH Γ P e G x b (inBlockHC id Q) σ η
 | .loop x,_,Q,σ,η=>LoopKH Γ P e G x Q σ η
 | .exit id,b,Q,σ,η=>Q (.exit id) b σ η
 | .ret,b,Q,σ,η=>Q .ret b σ η
 | .label _,b,Q,σ,η=>Q .normal b σ η
 | .scope x,b,Q,σ,η=>RH Γ P e G x b (fun x=>match x with
  | .goto _=>fun _ _ _=>False
  | x=>Q x) σ η
 | _,_,_,_,_=>False
variable {e:List SB} {G:List (Nat×List GhH)}
theorem SVleL.refl:∀ l:List SV,SVleL l l
 | []=>.nil
 | x::l=>.cons (.refl x) (SVleL.refl l)
theorem StH.anyS {e:List SB} {η:List SB}:∀(g:List GhH) (σ:List SV),StH Γ e σ η (anyS g σ) η
 | [],_=>StH.refl
 | .any s::r,σ=>by
  refine StH.trans (StH.slots (σ':=σ.set s .any) ?_) (StH.anyS r _)
  clear e η r
  induction σ generalizing s with
  | nil=>exact .nil
  | cons x σ ih=>
   cases s with
   | zero=>exact .cons (.any _) (SVleL.refl σ)
   | succ s=>exact .cons (.refl _) (ih s)
 | .join::r,σ=>StH.anyS r σ
 | .own::r,σ=>StH.anyS r σ
 | .clo::r,σ=>StH.anyS r σ
 | .room _::r,σ=>StH.anyS r σ
theorem StH.extendG {e:List SB} {σ:List SV} {η:List SB} (g:List GhH):StH Γ e σ η σ (η++roomG g):=fun _ ρ _ _ _ h=>by
 obtain ⟨n,hn⟩:=roomG_eq g
 rw [hn]
 exact ⟨ρ,h.go (Went.extend h.inv n)⟩
theorem trimF_st {e:List SB} {σ:List SV} {h:List SB} (n:Nat):StH Γ e σ h σ (trimF n h):=by
 unfold trimF
 split
 · rename_i hd
   have he:h=h.take n++[.fresh]:=by rw [←hd,List.take_append_drop]
   intro E ρ a w hE hI
   rw [he] at hI
   exact StH.unfresh E ρ a w hE hI
 · exact StH.refl
theorem RH.sound:∀(c:Code) (b:Bool) (Q:Exit→Bool→List SV→List SB→Prop) (σ:List SV) (η:List SB),RH Γ P e G c b Q σ η→HCode Γ P e c (outH Q) σ η:=by
 intro c
 induction c with
 | skip=>intro b Q σ η h;exact hcode_skip ⟨b,h⟩
 | region id ops dr=>
  intro b Q σ η h
  cases dr with
  | false=>exact HCode.le (StH.anyS _ _) (hcode_region (RunFH.run _ b _ _ _ h))
  | true=>
   have h':=RunGH.runD _ _ b [] _ _ _ h.2
   refine HCode.le (StH.trans (StH.anyS (ghOfH G id) σ) (StH.extendG (ghOfH G id))) (HCode.post (hcode_regionD (Q:=fun x s t=>x=.normal∧(∃ b,trimK η.length (Q .normal) b s t)) h.1 ?_) ?_)
   · have mono:∀(l:List Oper) (acc:List HR) (s:List SV) (t:List SB) (K K':List SV→List SB→Prop),(∀ s t,K s t→K' s t)→RunDH Γ P ops ops.toList l acc s t K→RunDH Γ P ops ops.toList l acc s t K':=by
      intro l
      induction l with
      | nil=>intro acc s t K K' hk h;exact ⟨h.1,hk _ _ h.2⟩
      | cons o r ih=>
       intro acc s t K K' hk ⟨rd,rh,ef,hf,h1,h2⟩
       exact ⟨rd,rh,ef,hf,h1,ih _ _ _ _ _ hk h2⟩
     exact mono _ _ _ _ _ _ (fun s t hst=>⟨rfl,hst⟩) h'
   · rintro x s t ⟨rfl,⟨b',hb⟩⟩
     exact ⟨s,trimF η.length t,trimF_st _,b',hb⟩
 | seq x y ihx ihy=>
  intro b Q σ η h
  have h:seqF (joinAtH G y) (fun _=>JoinKH Γ P e G x y Q σ η) (fun _=>RH Γ P e G x b (thenHC (fun b σ η=>RH Γ P e G y b Q σ η) Q) σ η):=h
  cases hj:joinAtH G y with
  | true=>rw [hj] at h;exact h
  | false=>
  rw [hj] at h
  have h:RH Γ P e G x b (thenHC (fun b σ η=>RH Γ P e G y b Q σ η) Q) σ η:=h
  refine hcode_seq ((ihx b _ σ η h).mono ?_)
  intro ex σ' η' ⟨b',h'⟩
  cases ex with
  | normal=>exact ihy b' Q σ' η' h'
  | _=>exact ⟨b',h'⟩
 | cond c x y ihx ihy=>
  intro b Q σ η h
  have h:condFH c σ (fun b=>RH Γ P e G x b Q σ η) (fun b=>RH Γ P e G y b Q σ η) (opdS Γ σ c):=h
  unfold condFH at h
  split at h
  · rename_i p hp
    exact hcode_cond hp (fun hb=>ihx _ _ _ _ (h.1 hb)) (fun hb=>ihy _ _ _ _ (h.2 hb))
  · exact h.elim
 | block id x ih=>
  intro b Q σ η h
  refine hcode_block ((ih b _ σ η h).mono ?_)
  intro ex σ' η' ⟨b',h'⟩
  cases ex with
  | exit j=>
   show inBlockH id (outH Q) (.exit j) σ' η'
   unfold inBlockHC at h'
   unfold inBlockH
   simp only at h' ⊢
   split at h'
   · rename_i hj;simp only [hj];exact ⟨b',h'⟩
   · rename_i hj;simp only [hj];exact ⟨b',h'⟩
  | _=>exact ⟨b',h'⟩
 | loop x ih=>intro b Q σ η h;exact h
 | exit id=>intro b Q σ η h;exact hcode_exit ⟨b,h⟩
 | ret=>intro b Q σ η h;exact hcode_ret ⟨b,h⟩
 | label l=>intro b Q σ η h;exact fun _ ρ _ _ _ hR=>wp_label ⟨_,_,ρ,⟨b,h⟩,hR⟩
 | scope x ih=>
  intro b Q σ η h E ρ a w hE hR
  refine wp_scope_straight (wp_mono (ih b _ σ η h E ρ a w hE hR) ?_)
  rintro y b' w' ⟨s,t,ρ',⟨b2,h2⟩,hR'⟩
  cases y with
  | goto l=>exact h2.elim
  | _=>exact ⟨_,_,ρ',⟨b2,h2⟩,hR'⟩
 | _=>intro b Q σ η h;exact h.elim
end Go.Hp

namespace Go.Hp
open Go Go.RowKit Go.Slot
variable {P:Program} {Γ:List (Nat×List Cell)} {e:List SB} {G:List (Nat×List GhH)}
def chS (a0 a1 a2 a3 a4 a5 a6 a7 a8 a9 a10 a11 a12 a13 a14 a15:SV) (r:List SV):List SV:=a0::a1::a2::a3::a4::a5::a6::a7::a8::a9::a10::a11::a12::a13::a14::a15::r
def packV:List SV→List SV
 | a0::a1::a2::a3::a4::a5::a6::a7::a8::a9::a10::a11::a12::a13::a14::a15::r=>chS a0 a1 a2 a3 a4 a5 a6 a7 a8 a9 a10 a11 a12 a13 a14 a15 (packV r)
 | l=>l
theorem packV_eq:∀ l:List SV,packV l=l
 | []=>rfl
 | [a0]=>rfl
 | [a0,a1]=>rfl
 | [a0,a1,a2]=>rfl
 | [a0,a1,a2,a3]=>rfl
 | [a0,a1,a2,a3,a4]=>rfl
 | [a0,a1,a2,a3,a4,a5]=>rfl
 | [a0,a1,a2,a3,a4,a5,a6]=>rfl
 | [a0,a1,a2,a3,a4,a5,a6,a7]=>rfl
 | [a0,a1,a2,a3,a4,a5,a6,a7,a8]=>rfl
 | [a0,a1,a2,a3,a4,a5,a6,a7,a8,a9]=>rfl
 | [a0,a1,a2,a3,a4,a5,a6,a7,a8,a9,a10]=>rfl
 | [a0,a1,a2,a3,a4,a5,a6,a7,a8,a9,a10,a11]=>rfl
 | [a0,a1,a2,a3,a4,a5,a6,a7,a8,a9,a10,a11,a12]=>rfl
 | [a0,a1,a2,a3,a4,a5,a6,a7,a8,a9,a10,a11,a12,a13]=>rfl
 | [a0,a1,a2,a3,a4,a5,a6,a7,a8,a9,a10,a11,a12,a13,a14]=>rfl
 | a0::a1::a2::a3::a4::a5::a6::a7::a8::a9::a10::a11::a12::a13::a14::a15::r=>by
  show chS a0 a1 a2 a3 a4 a5 a6 a7 a8 a9 a10 a11 a12 a13 a14 a15 (packV r)=_
  rw [packV_eq r];rfl
def endD (res:AV):Option (AV×List Nat)→Prop
 | some (av,_)=>RLe av res
 | none=>False
def endR (η:List SB) (res:AV):Option SV→Prop
 | some x=>endD res (datRes η x)
 | none=>False
theorem endR_ok {η:List SB} {res:AV} {o:Option SV} (h:endR η res o):∃ x av bs,o=some x∧datRes η x=some (av,bs)∧RLe av res:=by
 cases o with
 | none=>exact h.elim
 | some x=>
  have h:endD res (datRes η x):=h
  unfold endD at h
  split at h
  · rename_i av bs hd;exact ⟨x,av,bs,rfl,hd,h⟩
  · exact h.elim
def retDC (P:Program) (rs:List ResultVar) (res:AV):Exit→Bool→List SV→List SB→Prop
 | .ret,_,σ,η | .normal,_,σ,η=>endR η res (resHV P σ η rs)
 | _,_,_,_=>False
theorem CallsD.run (G:List (Nat×List GhH)) {f:FuncId} {fn:Func} {c:Code} {args:List AV} {sl:List SV} {res:AV} (hf:P.funcs[f]? = some fn) (hb:fn.body=some c) (hname:(fn.name == "runtime.NumGoroutine")=false) (ha:fromL args=some sl)
 (h:RH Γ P [] G c true (retDC P fn.results.toList res) (packV (sl++List.replicate (fn.ntmps-sl.length) .undef)) []):CallsD Γ P f args res:=by
 rw [packV_eq] at h
 refine CallsD.of hf hb hname ha ((RH.sound c true _ _ _ h).mono ?_)
 intro ex σ η ⟨b,h⟩
 cases ex with
 | normal=>exact endR_ok h
 | ret=>exact endR_ok h
 | _=>exact h.elim
def endH (Γ:List (Nat×List Cell)) (e η:List SB) (η':List SB) (res:SV):Option SV→Prop
 | some x=>StH Γ e [x] η [res] η'
 | none=>False
def retHC (Γ:List (Nat×List Cell)) (P:Program) (e:List SB) (rs:List ResultVar) (η':List SB) (res:SV):Exit→Bool→List SV→List SB→Prop
 | .ret,_,σ,η | .normal,_,σ,η=>endH Γ e η η' res (resHV P σ η rs)
 | _,_,_,_=>False
theorem endH_ok {η η':List SB} {res:SV} {o:Option SV} (h:endH Γ e η η' res o):∃ x,o=some x∧StH Γ e [x] η [res] η':=by
 cases o with
 | none=>exact h.elim
 | some x=>exact ⟨x,rfl,h⟩
theorem CallsH.run (G:List (Nat×List GhH)) {f:FuncId} {fn:Func} {c:Code} {η η':List SB} {args:List SV} {res:SV} (hf:P.funcs[f]? = some fn) (hb:fn.body=some c) (hname:(fn.name == "runtime.NumGoroutine")=false)
 (h:RH Γ P η G c true (retHC Γ P η fn.results.toList η' res) (packV (args++List.replicate (fn.ntmps-args.length) .undef)) η):CallsH Γ P f η args η' res:=by
 rw [packV_eq] at h
 refine CallsH.of hf hb hname ((RH.sound c true _ _ _ h).mono ?_)
 intro ex σ η1 ⟨b,h⟩
 cases ex with
 | normal=>exact endH_ok h
 | ret=>exact endH_ok h
 | _=>exact h.elim
theorem CallsD.le {f:FuncId} {args:List AV} {res res':AV} (h:CallsD Γ P f args res) (hle:RLe res res'):CallsD Γ P f args res':=
 ⟨h.1,fun M w vs hM hg hr=>(h.2 M w vs hM hg hr).mono (fun _ _ ⟨v,h1,h2,h3,h4⟩=>⟨v,h1,h2,h3.le hle,fun hh=>h4 (hle.holder hh)⟩)⟩
theorem LoopR.le {c:Code} {Q:Exit→List SV→List SB→Prop} {σ σ':List SV} {η η':List SB} (h:StH Γ e σ η σ' η') (hc:LoopR Γ P e c Q σ' η'):LoopR Γ P e c Q σ η:=fun E ρ a w hE hR=>by
 obtain ⟨ρ',hR'⟩:=h E ρ a w hE hR
 exact hc E ρ' a w hE hR'
theorem LoopR.fam {α : Type} {c : Code} {Q : Exit → List SV → List SB → Prop} (invS : α → List SV) (invH : α → List SB) (pre : α → Prop) (μ : α → Nat)
 (round:∀ x,pre x→HCode Γ P e c (thenH (fun σ' η'=>∃ y,pre y∧μ y<μ x∧StH Γ e σ' η' (invS y) (invH y)) Q) (invS x) (invH x)):∀(n:Nat) (x:α),μ x<n→pre x→LoopR Γ P e c Q (invS x) (invH x)
 | 0,_,h,_=>absurd h (Nat.not_lt_zero _)
 | n + 1, x, h, hx => LoopR.round ((round x hx).mono (fun ex σ η hq => by
  cases ex with
  | normal=>
   obtain ⟨y,h1,h2,h3⟩:=hq
   exact LoopR.le h3 (LoopR.fam invS invH pre μ round n y (by omega) h1)
  | _=>exact hq))
theorem hloop {α:Type} {c:Code} {Q:Exit→Bool→List SV→List SB→Prop} {σ:List SV} {η:List SB} (keep:List Nat) (ch:α→List (Nat×SV)) (hp:α→List SB) (pre:α→Prop) (μ:α→Nat) (x0:α) (h0:pre x0)
 (hle:StH Γ e σ η (appL (ch x0) (onlyV keep 0 σ)) (hp x0))
 (round:∀ x,pre x→RH Γ P e G c true (thenHC (hide (fun _ σ' η'=>∃ y,pre y∧μ y<μ x∧StH Γ e σ' η' (appL (ch y) (onlyV keep 0 σ)) (hp y)) ()) Q) (packV (appL (ch x) (onlyV keep 0 σ))) (hp x)):LoopKH Γ P e G c Q σ η:=
 HCode.le hle (LoopR.loop (LoopR.fam (fun x=>appL (ch x) (onlyV keep 0 σ)) hp pre μ (fun x hx=>(RH.sound c true _ _ _ (packV_eq (appL (ch x) (onlyV keep 0 σ))▸round x hx)).mono (fun ex σ' η' ⟨b,h⟩=>by
  cases ex with
  | normal=>exact h
  | _=>exact ⟨b,h⟩)) _ x0 (Nat.lt_succ_self _) h0))
def LoopRK (Γ:List (Nat×List Cell)) (P:Program) (e:List SB) (_G:List (Nat×List GhH)) (c:Code) (Q:Exit→Bool→List SV→List SB→Prop) (σ:List SV) (η:List SB):Prop:=LoopR Γ P e c (outH Q) σ η
theorem hround {c:Code} {Q:Exit→Bool→List SV→List SB→Prop} {σ:List SV} {η:List SB} (h:RH Γ P e G c true (thenHC (hide (fun _ σ' η'=>LoopRK Γ P e G c Q σ' η') ()) Q) σ η):LoopRK Γ P e G c Q σ η:=
 LoopR.round ((RH.sound c true _ _ _ h).mono (fun ex σ' η' ⟨b,h⟩=>by
  cases ex with
  | normal=>exact h
  | _=>exact ⟨b,h⟩))
theorem hunroll {c:Code} {Q:Exit→Bool→List SV→List SB→Prop} {σ:List SV} {η:List SB} (h:RH Γ P e G c true (thenHC (hide (fun _ σ' η'=>LoopRK Γ P e G c Q σ' η') ()) Q) σ η):LoopKH Γ P e G c Q σ η:=LoopR.loop (hround h)
theorem hjoin {α:Type} {x y:Code} {Q:Exit→Bool→List SV→List SB→Prop} {σ:List SV} {η:List SB} (keep:List Nat) (ch:α→List (Nat×SV)) (hp:α→List SB) (pre:α→Prop)
 (hx:RH Γ P e G x true (thenHC (hide (fun _ σ' η'=>∃ a,pre a∧StH Γ e σ' η' (appL (ch a) (onlyV keep 0 σ)) (hp a)) ()) Q) σ η)
 (hy:∀ a,pre a→RH Γ P e G y true Q (packV (appL (ch a) (onlyV keep 0 σ))) (hp a)):JoinKH Γ P e G x y Q σ η:=
 hcode_seq ((RH.sound x true _ _ _ hx).mono (fun ex σ' η' ⟨b,h⟩=>by
  cases ex with
  | normal=>
   obtain ⟨a,h1,h2⟩:=h
   exact HCode.le h2 (RH.sound y true _ _ _ (packV_eq (appL (ch a) (onlyV keep 0 σ))▸hy a h1))
  | _=>exact ⟨b,h⟩))
def nrmV (σ:List SV):List SV:=σ
theorem nrmV_cons {a:SV} {σ:List SV}:nrmV (a::σ)=a::σ:=_root_.id rfl
theorem nrmV_ch {a0 a1 a2 a3 a4 a5 a6 a7 a8 a9 a10 a11 a12 a13 a14 a15:SV} {r:List SV}:nrmV (chS a0 a1 a2 a3 a4 a5 a6 a7 a8 a9 a10 a11 a12 a13 a14 a15 r)=chS a0 a1 a2 a3 a4 a5 a6 a7 a8 a9 a10 a11 a12 a13 a14 a15 r:=_root_.id rfl
def nrmH (l:List HR):List HR:=l
theorem nrmH_nil:nrmH []=[]:=_root_.id rfl
theorem nrmH_cons {a:HR} {l:List HR}:nrmH (a::l)=a::l:=_root_.id rfl
def flF (c d:Bool) (A:Bool→Bool→Prop):Prop:=A c d
theorem flF_tt {A:Bool→Bool→Prop}:flF true true A=A true true:=_root_.id rfl
theorem flF_tf {A:Bool→Bool→Prop}:flF true false A=A true false:=_root_.id rfl
theorem flF_congr {c c' d d':Bool} {A:Bool→Bool→Prop} (h:c=c') (h2:d=d'):flF c d A=flF c' d' A:=by rw [h,h2]
theorem hide_3 {f:Bool→List SV→List SB→Prop} {u:U f} {b:Bool} {σ:List SV} {η:List SB}:hide f u b σ η=f b σ η:=_root_.id rfl
theorem hide_l {f:Bool→Bool→Prop} {u:U f} {b c:Bool}:hide f u b c=f b c:=_root_.id rfl
theorem hide_h {f:Bool→List SB→SV→Prop} {u:U f} {b:Bool} {η:List SB} {x:SV}:hide f u b η x=f b η x:=_root_.id rfl
theorem hide_g {f:Bool→List (Nat×SB)→SV→Prop} {u:U f} {b:Bool} {η:List (Nat×SB)} {x:SV}:hide f u b η x=f b η x:=_root_.id rfl
theorem hide_5 {f:Bool→List Nat→List Nat→List (Nat×SV)→List (Nat×SB)→Prop} {u:U f} {b:Bool} {rd rh:List Nat} {x:List (Nat×SV)} {y:List (Nat×SB)}:hide f u b rd rh x y=f b rd rh x y:=_root_.id rfl
theorem tickH_eff {rd rh:List Nat} {x:List (Nat×SV)} {y:List (Nat×SB)} {z:Option SB}:tick (HO.eff rd rh x y z)=HO.eff rd rh x y z:=_root_.id rfl
theorem tickH_callD {f:FuncId} {l:List AV} {rd rh bs:List Nat}:tick (HO.callD f l rd rh bs)=HO.callD f l rd rh bs:=_root_.id rfl
theorem tickH_callH {f:FuncId} {l:List SV} {rd:List Nat}:tick (HO.callH f l rd)=HO.callH f l rd:=_root_.id rfl
theorem tickH_look {r:Option SV} {z:SV} {ok:Bool} {rd rh:List Nat}:tick (HO.look r z ok rd rh)=HO.look r z ok rd rh:=_root_.id rfl
theorem tickG_plain:tick Hp.GR.plain=Hp.GR.plain:=_root_.id rfl
theorem tickG_when {d:Nat} {c b:Bool}:tick (Hp.GR.when d c b)=Hp.GR.when d c b:=_root_.id rfl
theorem tickG_skip {d:Nat}:tick (Hp.GR.skip d)=Hp.GR.skip d:=_root_.id rfl
theorem tickH_one {h:HC}:tick (SV.one h)=SV.one h:=_root_.id rfl
section
variable {Q:Exit→Bool→List SV→List SB→Prop} {σ:List SV} {η:List SB}
theorem rh_skip:RH Γ P e G .skip true Q σ η=Q .normal true σ η:=_root_.id rfl
theorem rh_region {id:Nat} {l:List Oper}:RH Γ P e G (.region id l.toArray false) true Q σ η=flF (tick (!(hasOwn (ghOfH G id)))) (tick (!(hasClo (ghOfH G id)))) (hide (fun lit fn=>RunFH Γ P lit fn l true l (nrmV (anyS (ghOfH G id) σ)) η (Q .normal)) ()):=_root_.id rfl
theorem rh_regionD {id:Nat} {l:List Oper}:RH Γ P e G (.region id l.toArray true) true Q σ η=DrawKH P (hide (fun _=>flF (tick (!(hasOwn (ghOfH G id)))) (tick (!(hasClo (ghOfH G id)))) (hide (fun lit fn=>RunGH Γ P lit fn η.length l true l (nrmH []) (nrmV (anyS (ghOfH G id) σ)) (η++roomG (ghOfH G id)) (hide (fun b s t=>trimK η.length (Q .normal) b s t) ())) ())) ()):=_root_.id rfl
theorem rh_seq {x y:Code}:RH Γ P e G (.seq x y) true Q σ η=seqF (tick (joinAtH G y)) (hide (fun _=>JoinKH Γ P e G x y Q σ η) ()) (hide (fun _=>RH Γ P e G x true (thenHC (hide (fun b σ η=>RH Γ P e G y b Q σ η) ()) Q) σ η) ()):=_root_.id rfl
theorem rh_cond {c:Operand} {x y:Code}:RH Γ P e G (.cond c x y) true Q σ η=condFH c σ (hide (fun b=>RH Γ P e G x b Q σ η) ()) (hide (fun b=>RH Γ P e G y b Q σ η) ()) (tick (opdS Γ σ c)):=_root_.id rfl
theorem rh_block {id:Nat} {x:Code}:RH Γ P e G (.block id x) true Q σ η=RH Γ P e G x true (inBlockHC id Q) σ η:=_root_.id rfl
theorem rh_loop {x:Code}:RH Γ P e G (.loop x) true Q σ η=LoopKH Γ P e G x Q σ η:=_root_.id rfl
theorem rh_exit {id:Nat}:RH Γ P e G (.exit id) true Q σ η=Q (.exit id) true σ η:=_root_.id rfl
theorem rh_ret:RH Γ P e G .ret true Q σ η=Q .ret true σ η:=_root_.id rfl
theorem runFH_nil {lit fn:Bool} {ops:List Oper} {K:Bool→List SV→List SB→Prop}:RunFH Γ P lit fn ops true [] σ η K=K true σ η:=_root_.id rfl
theorem runFH_cons {lit fn:Bool} {ops:List Oper} {o:Oper} {r:List Oper} {K:Bool→List SV→List SB→Prop}:RunFH Γ P lit fn ops true (o::r) σ η K=gdH Γ P lit fn (tick (guardH ops σ o)) o σ η true (hide (fun b σ η=>RunFH Γ P lit fn ops b r (nrmV σ) η K) ()):=_root_.id rfl
theorem runGH_nil {lit fn:Bool} {nb:Nat} {ops:List Oper} {acc:List HR} {K:Bool→List SV→List SB→Prop}:RunGH Γ P lit fn nb ops true [] acc σ η K=IndKH ops acc (hide (fun b=>K b σ η) ()):=_root_.id rfl
theorem runGH_cons {lit fn:Bool} {nb:Nat} {ops:List Oper} {o:Oper} {r:List Oper} {acc:List HR} {K:Bool→List SV→List SB→Prop}:RunGH Γ P lit fn nb ops true (o::r) acc σ η K=gdG Γ P lit fn nb (tick (guardH ops σ o)) o σ η true (hide (fun b rd rh x h=>RunGH Γ P lit fn (nxtB nb h) ops b r (nrmH (acc++[⟨rd,rh,x,h⟩])) (nrmV (appL x σ)) (appL h η) K) ()):=_root_.id rfl
theorem trimK_t {n:Nat} {k:Bool→List SV→List SB→Prop}:trimK n k true σ η=k true σ (trimF n η):=_root_.id rfl
end
section
variable {next:Bool→List SV→List SB→Prop} {Q:Exit→Bool→List SV→List SB→Prop}
theorem thenHC_normal:thenHC next Q .normal=next:=_root_.id rfl
theorem thenHC_exit {id:Nat}:thenHC next Q (.exit id)=Q (.exit id):=_root_.id rfl
theorem thenHC_ret:thenHC next Q .ret=Q .ret:=_root_.id rfl
theorem inBlockHC_normal {id:Nat}:inBlockHC id Q .normal=Q .normal:=_root_.id rfl
def selH (c:Bool) (x y:Bool→List SV→List SB→Prop):Bool→List SV→List SB→Prop:=match c with
 | true=>x
 | false=>y
theorem inBlockHC_exit {id j:Nat}:inBlockHC id Q (.exit j)=selH (j==id) (Q .normal) (Q (.exit j)):=by
 have h:inBlockHC id Q (.exit j)=if j=id then Q .normal else Q (.exit j):=rfl
 rw [h]
 unfold selH
 by_cases he:j=id
 · rw [if_pos he,show (j==id)=true from by simp [he]]
 · rw [if_neg he,show (j==id)=false from by simp [he]]
theorem selH_t {x y:Bool→List SV→List SB→Prop}:selH true x y=x:=rfl
theorem selH_f {x y:Bool→List SV→List SB→Prop}:selH false x y=y:=rfl
theorem selH_congr {c c':Bool} {x y:Bool→List SV→List SB→Prop} (h:c=c'):selH c x y=selH c' x y:=by rw [h]
theorem inBlockHC_ret {id:Nat}:inBlockHC id Q .ret=Q .ret:=_root_.id rfl
end
section
variable {o:Oper} {σ:List SV} {η:List SB} {b:Bool} {k:Bool→List SV→List SB→Prop}
theorem doH_eff {rd rh:List Nat} {x:List (Nat×SV)} {h:List (Nat×SB)}:doH Γ P (.eff rd rh x h none) o σ η b k=k b (appL x σ) (appL h η):=_root_.id rfl
theorem doH_new {rd rh:List Nat} {x:List (Nat×SV)} {h:List (Nat×SB)} {z:SB}:doH Γ P (.eff rd rh x h (some z)) o σ η b k=k b (appL x σ) (appL h η++[z]):=_root_.id rfl
theorem doH_callD {f:FuncId} {l:List AV} {rd rh bs:List Nat}:doH Γ P (.callD f l rd rh bs) o σ η b k=CallKD Γ P f l (appL (frzE η bs) η) (hide (fun b res=>resK o σ (appL (frzE η bs) η) b k (resS η.length res)) ()) (hide (fun b η2 res=>k b (appL (dstEff o res) σ) η2) ()):=_root_.id rfl
theorem doH_callH {f:FuncId} {l:List SV} {rd:List Nat}:doH Γ P (.callH f l rd) o σ η b k=CallKH Γ P f η l (hide (fun b η2 res=>k b (appL (dstEff o res) σ) η2) ()):=_root_.id rfl
theorem doH_look {r:Option SV} {z:SV} {ok:Bool} {rd rh:List Nat}:doH Γ P (.look r z ok rd rh) o σ η b k=lookK o σ η b k (lookV ok r z):=_root_.id rfl
theorem resK_some {y:SV}:resK o σ η b k (some (y,none))=k b (appL (dstEff o y) σ) η:=_root_.id rfl
theorem gdH_plain {lit fn:Bool}:gdH Γ P lit fn .plain o σ η b k=doH Γ P (tick (opF P Γ lit fn σ η η.length o)) o σ η b k:=_root_.id rfl
theorem gdH_when {lit fn:Bool} {d:Nat} {c b':Bool}:gdH Γ P lit fn (.when d c b') o σ η b k=GuardK c b' (hide (fun b=>doH Γ P (tick (opF P Γ lit fn σ η η.length o)) o σ η b k) ()) (hide (fun b=>skipH o σ η b k) ()):=_root_.id rfl
theorem gdH_skip {lit fn:Bool} {d:Nat}:gdH Γ P lit fn (.skip d) o σ η b k=skipH o σ η b k:=_root_.id rfl
end
section
variable {o:Oper} {σ:List SV} {η:List SB} {nb:Nat} {b:Bool} {k:Bool→List Nat→List Nat→List (Nat×SV)→List (Nat×SB)→Prop}
theorem doG_eff {rd rh:List Nat} {x:List (Nat×SV)} {h:List (Nat×SB)}:doG Γ P (.eff rd rh x h none) o σ η nb b k=k b rd rh x h:=_root_.id rfl
theorem doG_new {rd rh:List Nat} {x:List (Nat×SV)} {h:List (Nat×SB)} {z:SB}:doG Γ P (.eff rd rh x h (some z)) o σ η nb b k=(roomB η nb=true∧k b rd (nb::rh) x (h++[(nb,z)])):=_root_.id rfl
theorem doG_callD {f:FuncId} {l:List AV} {rd rh bs:List Nat}:doG Γ P (.callD f l rd rh bs) o σ η nb b k=CallKE Γ P f l (hide (fun b res=>resG o σ η nb rd rh bs b k (resS nb res)) ()):=_root_.id rfl
theorem doG_callH {f:FuncId} {l:List SV} {rd:List Nat}:doG Γ P (.callH f l rd) o σ η nb b k=CallKG Γ P f η l (hide (fun b heff res=>k b rd (List.range η.length) (dstEff o res) heff) ()):=_root_.id rfl
theorem resG_some {rd rh bs:List Nat} {y:SV}:resG o σ η nb rd rh bs b k (some (y,none))=k b rd (rh++bs) (dstEff o y) (frzE η bs):=_root_.id rfl
theorem onG_t {d:Nat} {rd rh:List Nat} {x:List (Nat×SV)} {h:List (Nat×SB)}:onG d k b rd rh x h=k b (d::rd) rh x h:=_root_.id rfl
theorem gdG_plain {lit fn:Bool}:gdG Γ P lit fn nb .plain o σ η b k=doG Γ P (tick (opF P Γ lit fn σ η nb o)) o σ η nb b k:=_root_.id rfl
theorem gdG_when {lit fn:Bool} {d:Nat} {c b':Bool}:gdG Γ P lit fn nb (.when d c b') o σ η b k=GuardK c b' (hide (fun b=>doG Γ P (tick (opF P Γ lit fn σ η nb o)) o σ η nb b (hide (fun b rd rh x h=>onG d k b rd rh x h) ())) ()) (hide (fun b=>skipG d o b k) ()):=_root_.id rfl
theorem gdG_skip {lit fn:Bool} {d:Nat}:gdG Γ P lit fn nb (.skip d) o σ η b k=skipG d o b k:=_root_.id rfl
end
theorem condFH_bool {c:Operand} {σ:List SV} {X Y:Bool→Prop} {p:Bool}:condFH c σ X Y (.one (.dat (.raw (.bool p))))=CondK p X Y:=_root_.id rfl
theorem retDC_ret {rs:List ResultVar} {res:AV} {b:Bool} {σ:List SV} {η:List SB}:retDC P rs res .ret b σ η=endR η res (tick (resHV P σ η rs)):=_root_.id rfl
theorem endR_some {η:List SB} {res:AV} {x:SV}:endR η res (some x)=endD res (tick (datRes η x)):=_root_.id rfl
theorem endD_some {res av:AV} {bs:List Nat}:endD res (some (av,bs))=RLe av res:=_root_.id rfl
theorem retHC_ret {rs:List ResultVar} {res:SV} {b:Bool} {σ:List SV} {η η':List SB}:retHC Γ P e rs η' res .ret b σ η=endH Γ e η η' res (tick (resHV P σ η rs)):=_root_.id rfl
theorem retHC_normal {rs:List ResultVar} {res:SV} {b:Bool} {σ:List SV} {η η':List SB}:retHC Γ P e rs η' res .normal b σ η=endH Γ e η η' res (tick (resHV P σ η rs)):=_root_.id rfl
theorem endH_some {res x:SV} {η η':List SB}:endH Γ e η η' res (some x)=StH Γ e [x] η [res] η':=_root_.id rfl
theorem tick_some {α:Type} {x:α}:tick (some x)=some x:=_root_.id rfl
theorem endR_congr {η η':List SB} {res:AV} {o o':Option SV} (h:o=o') (hη:η=η'):endR η res o=endR η' res o':=by rw [h,hη]
theorem endD_congr {res:AV} {o o':Option (AV×List Nat)} (h:o=o'):endD res o=endD res o':=by rw [h]
theorem endH_congr {e η η' η1:List SB} {res:SV} {o o':Option SV} (h:o=o') (hη:η=η1):endH Γ e η η' res o=endH Γ e η1 η' res o':=by rw [h,hη]
theorem StH_congr {e η η' η1 η1':List SB} {σ σ1 σ' σ1':List SV} (h:σ=σ1) (hη:η=η1) (h':σ'=σ1') (hη':η'=η1'):StH Γ e σ η σ' η'=StH Γ e σ1 η1 σ1' η1':=by rw [h,hη,h',hη']
section
variable {o o':Oper} {σ σ':List SV} {η η':List SB} {b:Bool}
theorem doH_congr {k:Bool→List SV→List SB→Prop} {x x':HO} (h:x=x'):doH Γ P x o σ η b k=doH Γ P x' o σ η b k:=by rw [h]
theorem doG_congr {nb:Nat} {k:Bool→List Nat→List Nat→List (Nat×SV)→List (Nat×SB)→Prop} {x x':HO} (h:x=x'):doG Γ P x o σ η nb b k=doG Γ P x' o σ η nb b k:=by rw [h]
theorem resG_congr {nb:Nat} {rd rh bs:List Nat} {k:Bool→List Nat→List Nat→List (Nat×SV)→List (Nat×SB)→Prop} {r r':Option (SV×Option SB)} (h:r=r'):resG o σ η nb rd rh bs b k r=resG o σ η nb rd rh bs b k r':=by rw [h]
theorem condFH_congr {c:Operand} {X Y:Bool→Prop} {v v':SV} (h:v=v'):condFH c σ X Y v=condFH c σ X Y v':=by rw [h]
theorem runFH_congr {lit fn:Bool} {ops l:List Oper} {K:Bool→List SV→List SB→Prop} (h:σ=σ') (hη:η=η'):RunFH Γ P lit fn ops b l σ η K=RunFH Γ P lit fn ops b l σ' η' K:=by rw [h,hη]
theorem runGH_congr {lit fn:Bool} {nb nb':Nat} {ops l:List Oper} {acc acc':List HR} {K:Bool→List SV→List SB→Prop} (hn:nb=nb') (ha:acc=acc') (h:σ=σ') (hη:η=η'):RunGH Γ P lit fn nb ops b l acc σ η K=RunGH Γ P lit fn nb' ops b l acc' σ' η' K:=by rw [h,ha,hη,hn]
end
def infoP (P:Program) (t:TypeId):TypeInfo:=(P.info? t).getD default
theorem gtS_zero {a:SV} {σ:List SV}:gtS (a::σ) 0=a:=rfl
theorem gtS_succ {a:SV} {σ:List SV} {n:Nat}:gtS (a::σ) (n+1)=gtS σ n:=rfl
theorem gB_zero {a:SB} {η:List SB}:gB (a::η) 0=a:=rfl
theorem gB_succ {a:SB} {η:List SB} {n:Nat}:gB (a::η) (n+1)=gB η n:=rfl
theorem appL_nilS {l:List SV}:appL [] l=l:=rfl
theorem appL_consS {p:Nat×SV} {r:List (Nat×SV)} {l:List SV}:appL (p::r) l=appL r (l.set p.1 p.2):=rfl
theorem appL_nilB {l:List SB}:appL [] l=l:=rfl
theorem appL_consB {p:Nat×SB} {r:List (Nat×SB)} {l:List SB}:appL (p::r) l=appL r (l.set p.1 p.2):=rfl
theorem opdS_tmp {σ:List SV} {t:Nat}:opdS Γ σ (.tmp t)=gtS σ t:=rfl
theorem opdS_const {σ:List SV} {v:Value}:opdS Γ σ (.const v)=constSV v:=rfl
theorem opdS_func {σ:List SV} {f:FuncId}:opdS Γ σ (.func f)=.one (.dat (.raw (.func (.func f) #[] #[]))):=rfl
theorem opdS_global {σ:List SV} {g:Nat}:opdS Γ σ (.global g)=globSV Γ g:=rfl
theorem nh_vw {σ:List SV} {d:Nat}:nh (σ.map vw) d=decide (d<σ.length):=by
 unfold nh
 by_cases h:d<σ.length
 · rw [List.getElem?_map,List.getElem?_eq_getElem h,decide_eq_true h]
   simp only [Option.map_some,vw_noHold,Bool.not_false]
 · rw [List.getElem?_map,List.getElem?_eq_none (by omega),decide_eq_false h]
   rfl
section
variable {a0 a1 a2 a3 a4 a5 a6 a7 a8 a9 a10 a11 a12 a13 a14 a15 x:SV} {r:List SV} {n:Nat}
theorem gtS_ch0:gtS (chS a0 a1 a2 a3 a4 a5 a6 a7 a8 a9 a10 a11 a12 a13 a14 a15 r) 0=a0:=rfl
theorem setS_ch0:(chS a0 a1 a2 a3 a4 a5 a6 a7 a8 a9 a10 a11 a12 a13 a14 a15 r).set 0 x=chS x a1 a2 a3 a4 a5 a6 a7 a8 a9 a10 a11 a12 a13 a14 a15 r:=rfl
theorem gtS_ch1:gtS (chS a0 a1 a2 a3 a4 a5 a6 a7 a8 a9 a10 a11 a12 a13 a14 a15 r) 1=a1:=rfl
theorem setS_ch1:(chS a0 a1 a2 a3 a4 a5 a6 a7 a8 a9 a10 a11 a12 a13 a14 a15 r).set 1 x=chS a0 x a2 a3 a4 a5 a6 a7 a8 a9 a10 a11 a12 a13 a14 a15 r:=rfl
theorem gtS_ch2:gtS (chS a0 a1 a2 a3 a4 a5 a6 a7 a8 a9 a10 a11 a12 a13 a14 a15 r) 2=a2:=rfl
theorem setS_ch2:(chS a0 a1 a2 a3 a4 a5 a6 a7 a8 a9 a10 a11 a12 a13 a14 a15 r).set 2 x=chS a0 a1 x a3 a4 a5 a6 a7 a8 a9 a10 a11 a12 a13 a14 a15 r:=rfl
theorem gtS_ch3:gtS (chS a0 a1 a2 a3 a4 a5 a6 a7 a8 a9 a10 a11 a12 a13 a14 a15 r) 3=a3:=rfl
theorem setS_ch3:(chS a0 a1 a2 a3 a4 a5 a6 a7 a8 a9 a10 a11 a12 a13 a14 a15 r).set 3 x=chS a0 a1 a2 x a4 a5 a6 a7 a8 a9 a10 a11 a12 a13 a14 a15 r:=rfl
theorem gtS_ch4:gtS (chS a0 a1 a2 a3 a4 a5 a6 a7 a8 a9 a10 a11 a12 a13 a14 a15 r) 4=a4:=rfl
theorem setS_ch4:(chS a0 a1 a2 a3 a4 a5 a6 a7 a8 a9 a10 a11 a12 a13 a14 a15 r).set 4 x=chS a0 a1 a2 a3 x a5 a6 a7 a8 a9 a10 a11 a12 a13 a14 a15 r:=rfl
theorem gtS_ch5:gtS (chS a0 a1 a2 a3 a4 a5 a6 a7 a8 a9 a10 a11 a12 a13 a14 a15 r) 5=a5:=rfl
theorem setS_ch5:(chS a0 a1 a2 a3 a4 a5 a6 a7 a8 a9 a10 a11 a12 a13 a14 a15 r).set 5 x=chS a0 a1 a2 a3 a4 x a6 a7 a8 a9 a10 a11 a12 a13 a14 a15 r:=rfl
theorem gtS_ch6:gtS (chS a0 a1 a2 a3 a4 a5 a6 a7 a8 a9 a10 a11 a12 a13 a14 a15 r) 6=a6:=rfl
theorem setS_ch6:(chS a0 a1 a2 a3 a4 a5 a6 a7 a8 a9 a10 a11 a12 a13 a14 a15 r).set 6 x=chS a0 a1 a2 a3 a4 a5 x a7 a8 a9 a10 a11 a12 a13 a14 a15 r:=rfl
theorem gtS_ch7:gtS (chS a0 a1 a2 a3 a4 a5 a6 a7 a8 a9 a10 a11 a12 a13 a14 a15 r) 7=a7:=rfl
theorem setS_ch7:(chS a0 a1 a2 a3 a4 a5 a6 a7 a8 a9 a10 a11 a12 a13 a14 a15 r).set 7 x=chS a0 a1 a2 a3 a4 a5 a6 x a8 a9 a10 a11 a12 a13 a14 a15 r:=rfl
theorem gtS_ch8:gtS (chS a0 a1 a2 a3 a4 a5 a6 a7 a8 a9 a10 a11 a12 a13 a14 a15 r) 8=a8:=rfl
theorem setS_ch8:(chS a0 a1 a2 a3 a4 a5 a6 a7 a8 a9 a10 a11 a12 a13 a14 a15 r).set 8 x=chS a0 a1 a2 a3 a4 a5 a6 a7 x a9 a10 a11 a12 a13 a14 a15 r:=rfl
theorem gtS_ch9:gtS (chS a0 a1 a2 a3 a4 a5 a6 a7 a8 a9 a10 a11 a12 a13 a14 a15 r) 9=a9:=rfl
theorem setS_ch9:(chS a0 a1 a2 a3 a4 a5 a6 a7 a8 a9 a10 a11 a12 a13 a14 a15 r).set 9 x=chS a0 a1 a2 a3 a4 a5 a6 a7 a8 x a10 a11 a12 a13 a14 a15 r:=rfl
theorem gtS_ch10:gtS (chS a0 a1 a2 a3 a4 a5 a6 a7 a8 a9 a10 a11 a12 a13 a14 a15 r) 10=a10:=rfl
theorem setS_ch10:(chS a0 a1 a2 a3 a4 a5 a6 a7 a8 a9 a10 a11 a12 a13 a14 a15 r).set 10 x=chS a0 a1 a2 a3 a4 a5 a6 a7 a8 a9 x a11 a12 a13 a14 a15 r:=rfl
theorem gtS_ch11:gtS (chS a0 a1 a2 a3 a4 a5 a6 a7 a8 a9 a10 a11 a12 a13 a14 a15 r) 11=a11:=rfl
theorem setS_ch11:(chS a0 a1 a2 a3 a4 a5 a6 a7 a8 a9 a10 a11 a12 a13 a14 a15 r).set 11 x=chS a0 a1 a2 a3 a4 a5 a6 a7 a8 a9 a10 x a12 a13 a14 a15 r:=rfl
theorem gtS_ch12:gtS (chS a0 a1 a2 a3 a4 a5 a6 a7 a8 a9 a10 a11 a12 a13 a14 a15 r) 12=a12:=rfl
theorem setS_ch12:(chS a0 a1 a2 a3 a4 a5 a6 a7 a8 a9 a10 a11 a12 a13 a14 a15 r).set 12 x=chS a0 a1 a2 a3 a4 a5 a6 a7 a8 a9 a10 a11 x a13 a14 a15 r:=rfl
theorem gtS_ch13:gtS (chS a0 a1 a2 a3 a4 a5 a6 a7 a8 a9 a10 a11 a12 a13 a14 a15 r) 13=a13:=rfl
theorem setS_ch13:(chS a0 a1 a2 a3 a4 a5 a6 a7 a8 a9 a10 a11 a12 a13 a14 a15 r).set 13 x=chS a0 a1 a2 a3 a4 a5 a6 a7 a8 a9 a10 a11 a12 x a14 a15 r:=rfl
theorem gtS_ch14:gtS (chS a0 a1 a2 a3 a4 a5 a6 a7 a8 a9 a10 a11 a12 a13 a14 a15 r) 14=a14:=rfl
theorem setS_ch14:(chS a0 a1 a2 a3 a4 a5 a6 a7 a8 a9 a10 a11 a12 a13 a14 a15 r).set 14 x=chS a0 a1 a2 a3 a4 a5 a6 a7 a8 a9 a10 a11 a12 a13 x a15 r:=rfl
theorem gtS_ch15:gtS (chS a0 a1 a2 a3 a4 a5 a6 a7 a8 a9 a10 a11 a12 a13 a14 a15 r) 15=a15:=rfl
theorem setS_ch15:(chS a0 a1 a2 a3 a4 a5 a6 a7 a8 a9 a10 a11 a12 a13 a14 a15 r).set 15 x=chS a0 a1 a2 a3 a4 a5 a6 a7 a8 a9 a10 a11 a12 a13 a14 x r:=rfl
theorem gtS_chS:gtS (chS a0 a1 a2 a3 a4 a5 a6 a7 a8 a9 a10 a11 a12 a13 a14 a15 r) (n+16)=gtS r n:=rfl
theorem setS_chS:(chS a0 a1 a2 a3 a4 a5 a6 a7 a8 a9 a10 a11 a12 a13 a14 a15 r).set (n+16) x=chS a0 a1 a2 a3 a4 a5 a6 a7 a8 a9 a10 a11 a12 a13 a14 a15 (r.set n x):=rfl
theorem length_chS:(chS a0 a1 a2 a3 a4 a5 a6 a7 a8 a9 a10 a11 a12 a13 a14 a15 r).length=r.length+16:=rfl
theorem packV_cons:packV (a0::a1::a2::a3::a4::a5::a6::a7::a8::a9::a10::a11::a12::a13::a14::a15::r)=chS a0 a1 a2 a3 a4 a5 a6 a7 a8 a9 a10 a11 a12 a13 a14 a15 (packV r):=rfl
theorem packV_ch:packV (chS a0 a1 a2 a3 a4 a5 a6 a7 a8 a9 a10 a11 a12 a13 a14 a15 r)=chS a0 a1 a2 a3 a4 a5 a6 a7 a8 a9 a10 a11 a12 a13 a14 a15 (packV r):=rfl
theorem packV_0:packV []=[]:=rfl
theorem packV_1:packV [a0]=[a0]:=rfl
theorem packV_2:packV [a0,a1]=[a0,a1]:=rfl
theorem packV_3:packV [a0,a1,a2]=[a0,a1,a2]:=rfl
theorem packV_4:packV [a0,a1,a2,a3]=[a0,a1,a2,a3]:=rfl
theorem packV_5:packV [a0,a1,a2,a3,a4]=[a0,a1,a2,a3,a4]:=rfl
theorem packV_6:packV [a0,a1,a2,a3,a4,a5]=[a0,a1,a2,a3,a4,a5]:=rfl
theorem packV_7:packV [a0,a1,a2,a3,a4,a5,a6]=[a0,a1,a2,a3,a4,a5,a6]:=rfl
theorem packV_8:packV [a0,a1,a2,a3,a4,a5,a6,a7]=[a0,a1,a2,a3,a4,a5,a6,a7]:=rfl
theorem packV_9:packV [a0,a1,a2,a3,a4,a5,a6,a7,a8]=[a0,a1,a2,a3,a4,a5,a6,a7,a8]:=rfl
theorem packV_10:packV [a0,a1,a2,a3,a4,a5,a6,a7,a8,a9]=[a0,a1,a2,a3,a4,a5,a6,a7,a8,a9]:=rfl
theorem packV_11:packV [a0,a1,a2,a3,a4,a5,a6,a7,a8,a9,a10]=[a0,a1,a2,a3,a4,a5,a6,a7,a8,a9,a10]:=rfl
theorem packV_12:packV [a0,a1,a2,a3,a4,a5,a6,a7,a8,a9,a10,a11]=[a0,a1,a2,a3,a4,a5,a6,a7,a8,a9,a10,a11]:=rfl
theorem packV_13:packV [a0,a1,a2,a3,a4,a5,a6,a7,a8,a9,a10,a11,a12]=[a0,a1,a2,a3,a4,a5,a6,a7,a8,a9,a10,a11,a12]:=rfl
theorem packV_14:packV [a0,a1,a2,a3,a4,a5,a6,a7,a8,a9,a10,a11,a12,a13]=[a0,a1,a2,a3,a4,a5,a6,a7,a8,a9,a10,a11,a12,a13]:=rfl
theorem packV_15:packV [a0,a1,a2,a3,a4,a5,a6,a7,a8,a9,a10,a11,a12,a13,a14]=[a0,a1,a2,a3,a4,a5,a6,a7,a8,a9,a10,a11,a12,a13,a14]:=rfl
theorem onlyV_ch {ks:List Nat} {i:Nat}:onlyV ks i (chS a0 a1 a2 a3 a4 a5 a6 a7 a8 a9 a10 a11 a12 a13 a14 a15 r)=onlyV ks i (a0::a1::a2::a3::a4::a5::a6::a7::a8::a9::a10::a11::a12::a13::a14::a15::r):=rfl
end
attribute [go_sem] gtS_ch0 gtS_ch1 gtS_ch2 gtS_ch3 gtS_ch4 gtS_ch5 gtS_ch6 gtS_ch7 gtS_ch8 gtS_ch9 gtS_ch10 gtS_ch11 gtS_ch12 gtS_ch13 gtS_ch14 gtS_ch15 setS_ch0 setS_ch1 setS_ch2 setS_ch3 setS_ch4 setS_ch5 setS_ch6 setS_ch7 setS_ch8 setS_ch9 setS_ch10 setS_ch11 setS_ch12 setS_ch13 setS_ch14 setS_ch15 packV_0 packV_1 packV_2 packV_3 packV_4 packV_5 packV_6 packV_7 packV_8 packV_9 packV_10 packV_11 packV_12 packV_13 packV_14 packV_15 gtS_chS setS_chS length_chS packV_cons packV_ch onlyV_ch
attribute [go_sem ↓] rh_skip rh_region rh_regionD rh_seq rh_cond rh_block rh_loop rh_exit rh_ret
attribute [go_sem] runFH_nil runFH_cons runGH_nil runGH_cons trimK_t nrmV_cons nrmV_ch nrmH_nil nrmH_cons
attribute [go_sem ↓] hide_3 hide_l hide_h hide_g hide_5
attribute [go_sem] tickH_eff tickH_callD tickH_callH tickH_look tickH_one tickG_plain tickG_when tickG_skip
attribute [go_sem ↓] thenHC_normal thenHC_exit thenHC_ret inBlockHC_normal inBlockHC_exit inBlockHC_ret
attribute [go_sem] selH_t selH_f flF_tt flF_tf
attribute [go_sem] doH_eff doH_new doH_callD doH_callH doH_look resK_some gdH_plain gdH_when gdH_skip skipH lookK
attribute [go_sem] doG_eff doG_new doG_callD doG_callH resG_some onG_t gdG_plain gdG_when gdG_skip skipG lookG
attribute [go_sem] condFH_bool retDC_ret retHC_ret retHC_normal endR_some endD_some endH_some tick_some
attribute [congr] doH_congr doG_congr resG_congr condFH_congr runFH_congr runGH_congr flF_congr selH_congr endR_congr endD_congr endH_congr StH_congr
attribute [go_sem] gtS_zero gtS_succ gB_zero gB_succ appL_nilS appL_consS appL_nilB appL_consB opdS_tmp opdS_const opdS_func opdS_global nh_vw
attribute [go_sem] ghOfH hasJoinH hasOwn hasClo anyS joinAtH onlyV roomG freshL nxtB
attribute [go_sem] guardH opF fMove fPick fBin fUn fLoad fStore fFieldAddr fIndexAddr fField fIndex fLen fCall fExtract fNil fBuild fAlloc fBox opH opP convO callO callO.callG opH.appO oldO oldR av2 vO nO isNil withT
attribute [go_sem] rawRaw rawS pickH cellsH loadHC TI.many seeH storeH fieldAddrH indexAddrH extractH ptrH lenH natH boundH sliceH argD argsD argsH fromAV fromL resS calleeH dstEff constSV globSV frzB frzE isArr subC toDat toDatL appT dstH srcH killE
attribute [go_sem] findM updM kEq keyOk keyV lookV mapAt noTup noTups resOneH resAllH resHV datRes trimF roomB roomO oB oN sidxS intS ckH isSlH isRefH lookO partH vw vwO vwG datL datH
end Go.Hp
