/- The proof, part Y11: Mo. -/
import Derived.Test.YtmegdbbbllffkaaGreatDoorY10
namespace Go.Slot
open Go Go.RowKit
variable {P:Program}
inductive OR where
 | eff (rd tk:List Nat) (eff:List (Nat×AV))
 | call (f:FuncId) (args:List AV) (rd:List Nat)
 | fn (p:(Nat->Nat->Prop)->World->Value->Prop) (args:List AV) (rd:List Nat)
 | mk (f:FuncId) (caps:List AV) (rd:List Nat)
 | own (f:FuncId) (l:List AV) (j s:Nat) (ov:OV) (rd:List Nat)
 | bad
def OR.of:Option (List Nat×List (Nat×AV))->OR
 | some (rd,e)=>.eff rd [] e
 | none=>.bad
def v58:Value->Option FuncId
 | .func (.func f) fs cs=>match fs.toList,cs.toList with
  | [],[]=>some f
  | _,_=>none
 | _=>none
theorem zb3 {v:Value} {f:FuncId} (h:v58 v=some f):v=.func (.func f) #[] #[]:=by
 unfold v58 at h;split at h
 . rename_i f' fs cs;split at h
   . rename_i h1 h2
     cases h
     have e1:fs=#[]:=by rw [<-Array.toArray_toList (xs:=fs),h1]
     have e2:cs=#[]:=by rw [<-Array.toArray_toList (xs:=cs),h2]
     rw [e1,e2]
   . cases h
 . cases h
def zcp (P:Program) (t:TypeId) (k:TI->OR):OR:=match mkTI P t with
 | some ti=>k ti
 | none=>.bad
def vofA (σ:List AV) (o:Oper) (rd:List Nat) (a:Option AV):OR:=match a with
 | some av=>.of (val σ o rd av)
 | none=>.bad
def vofB (σ:List AV) (o:Oper) (a:Option (List Nat×AV)):OR:=match a with
 | some (rd,av)=>.of (val σ o rd av)
 | none=>.bad
def yif (ti:TI) (av:AV):Bool:=match ti.sh with
 | .slice _ es _ _=>match av with
  | .one c=>match c.bare with
   | .ints _ _=>es==1
   | .sl n _=>es==n
   | _=>true
  | _=>true
 | _=>true
def ynz (P:Program) (ti:TI) (k:TI->OR):OR:=match ti.sh with
 | .slice e _ _ _=>zcp P e k
 | _=>.bad
def x8d (ti:TI):Bool:=match ti.sh with
 | .array _ _ es=>es != 0
 | _=>true
def AV.v7s:AV->Bool
 | .arr _ _ _ | .asl _ | .awn _ _ _ _=>true
 | _=>false
def opB (P:Program) (σ:List AV) (o:Oper):OR:=
 match o.op with
 | .move x=>.of (val σ o (orr x) (cpy x (opd σ x)))
 | .assign x=>.of (val σ o (orr x) (cpy x (opd σ x)))
 | .pick c x y=>vofA σ o (orr c++orr x++orr y) (wlx σ c x y)
 | .alloc T=>zcp P T fun ti=>.of (val σ o [] (.box ti.zc))
 | .box _ x=>match y8k (opd σ x) with
  | some cs=>.of (val σ o (orr x) (.box cs))
  | none=>.bad
 | .load T x=>zcp P T fun ti=>vofB σ o (z0a σ ti x)
 | .store T x y=>match o.dst with
  | none=>zcp P T fun ti=>match v9t σ ti x y with
   | some (rd,s,av)=>.eff rd [] [(s,av)]
   | none=>.bad
  | some _=>.bad
 | .fieldAddr S x f=>zcp P S fun ti=>vofA σ o (orr x) (vab σ ti x f)
 | .extract x n=>vofA σ o (orr x) (zfw σ x n)
 | .indexAddr T x y=>zcp P T fun ti=>vofB σ o (yru σ ti x y)
 | .binOp op _ x y _=>vofA σ o (orr x++orr y) (binA σ op x y)
 | .unOp op _ x=>vofA σ o (orr x) (unA σ op x)
 | .convert S D x=>zcp P S fun ts=>zcp P D fun td=>vofA σ o (orr x) (yd2 σ ts td x)
 | .slice T x lo hi none=>zcp P T fun ti=>match (opd σ x).v7s with
  | true=>vofB σ o (yxr σ ti x lo hi)
  | false=>if yif ti (opd σ x) then vofA σ o (orr x++orrO lo++orrO hi) (zhx σ ti x lo hi none) else .bad
 | .slice T x lo hi mx=>zcp P T fun ti=>if yif ti (opd σ x) then vofA σ o (orr x++orrO lo++orrO hi++orrO mx) (zhx σ ti x lo hi mx) else .bad
 | .makeSlice T x y=>zcp P T fun ti=>ynz P ti fun te=>vofA σ o (orr x++orr y) (x7j σ ti te x y)
 | .build T ps=>zcp P T fun ti=>if x8d ti&&ti.sh.agg then vofA σ o (orrs ps.toList) (z1t σ ti ps.toList) else .bad
 | .buildSlice T n ps=>zcp P T fun ti=>ynz P ti fun te=>vofA σ o (orrs ps.toList) (wxy σ ti te n ps.toList)
 | .call c => match c.callee with
  | .builtin .len=>match c.args.toList,c.argTypes.toList with
   | [x],[T]=>zcp P T fun ti=>if ztq σ ti x then vofB σ o (lenA σ x) else .bad
   | _,_=>.bad
  | .builtin .append=>match c.args.toList,c.argTypes.toList,o.dst with
   | [x,y],[T,U],some d=>if T=U then zcp P T fun ti=>match zii σ ti d x y with
    | some (rd,tk,eff)=>.eff rd tk eff
    | none=>.bad
    else .bad
   | _,_,_=>.bad
  | .value (.func f)=>match wg7 σ c.args.toList with
   | some l=>if zn1 σ o then .call f l (z0b o++orrL c.args.toList) else .bad
   | none=>match whr σ c.args.toList with
    | some (l,j,s,ov)=>if zn1 σ o then .own f l j s ov (z0b o++s::orrL c.args.toList) else .bad
    | none=>.bad
  | .value (.tmp t)=>match gt σ t,wg7 σ c.args.toList with
   | .one (.raw v),some l=>match v58 v with
    | some f=>if zn1 σ o then .call f l (z0b o++t::orrL c.args.toList) else .bad
    | none=>.bad
   | .one (.fnp p),some l=>if zn1 σ o then .fn p l (z0b o++t::orrL c.args.toList) else .bad
   | _,_=>.bad
  | _=>.bad
 | .makeFunc (.func f) fs cs=>match fs.toList,wg7 σ cs.toList,o.dst with
  | [],some l,some d=>if nh σ d then .mk f l (d::orrL cs.toList) else .bad
  | _,_,_=>.bad
 | _=>.bad
theorem ypz {σ:List AV} {o:Oper} {rd0:List Nat} {av:AV} (hs:∀ r,val σ o rd0 av=some r->wo4 P o σ r.1 [] r.2) {rd tk:List Nat} {eff:List (Nat×AV)} (h:OR.of (val σ o rd0 av)=.eff rd tk eff):tk=[]/\wo4 P o σ rd tk eff:=by
 cases hv:val σ o rd0 av with
 | none=>rw [hv] at h;cases h
 | some r=>rw [hv] at h;cases h;exact ⟨rfl,hs r hv⟩
theorem w7r {α:Type} {a:Array α} {l:List α} (h:a.toList=l):a=l.toArray:=by rw [<-h]
theorem xz1 {σ:List AV} {ti:TI} {d:Nat} {x y:Operand} {rd tk:List Nat} {eff:List (Nat×AV)} (h:zii σ ti d x y=some (rd,tk,eff)):∀ t∈tk,∀ i,(gt σ i).xh7 t->i∈rd:=by
 unfold zii at h;split at h
 case h_2=>cases h
 split at h
 case h_2=>cases h
 split at h
 case h_2=>cases h
 split at h
 case h_2=>cases h
 split at h
 case isFalse=>cases h
 simp only [Option.some.injEq,Prod.mk.injEq] at h;obtain ⟨rfl,rfl,rfl⟩:=h;intro t ht i hi
 have hlt:i<σ.length:=by
  rcases Nat.lt_or_ge i σ.length with h | h
  . exact h
  . unfold gt at hi;rw [List.getElem?_eq_none h] at hi;exact hi.elim
 have key:∀ tk:List Nat,t∈tk->i∈(wc9 tk 0 σ).map (·.1):=fun tk ht=>by
  have hf:=xdj tk σ 0 i hlt;simp only [Nat.zero_add] at hf;rw [if_neg (fun hall=>AV.vx8 ((List.all_eq_true.1 hall) t ht) hi)] at hf
  have:=List.mem_of_find?_eq_some hf
  exact List.mem_map.2 ⟨_,by simpa using this,rfl⟩
 simp only [List.mem_cons,List.mem_append];exact .inr (.inr (key _ ht))
theorem zza {σ:List AV} {o:Oper} {rd0:List Nat} {a:Option AV} (hs:∀ av,a=some av->∀ r,val σ o rd0 av=some r->wo4 P o σ r.1 [] r.2) {rd tk:List Nat} {eff:List (Nat×AV)} (h:vofA σ o rd0 a=.eff rd tk eff):tk=[]/\wo4 P o σ rd tk eff:=by
 unfold vofA at h;split at h
 . exact ypz (hs _ rfl) h
 . cases h
theorem yg7 {σ:List AV} {o:Oper} {a:Option (List Nat×AV)} (hs:∀ rd0 av,a=some (rd0,av)->∀ r,val σ o rd0 av=some r->wo4 P o σ r.1 [] r.2) {rd tk:List Nat} {eff:List (Nat×AV)} (h:vofB σ o a=.eff rd tk eff):tk=[]/\wo4 P o σ rd tk eff:=by
 unfold vofB at h;split at h
 . exact ypz (hs _ _ rfl) h
 . cases h
theorem ygx {t:TypeId} {k:TI->OR} {r:OR} (hr:r≠.bad) (h:zcp P t k=r):∃ ti,mkTI P t=some ti/\k ti=r:=by
 unfold zcp at h;split at h
 . rename_i ti hti;exact ⟨ti,hti,h⟩
 . exact absurd h.symm hr
theorem xdz {ti:TI} {k:TI->OR} {r:OR} (hr:r≠.bad) (h:ynz P ti k=r):∃ e es eb ik te,ti.sh=.slice e es eb ik/\mkTI P e=some te/\k te=r:=by
 unfold ynz at h;split at h
 . rename_i e es eb ik hs;obtain ⟨te,h1,h2⟩:=ygx hr h;exact ⟨e,es,eb,ik,te,hs,h1,h2⟩
 . exact absurd h.symm hr
theorem ymo {σ:List AV} {o:Oper} {rd tk:List Nat} {eff:List (Nat×AV)} (h:opB P σ o=.eff rd tk eff):wo4 P o σ rd tk eff/\(∀ t∈tk,∀ i,(gt σ i).xh7 t->i∈rd):=by
 have nt:(tk=[]/\wo4 P o σ rd tk eff)->wo4 P o σ rd tk eff/\(∀ t∈tk,∀ i,(gt σ i).xh7 t->i∈rd):=fun ⟨h1,h2⟩=>⟨h2,by rw [h1];intro t ht;cases ht⟩
 have nb:OR.eff rd tk eff≠.bad:=by simp
 unfold opB at h;split at h
 . rename_i x ho;exact nt (ypz (fun r hr=>xbj (.inl ho) hr) h)
 . rename_i x ho;exact nt (ypz (fun r hr=>xbj (.inr ho) hr) h)
 . rename_i c x y ho;exact nt (zza (fun av ha r hr=>zio ho ha hr) h)
 . rename_i T ho;obtain ⟨ti,hti,hk⟩:=ygx nb h;exact nt (ypz (fun r hr=>v7f ho hti hr) hk)
 . rename_i T x ho;split at h
   . rename_i cs hcs;exact nt (ypz (fun r hr=>w2d ho hcs hr) h)
   . cases h
 . rename_i T x ho;obtain ⟨ti,hti,hk⟩:=ygx nb h;exact nt (yg7 (fun rd0 av ha r hr=>vj8 ho hti ha hr) hk)
 . rename_i T x y ho;split at h
   . rename_i hd;obtain ⟨ti,hti,hk⟩:=ygx nb h;split at hk
     . rename_i rd' s av hst
       cases hk;exact nt ⟨rfl,xa6 ho hd hti hst⟩
     . cases hk
   . cases h
 . rename_i S x f ho;obtain ⟨ti,hti,hk⟩:=ygx nb h;exact nt (zza (fun av ha r hr=>v9f ho hti ha hr) hk)
 . rename_i x n ho;exact nt (zza (fun av ha r hr=>zfl ho ha hr) h)
 . rename_i T x y ho;obtain ⟨ti,hti,hk⟩:=ygx nb h;exact nt (yg7 (fun rd0 av ha r hr=>zer ho hti ha hr) hk)
 . rename_i op T x y U ho;exact nt (zza (fun av ha r hr=>xiq ho ha hr) h)
 . rename_i op T x ho;exact nt (zza (fun av ha r hr=>vwe ho ha hr) h)
 . rename_i S D x ho;obtain ⟨ts,hts,hk⟩:=ygx nb h;obtain ⟨td,htd,hk⟩:=ygx nb hk;exact nt (zza (fun av ha r hr=>ykb ho hts htd ha hr) hk)
 . rename_i T x lo hi ho;obtain ⟨ti,hti,hk⟩:=ygx nb h;split at hk
   . exact nt (yg7 (fun rd0 av ha r hr=>vy6 ho hti ha hr) hk)
   . split at hk
     . rename_i hok;refine nt (zza (fun av ha r hr=>wpl ho hti (fun e es eb ik hsh c hc=>?_) ha (by simpa [orrO] using hr)) hk);unfold yif at hok;simp only [hsh,hc] at hok;refine ⟨fun k L e=>?_,fun n rows e=>?_⟩
       . rw [e] at hok;simpa using hok
       . rw [e] at hok;simpa using hok
     . cases hk
 . rename_i T x lo hi mx _ ho;obtain ⟨ti,hti,hk⟩:=ygx nb h;split at hk
   . rename_i hok;refine nt (zza (fun av ha r hr=>wpl ho hti (fun e es eb ik hsh c hc=>?_) ha hr) hk);unfold yif at hok;simp only [hsh,hc] at hok;refine ⟨fun k L e=>?_,fun n rows e=>?_⟩
     . rw [e] at hok;simpa using hok
     . rw [e] at hok;simpa using hok
   . cases hk
 . rename_i T x y ho;obtain ⟨ti,hti,hk⟩:=ygx nb h;obtain ⟨e,es,eb,ik,te,hs,hte,hk⟩:=xdz nb hk;exact nt (zza (fun av ha r hr=>yn8 ho hti (fun e' es' eb' ik' hs'=>by rw [hs] at hs';cases hs';exact hte) ha hr) hk)
 . rename_i T ps ho;obtain ⟨ti,hti,hk⟩:=ygx nb h;split at hk
   . rename_i hok;simp only [Bool.and_eq_true] at hok;refine nt (zza (fun av ha r hr=>z1b (by rw [ho]) hti (fun n e es hs=>?_) ha hok.2 hr) hk)
     have:=hok.1
     unfold x8d at this;rw [hs] at this;simpa using this
   . cases hk
 . rename_i T n ps ho;obtain ⟨ti,hti,hk⟩:=ygx nb h;obtain ⟨e,es,eb,ik,te,hs,hte,hk⟩:=xdz nb hk;exact nt (zza (fun av ha r hr=>x55 (by rw [ho]) hti (fun e' es' eb' ik' hs'=>by rw [hs] at hs';cases hs';exact hte) ha hr) hk)
 . rename_i c ho;obtain ⟨callee,args,argTypes⟩:=c;simp only at h;split at h
   . split at h
     . rename_i x T ha ht;obtain ⟨ti,hti,hk⟩:=ygx nb h;split at hk
       . rename_i hfit;rw [w7r ha,w7r ht] at ho;exact nt (yg7 (fun rd0 av hb r hr=>yas ho hti hfit hb hr) hk)
       . cases hk
     . cases h
   . split at h
     . rename_i x y T U d ha ht hd;split at h
       . rename_i hTU;subst hTU;obtain ⟨ti,hti,hk⟩:=ygx nb h;split at hk
         . rename_i rd' tk' eff' hA
           cases hk;rw [w7r ha,w7r ht] at ho;exact ⟨xuh ho hd hti hA,xz1 hA⟩
         . cases hk
       . cases h
     . cases h
   . split at h
     . split at h<;>cases h
     . split at h
       . split at h<;>cases h
       . cases h
   . split at h
     . split at h
       . split at h<;>cases h
       . cases h
     . split at h<;>cases h
     . cases h
   . cases h
 . split at h
   . split at h<;>cases h
   . cases h
 . cases h
theorem yz4 {σ:List AV} {o:Oper} {f:FuncId} {args:List AV} {rd:List Nat} (h:opB P σ o=.call f args rd) {res:AV} (hc:zkh P f args res):wo4 P o σ rd [] (zbh o res):=by
 have nb:OR.call f args rd≠.bad:=by simp
 have no_of:∀ x,OR.of x≠.call f args rd:=fun x=>by unfold OR.of;split<;>simp
 have no_A:∀ rd0 a,vofA σ o rd0 a≠.call f args rd:=fun rd0 a=>by unfold vofA;split<;>first | exact no_of _ | simp
 have no_B:∀ a,vofB σ o a≠.call f args rd:=fun a=>by unfold vofB;split<;>first | exact no_of _ | simp
 unfold opB at h;split at h
 case h_19=>
  rename_i c ho;obtain ⟨callee,as,ts⟩:=c;simp only at h;split at h
  . split at h
    . obtain ⟨ti,hti,hk⟩:=ygx nb h;split at hk
      . exact absurd hk (no_B _)
      . cases hk
    . cases h
  . split at h
    . split at h
      . obtain ⟨ti,hti,hk⟩:=ygx nb h
        split at hk<;>cases hk
      . cases h
    . cases h
  . split at h
    . rename_i l hl;split at h
      . rename_i hn
        cases h;exact v28 (ts:=ts) (by rw [ho]) hl hn hc
      . cases h
    . split at h
      . split at h<;>cases h
      . cases h
  . split at h
    . rename_i v l ht hl;split at h
      . rename_i f' hf;split at h
        . rename_i hn
          cases h;exact wz5 (ts:=ts) (by rw [ho]) (by rw [ht,zb3 hf]) hl hn hc
        . cases h
      . cases h
    . split at h<;>cases h
    . cases h
  . cases h
 all_goals first
  | exact absurd h (no_of _)
  | exact absurd h (no_A _ _)
  | exact absurd h (no_B _)
  | (obtain ⟨ti, hti, hk⟩ := ygx nb h
     first
      | exact absurd hk (no_of _)
      | exact absurd hk (no_A _ _)
      | exact absurd hk (no_B _)
      | (obtain ⟨td,htd,hk⟩:=ygx nb hk;exact absurd hk (no_A _ _))
      | (split at hk<;>first | exact absurd hk (no_A _ _) | cases hk)
      | (split at hk
         . exact absurd hk (no_B _)
         . split at hk
           . exact absurd hk (no_A _ _)
           . cases hk)
      | (obtain ⟨e,es,eb,ik,te,hs,hte,hk⟩:=xdz nb hk;exact absurd hk (no_A _ _)))
  | (split at h
     . first
       | exact absurd h (no_of _)
       | (obtain ⟨ti,hti,hk⟩:=ygx nb h;split at hk<;>cases hk)
       | (split at h<;>cases h)
     . cases h)
  | cases h
end Go.Slot
