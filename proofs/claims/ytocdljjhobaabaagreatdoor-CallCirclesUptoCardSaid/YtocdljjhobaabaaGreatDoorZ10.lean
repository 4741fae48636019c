/- The proof, part Z10: Mo, Mp. -/
import Derived.Test.YtocdljjhobaabaaGreatDoorZ9
namespace Go.Slot
open Go Go.RowKit
variable {P:Program}
inductive OR where
 | eff (rd tk:List Nat) (eff:List (Nat×AV))
 | call (f:FuncId) (args:List AV) (rd:List Nat)
 | fn (p:(Nat->Nat->Prop)->World->Value->Prop) (args:List AV) (rd:List Nat)
 | mk (f:FuncId) (caps:List AV) (rd:List Nat)
 | own (f:FuncId) (l:List AV) (j s:Nat) (ov:OV) (rd:List Nat)
 | bad
def OR.of:Option (List Nat×List (Nat×AV))->OR
 | some (rd,e)=>.eff rd [] e
 | none=>.bad
def vtj:Value->Option FuncId
 | .func (.func f) fs cs=>match fs.toList,cs.toList with
  | [],[]=>some f
  | _,_=>none
 | _=>none
theorem vyp {v:Value} {f:FuncId} (h:vtj v=some f):v=.func (.func f) #[] #[]:=by
 unfold vtj at h;split at h
 . rename_i f' fs cs;split at h
   . rename_i h1 h2
     cases h
     have e1:fs=#[]:=by rw [<-Array.toArray_toList (xs:=fs),h1]
     have e2:cs=#[]:=by rw [<-Array.toArray_toList (xs:=cs),h2]
     rw [e1,e2]
   . cases h
 . cases h
def v7c (P:Program) (t:TypeId) (k:TI->OR):OR:=match mkTI P t with
 | some ti=>k ti
 | none=>.bad
def vofA (σ:List AV) (o:Oper) (rd:List Nat) (a:Option AV):OR:=match a with
 | some av=>.of (val σ o rd av)
 | none=>.bad
def vofB (σ:List AV) (o:Oper) (a:Option (List Nat×AV)):OR:=match a with
 | some (rd,av)=>.of (val σ o rd av)
 | none=>.bad
def yn5 (ti:TI) (av:AV):Bool:=match ti.sh with
 | .slice _ es _ _=>match av with
  | .one c=>match c.bare with
   | .ints _ _=>es==1
   | .sl n _=>es==n
   | _=>true
  | _=>true
 | _=>true
def wxq (P:Program) (ti:TI) (k:TI->OR):OR:=match ti.sh with
 | .slice e _ _ _=>v7c P e k
 | _=>.bad
def zdb (ti:TI):Bool:=match ti.sh with
 | .array _ _ es=>es != 0
 | _=>true
def AV.w2m:AV->Bool
 | .arr _ _ _ | .asl _ | .awn _ _ _ _=>true
 | _=>false
def opB (P:Program) (σ:List AV) (o:Oper):OR:=
 match o.op with
 | .move x=>.of (val σ o (orr x) (cpy x (opd σ x)))
 | .assign x=>.of (val σ o (orr x) (cpy x (opd σ x)))
 | .pick c x y=>vofA σ o (orr c++orr x++orr y) (zrn σ c x y)
 | .alloc T=>v7c P T fun ti=>.of (val σ o [] (.box ti.zc))
 | .box _ x=>match zyf (opd σ x) with
  | some cs=>.of (val σ o (orr x) (.box cs))
  | none=>.bad
 | .load T x=>v7c P T fun ti=>vofB σ o (vge σ ti x)
 | .store T x y=>match o.dst with
  | none=>v7c P T fun ti=>match y92 σ ti x y with
   | some (rd,s,av)=>.eff rd [] [(s,av)]
   | none=>.bad
  | some _=>.bad
 | .fieldAddr S x f=>v7c P S fun ti=>vofA σ o (orr x) (wqd σ ti x f)
 | .extract x n=>vofA σ o (orr x) (yry σ x n)
 | .indexAddr T x y=>v7c P T fun ti=>vofB σ o (xq4 σ ti x y)
 | .binOp op _ x y _=>vofA σ o (orr x++orr y) (binA σ op x y)
 | .unOp op _ x=>vofA σ o (orr x) (unA σ op x)
 | .convert S D x=>v7c P S fun ts=>v7c P D fun td=>vofA σ o (orr x) (zj2 σ ts td x)
 | .slice T x lo hi none=>v7c P T fun ti=>match (opd σ x).w2m with
  | true=>vofB σ o (yly σ ti x lo hi)
  | false=>if yn5 ti (opd σ x) then vofA σ o (orr x++orrO lo++orrO hi) (zd3 σ ti x lo hi none) else .bad
 | .slice T x lo hi mx=>v7c P T fun ti=>if yn5 ti (opd σ x) then vofA σ o (orr x++orrO lo++orrO hi++orrO mx) (zd3 σ ti x lo hi mx) else .bad
 | .makeSlice T x y=>v7c P T fun ti=>wxq P ti fun te=>vofA σ o (orr x++orr y) (zsp σ ti te x y)
 | .build T ps=>v7c P T fun ti=>if zdb ti&&ti.sh.agg then vofA σ o (orrs ps.toList) (whu σ ti ps.toList) else .bad
 | .buildSlice T n ps=>v7c P T fun ti=>wxq P ti fun te=>vofA σ o (orrs ps.toList) (zz4 σ ti te n ps.toList)
 | .call c => match c.callee with
  | .builtin .len=>match c.args.toList,c.argTypes.toList with
   | [x],[T]=>v7c P T fun ti=>if w8n σ ti x then vofB σ o (lenA σ x) else .bad
   | _,_=>.bad
  | .builtin .append=>match c.args.toList,c.argTypes.toList,o.dst with
   | [x,y],[T,U],some d=>if T=U then v7c P T fun ti=>match ypu σ ti d x y with
    | some (rd,tk,eff)=>.eff rd tk eff
    | none=>.bad
    else .bad
   | _,_,_=>.bad
  | .value (.func f)=>match zk4 σ c.args.toList with
   | some l=>if x9b σ o then .call f l (zny o++orrL c.args.toList) else .bad
   | none=>match wu1 σ c.args.toList with
    | some (l,j,s,ov)=>if x9b σ o then .own f l j s ov (zny o++s::orrL c.args.toList) else .bad
    | none=>.bad
  | .value (.tmp t)=>match gt σ t,zk4 σ c.args.toList with
   | .one (.raw v),some l=>match vtj v with
    | some f=>if x9b σ o then .call f l (zny o++t::orrL c.args.toList) else .bad
    | none=>.bad
   | .one (.fnp p),some l=>if x9b σ o then .fn p l (zny o++t::orrL c.args.toList) else .bad
   | _,_=>.bad
  | _=>.bad
 | .makeFunc (.func f) fs cs=>match fs.toList,zk4 σ cs.toList,o.dst with
  | [],some l,some d=>if nh σ d then .mk f l (d::orrL cs.toList) else .bad
  | _,_,_=>.bad
 | _=>.bad
theorem yhc {σ:List AV} {o:Oper} {rd0:List Nat} {av:AV} (hs:∀ r,val σ o rd0 av=some r->ztu P o σ r.1 [] r.2) {rd tk:List Nat} {eff:List (Nat×AV)} (h:OR.of (val σ o rd0 av)=.eff rd tk eff):tk=[]/\ztu P o σ rd tk eff:=by
 cases hv:val σ o rd0 av with
 | none=>rw [hv] at h;cases h
 | some r=>rw [hv] at h;cases h;exact ⟨rfl,hs r hv⟩
theorem x81 {α:Type} {a:Array α} {l:List α} (h:a.toList=l):a=l.toArray:=by rw [<-h]
theorem v0d {σ:List AV} {ti:TI} {d:Nat} {x y:Operand} {rd tk:List Nat} {eff:List (Nat×AV)} (h:ypu σ ti d x y=some (rd,tk,eff)):∀ t∈tk,∀ i,(gt σ i).y1a t->i∈rd:=by
 unfold ypu at h;split at h
 case h_2=>cases h
 split at h
 case h_2=>cases h
 split at h
 case h_2=>cases h
 split at h
 case h_2=>cases h
 split at h
 case isFalse=>cases h
 simp only [Option.some.injEq,Prod.mk.injEq] at h;obtain ⟨rfl,rfl,rfl⟩:=h;intro t ht i hi
 have hlt:i<σ.length:=by
  rcases Nat.lt_or_ge i σ.length with h | h
  . exact h
  . unfold gt at hi;rw [List.getElem?_eq_none h] at hi;exact hi.elim
 have key:∀ tk:List Nat,t∈tk->i∈(xv8 tk 0 σ).map (·.1):=fun tk ht=>by
  have hf:=ynz tk σ 0 i hlt;simp only [Nat.zero_add] at hf;rw [if_neg (fun hall=>AV.ydj ((List.all_eq_true.1 hall) t ht) hi)] at hf
  have:=List.mem_of_find?_eq_some hf
  exact List.mem_map.2 ⟨_,by simpa using this,rfl⟩
 simp only [List.mem_cons,List.mem_append];exact .inr (.inr (key _ ht))
theorem yuf {σ:List AV} {o:Oper} {rd0:List Nat} {a:Option AV} (hs:∀ av,a=some av->∀ r,val σ o rd0 av=some r->ztu P o σ r.1 [] r.2) {rd tk:List Nat} {eff:List (Nat×AV)} (h:vofA σ o rd0 a=.eff rd tk eff):tk=[]/\ztu P o σ rd tk eff:=by
 unfold vofA at h;split at h
 . exact yhc (hs _ rfl) h
 . cases h
theorem v06 {σ:List AV} {o:Oper} {a:Option (List Nat×AV)} (hs:∀ rd0 av,a=some (rd0,av)->∀ r,val σ o rd0 av=some r->ztu P o σ r.1 [] r.2) {rd tk:List Nat} {eff:List (Nat×AV)} (h:vofB σ o a=.eff rd tk eff):tk=[]/\ztu P o σ rd tk eff:=by
 unfold vofB at h;split at h
 . exact yhc (hs _ _ rfl) h
 . cases h
theorem zni {t:TypeId} {k:TI->OR} {r:OR} (hr:r≠.bad) (h:v7c P t k=r):∃ ti,mkTI P t=some ti/\k ti=r:=by
 unfold v7c at h;split at h
 . rename_i ti hti;exact ⟨ti,hti,h⟩
 . exact absurd h.symm hr
theorem x0h {ti:TI} {k:TI->OR} {r:OR} (hr:r≠.bad) (h:wxq P ti k=r):∃ e es eb ik te,ti.sh=.slice e es eb ik/\mkTI P e=some te/\k te=r:=by
 unfold wxq at h;split at h
 . rename_i e es eb ik hs;obtain ⟨te,h1,h2⟩:=zni hr h;exact ⟨e,es,eb,ik,te,hs,h1,h2⟩
 . exact absurd h.symm hr
theorem v42 {σ:List AV} {o:Oper} {rd tk:List Nat} {eff:List (Nat×AV)} (h:opB P σ o=.eff rd tk eff):ztu P o σ rd tk eff/\(∀ t∈tk,∀ i,(gt σ i).y1a t->i∈rd):=by
 have nt:(tk=[]/\ztu P o σ rd tk eff)->ztu P o σ rd tk eff/\(∀ t∈tk,∀ i,(gt σ i).y1a t->i∈rd):=fun ⟨h1,h2⟩=>⟨h2,by rw [h1];intro t ht;cases ht⟩
 have nb:OR.eff rd tk eff≠.bad:=by simp
 unfold opB at h;split at h
 . rename_i x ho;exact nt (yhc (fun r hr=>vjc (.inl ho) hr) h)
 . rename_i x ho;exact nt (yhc (fun r hr=>vjc (.inr ho) hr) h)
 . rename_i c x y ho;exact nt (yuf (fun av ha r hr=>xxx ho ha hr) h)
 . rename_i T ho;obtain ⟨ti,hti,hk⟩:=zni nb h;exact nt (yhc (fun r hr=>whc ho hti hr) hk)
 . rename_i T x ho;split at h
   . rename_i cs hcs;exact nt (yhc (fun r hr=>v4a ho hcs hr) h)
   . cases h
 . rename_i T x ho;obtain ⟨ti,hti,hk⟩:=zni nb h;exact nt (v06 (fun rd0 av ha r hr=>vsf ho hti ha hr) hk)
 . rename_i T x y ho;split at h
   . rename_i hd;obtain ⟨ti,hti,hk⟩:=zni nb h;split at hk
     . rename_i rd' s av hst
       cases hk;exact nt ⟨rfl,ykx ho hd hti hst⟩
     . cases hk
   . cases h
 . rename_i S x f ho;obtain ⟨ti,hti,hk⟩:=zni nb h;exact nt (yuf (fun av ha r hr=>wly ho hti ha hr) hk)
 . rename_i x n ho;exact nt (yuf (fun av ha r hr=>zr0 ho ha hr) h)
 . rename_i T x y ho;obtain ⟨ti,hti,hk⟩:=zni nb h;exact nt (v06 (fun rd0 av ha r hr=>v0u ho hti ha hr) hk)
 . rename_i op T x y U ho;exact nt (yuf (fun av ha r hr=>xx6 ho ha hr) h)
 . rename_i op T x ho;exact nt (yuf (fun av ha r hr=>v4p ho ha hr) h)
 . rename_i S D x ho;obtain ⟨ts,hts,hk⟩:=zni nb h;obtain ⟨td,htd,hk⟩:=zni nb hk;exact nt (yuf (fun av ha r hr=>zmd ho hts htd ha hr) hk)
 . rename_i T x lo hi ho;obtain ⟨ti,hti,hk⟩:=zni nb h;split at hk
   . exact nt (v06 (fun rd0 av ha r hr=>zm2 ho hti ha hr) hk)
   . split at hk
     . rename_i hok;refine nt (yuf (fun av ha r hr=>xub ho hti (fun e es eb ik hsh c hc=>?_) ha (by simpa [orrO] using hr)) hk);unfold yn5 at hok;simp only [hsh,hc] at hok;refine ⟨fun k L e=>?_,fun n rows e=>?_⟩
       . rw [e] at hok;simpa using hok
       . rw [e] at hok;simpa using hok
     . cases hk
 . rename_i T x lo hi mx _ ho;obtain ⟨ti,hti,hk⟩:=zni nb h;split at hk
   . rename_i hok;refine nt (yuf (fun av ha r hr=>xub ho hti (fun e es eb ik hsh c hc=>?_) ha hr) hk);unfold yn5 at hok;simp only [hsh,hc] at hok;refine ⟨fun k L e=>?_,fun n rows e=>?_⟩
     . rw [e] at hok;simpa using hok
     . rw [e] at hok;simpa using hok
   . cases hk
 . rename_i T x y ho;obtain ⟨ti,hti,hk⟩:=zni nb h;obtain ⟨e,es,eb,ik,te,hs,hte,hk⟩:=x0h nb hk;exact nt (yuf (fun av ha r hr=>zko ho hti (fun e' es' eb' ik' hs'=>by rw [hs] at hs';cases hs';exact hte) ha hr) hk)
 . rename_i T ps ho;obtain ⟨ti,hti,hk⟩:=zni nb h;split at hk
   . rename_i hok;simp only [Bool.and_eq_true] at hok;refine nt (yuf (fun av ha r hr=>yc2 (by rw [ho]) hti (fun n e es hs=>?_) ha hok.2 hr) hk)
     have:=hok.1
     unfold zdb at this;rw [hs] at this;simpa using this
   . cases hk
 . rename_i T n ps ho;obtain ⟨ti,hti,hk⟩:=zni nb h;obtain ⟨e,es,eb,ik,te,hs,hte,hk⟩:=x0h nb hk;exact nt (yuf (fun av ha r hr=>x2l (by rw [ho]) hti (fun e' es' eb' ik' hs'=>by rw [hs] at hs';cases hs';exact hte) ha hr) hk)
 . rename_i c ho;obtain ⟨callee,args,argTypes⟩:=c;simp only at h;split at h
   . split at h
     . rename_i x T ha ht;obtain ⟨ti,hti,hk⟩:=zni nb h;split at hk
       . rename_i hfit;rw [x81 ha,x81 ht] at ho;exact nt (v06 (fun rd0 av hb r hr=>xtu ho hti hfit hb hr) hk)
       . cases hk
     . cases h
   . split at h
     . rename_i x y T U d ha ht hd;split at h
       . rename_i hTU;subst hTU;obtain ⟨ti,hti,hk⟩:=zni nb h;split at hk
         . rename_i rd' tk' eff' hA
           cases hk;rw [x81 ha,x81 ht] at ho;exact ⟨y8p ho hd hti hA,v0d hA⟩
         . cases hk
       . cases h
     . cases h
   . split at h
     . split at h<;>cases h
     . split at h
       . split at h<;>cases h
       . cases h
   . split at h
     . split at h
       . split at h<;>cases h
       . cases h
     . split at h<;>cases h
     . cases h
   . cases h
 . split at h
   . split at h<;>cases h
   . cases h
 . cases h
def orK (P:Program) (σ:List AV) (o:Oper):OR->Prop
 | .call f args rd=>∀ res,z3h P f args res->ztu P o σ rd [] (v29 o res)
 | .fn p args rd=>∀ F,p=zjz P F->∀ res,F args res->ztu P o σ rd [] (v29 o res)
 | .mk f caps rd=>∀ F,za1 P f->(∀ args res,F args res->z3h P f (args++caps) res)->ztu P o σ rd [] (v29 o (.one (.fnp (zjz P F))))
 | .own f l j s ov rd=>∀ new res nw res',x5m P f l j ov new res->w9l (gt σ s) ov new=some nw->yd2 s ov res=some res'->ztu P o σ rd [] ((s,nw)::v29 o res')
 | _=>True
theorem of_k {σ:List AV} {o:Oper} {x:Option (List Nat×List (Nat×AV))}:orK P σ o (.of x):=by unfold OR.of;split<;>trivial
theorem zmi {σ:List AV} {o:Oper} {rd:List Nat} {a:Option AV}:orK P σ o (vofA σ o rd a):=by unfold vofA;split<;>first | exact of_k | trivial
theorem vji {σ:List AV} {o:Oper} {a:Option (List Nat×AV)}:orK P σ o (vofB σ o a):=by unfold vofB;split<;>first | exact of_k | trivial
theorem xd7 {σ:List AV} {o:Oper} {T:TypeId} {k:TI->OR} (h:∀ ti,orK P σ o (k ti)):orK P σ o (v7c P T k):=by
 unfold v7c;split
 . exact h _
 . trivial
theorem vii {σ:List AV} {o:Oper} {ti:TI} {k:TI->OR} (h:∀ ti,orK P σ o (k ti)):orK P σ o (wxq P ti k):=by
 unfold wxq;split
 . exact xd7 h
 . trivial
theorem wig {σ:List AV} {o:Oper}:orK P σ o (opB P σ o):=by
 unfold opB
 split
 case h_19=>
  rename_i c ho;obtain ⟨callee,as,ts⟩:=c;dsimp only
  split
  . split
    . exact xd7 fun _=>by
       split
       . exact vji
       . trivial
    . trivial
  . split
    . split
      . exact xd7 fun _=>by split<;>trivial
      . trivial
    . trivial
  . split
    . rename_i l hl
      split
      . rename_i hn
        exact fun res hc=>zvc (ts:=ts) (by rw [ho]) hl hn hc
      . trivial
    . split
      . rename_i hx
        split
        . rename_i hn
          exact fun new res nw res' hc hs hr=>xwf (ts:=ts) (by rw [ho]) hx hn hc hs hr
        . trivial
      . trivial
  . split
    . rename_i v l ht hl
      split
      . rename_i f' hf
        split
        . rename_i hn
          exact fun res hc=>vjd (ts:=ts) (by rw [ho]) (by rw [ht,vyp hf]) hl hn hc
        . trivial
      . trivial
    . rename_i p l ht hl
      split
      . rename_i hn;intro F hp res hc;subst hp;exact xik (ts:=ts) (by rw [ho]) ht hl hn hc
      . trivial
    . trivial
  . trivial
 case h_20=>
  rename_i f' fs cs ho
  split
  . rename_i l d hfs hl hd
    split
    . rename_i hn;intro F v47 hF
      have:=v6p (P:=P) (by rw [ho,x81 hfs]) hl v47 hF (r:=(d::orrL cs.toList,[(d,.one (.fnp (zjz P F)))])) (by unfold val;rw [hd];simp [hn])
      simpa [v29,hd] using this
    . trivial
  . trivial
 all_goals first
  | exact of_k
  | exact zmi
  | trivial
  | exact xd7 fun _=>of_k
  | exact xd7 fun _=>zmi
  | exact xd7 fun _=>vji
  | exact xd7 fun _=>xd7 fun _=>zmi
  | exact xd7 fun _=>vii fun _=>zmi
  | (refine xd7 fun _=>?_
     split
     . first | exact zmi | exact vji
     . first | trivial | (split<;>first | exact zmi | trivial))
  | (split
     . first
       | exact of_k
       | (refine xd7 fun _=>?_
          split<;>trivial)
     . trivial)
theorem yws {σ:List AV} {o:Oper} {f:FuncId} {args:List AV} {rd:List Nat} (h:opB P σ o=.call f args rd) {res:AV} (hc:z3h P f args res):ztu P o σ rd [] (v29 o res):=by
 have:=wig (P:=P) (σ:=σ) (o:=o)
 rw [h] at this;exact this res hc
theorem zwn {σ:List AV} {o:Oper} {F:List AV->AV->Prop} {args:List AV} {rd:List Nat} (h:opB P σ o=.fn (zjz P F) args rd) {res:AV} (hc:F args res):ztu P o σ rd [] (v29 o res):=by
 have:=wig (P:=P) (σ:=σ) (o:=o)
 rw [h] at this;exact this F rfl res hc
theorem x58 {σ:List AV} {o:Oper} {f:FuncId} {caps:List AV} {rd:List Nat} (h:opB P σ o=.mk f caps rd) {F:List AV->AV->Prop} (v47:za1 P f) (hF:∀ args res,F args res->z3h P f (args++caps) res) :
 ztu P o σ rd [] (v29 o (.one (.fnp (zjz P F)))):=by
 have:=wig (P:=P) (σ:=σ) (o:=o)
 rw [h] at this;exact this F v47 hF
theorem xcg {σ:List AV} {o:Oper} {f:FuncId} {l:List AV} {j s:Nat} {ov:OV} {rd:List Nat} (h:opB P σ o=.own f l j s ov rd) {new:OV} {res nw res':AV} (hc:x5m P f l j ov new res)
 (hs:w9l (gt σ s) ov new=some nw) (hr:yd2 s ov res=some res'):ztu P o σ rd [] ((s,nw)::v29 o res'):=by
 have:=wig (P:=P) (σ:=σ) (o:=o)
 rw [h] at this;exact this new res nw res' hc hs hr
def litE (σ:List AV) (d:Nat) (rd:List Nat) (se:List (Nat×AV)) (b:Bool):Option AV->OR
 | some (.one c)=>match b,nh σ d with
  | true,true=>.eff (d::(rd++se.map (·.1))) [d] (se++[(d,.one (.tok d c))])
  | _,_=>.bad
 | _=>.bad
def isNone {α:Type}:Option α->Bool
 | none=>true
 | some _=>false
def litA (P:Program) (σ:List AV) (o:Oper) (T:TypeId) (n:Nat) (ps:List (Nat×Operand)):OR:=match o.dst with
 | some d=>v7c P T fun ti=>wxq P ti fun te=>litE σ d (orrs ps) (xv8 [d] 0 σ) (isNone o.guard) (zz4 σ ti te n ps)
 | none=>.bad
theorem wsx (es:Nat):∀(n:Nat) (cs:List Cell),cs.length=n*es->(chunk es n cs).flatten=cs
 | 0,cs,h=>by
  have:cs=[]:=List.eq_nil_of_length_eq_zero (by simpa using h)
  subst this;rfl
 | n+1,cs,h=>by
  rw [Nat.add_mul,Nat.one_mul] at h;simp only [chunk,List.flatten_cons];rw [wsx es n (cs.drop es) (by simp;omega),List.take_append_drop]
theorem wk8 (es:Nat):∀(n:Nat) (cs:List Cell),cs.length=n*es->∀ r∈chunk es n cs,r.length=es
 | 0,cs,_=>fun r hr=>by cases hr
 | n+1,cs,h=>fun r hr=>by
  rw [Nat.add_mul,Nat.one_mul] at h;simp only [chunk] at hr
  rcases List.mem_cons.1 hr with rfl | hr
  . simp;omega
  . exact wk8 es n (cs.drop es) (by simp;omega) r hr
theorem wpv {σ:List AV} {o:Oper} {T:TypeId} {n:Nat} {ps:List (Nat×Operand)} (ho:o.op=.buildSlice T n ps.toArray) {rd tk:List Nat} {eff:List (Nat×AV)} (h:litA P σ o T n ps=.eff rd tk eff) :
 ztu P o σ rd tk eff/\(∀ t∈tk,∀ i,(gt σ i).y1a t->i∈rd):=by
 have nb:OR.eff rd tk eff≠.bad:=by simp
 unfold litA at h;split at h
 case h_2=>cases h
 rename_i d hdst;obtain ⟨ti,hti,hk⟩:=zni nb h;obtain ⟨e,es,eb,ik,te,hsh,hte,hk⟩:=x0h nb hk;unfold litE at hk;split at hk
 case h_2=>cases hk
 rename_i c hb;split at hk
 case h_2=>cases hk
 rename_i hn
 cases hk;refine ⟨?_,?_⟩
 . intro E σ' a w hag htk ⟨τ,M,hI⟩ K Q hK;have hok:=xky hti;obtain ⟨ds,i,z,hd,hi,hz,_,_,_,_,_,hsh'⟩:=hok.ex;obtain ⟨rfl,j,z',hj,hz',hjs,hjb,hes0,hzs,hik⟩:=wit (hsh'.symm.trans hsh);obtain ⟨de,je,ze,hde,hje,hze,_,_,_,hone,hzce,_⟩:=(xky hte).ex;rw [hj] at hje;cases hje;rw [hz'] at hze;cases hze;unfold zz4 at hb;rw [hsh] at hb;dsimp only at hb;split at hb
   case isFalse=>cases hb
   rename_i hsmall;split at hb
   . cases hb
   rename_i cs hfill
   have hav:w8s σ' ps=w8s σ ps:=xtr ps (fun x hx=>hag.opd (fun t ht=>by
    have:=hx t ht
    simp [this]))
   have hz0:RdL M w τ (wwg z'.cells.toList n) (wwg te.zc n):=wo4 (by rw [hzce];exact zhc hone) n
   have hinit:(Array.range (n*es)).map (z'.cells[· % z'.cells.size]!)=(wwg z'.cells.toList n).toArray:=by
    apply Array.ext
    . simp [w2k,hzs]
    . intro q h1 h2;simp only [Array.size_map,Array.size_range] at h1;have hq:=w4u z'.cells.toList n q (by simpa [hzs] using h1);have hlt:q % z'.cells.size<z'.cells.size:=Nat.mod_lt _ (by rw [hzs];omega);simp only [Array.getElem_map,Array.getElem_range,List.getElem_toArray];simp only [Array.length_toList,Array.getElem?_toList] at hq;rw [Array.getElem?_eq_getElem hlt,List.getElem?_eq_getElem (by simpa using h2)] at hq;simp at hq;rw [hq];simp [hlt]
   obtain ⟨cells',hf,hrd⟩:=yh6 hI (fun i=>some (i*es,es)) ps (wwg z'.cells.toList n).toArray _ cs (by simpa using hz0) (by rw [hav];exact hfill)
   have hrun:(execOp a.eval o).run P w=.ok (.value (.slice (some ⟨w.heap.size,0,none⟩) n n)) (w.alloc (.cells cells' e)):=by
    have h24:¬(16777216<n*es):=by omega
    have hne:¬(n*es=0):=by
     intro h0
     rcases Nat.mul_eq_zero.1 h0 with h0 | h0
     . exact hsmall.2 h0
     . exact hes0 h0
    have hpe:(Array.map (fun x=>match x with | (i,x)=>(i,a.eval x)) ps.toArray).toList=ps.map fun p=>(p.1,a.eval p.2):=by simp
    simp only [execOp,ho,Instr.buildSlice,Sem.run_bind,z6x hd,Result.andThen_ok,yg7 hj,hjs];rw [if_neg (by simpa using h24),if_neg hne];simp only [Sem.run_bind,v0q hj hz',Result.andThen_ok,Sem.run_pure,hinit];rw [hpe,hf];simp [newRow]
   have hcl:(yf8 cs).length=n*es:=by
    rw [v84,x5o _ _ _ hfill,w2k,hzce];simp [hzs]
   have hall:cells'.toList.length=n*es:=by rw [hrd.bare.length,hcl]
   have hn1:n<=n*es:=Nat.le_mul_of_pos_right n (Nat.pos_of_ne_zero hes0);obtain ⟨old,h1,h2⟩:=z5w (hag.nh (by simp) hn)
   have hfin:app (xv8 [d] 0 σ++[(d,.one (.tok d c))]) σ'=(yfl [d] σ').set d (.one (.tok d c)):=by
    rw [y56,ycx hag.1 (fun r hr=>hag.2 r (by simp only [List.mem_cons,List.mem_append];exact .inr (.inr hr))) (fun t ht i hi=>hag.2 i (htk t ht i hi))];rfl
   have hg:=yvo hI.size hI.mb (.slice none 0 0) e es n cells'.toList hall (by simp [maxLen];omega);rw [Array.toArray_toList] at hg;have hv:wyo E M w ⟨.slice none 0 0,es⟩:=.inl ⟨none,rfl⟩;split at hb
   . rename_i k;split at hb
     . rename_i he1;subst he1;simp only [Option.map_eq_some_iff,AV.one.injEq] at hb;obtain ⟨l,hl,rfl⟩:=hb;have hvs:=y4u hrd.bare hl
       have hll:l.length=n:=by
        have h1:=congrArg List.length hvs;have h2:=hrd.bare.length;simp only [List.length_map] at h1;omega
       subst hll;rw [hvs] at hg;exact wk0 hdst (by simp) hI h1 h2 rfl hg hg.ints hrun hv (fun _ _ _ _=>wdb) (fun _ _ _ _=>wdb) hfin hK
     . cases hb
   . cases hb;have hfl:(chunk es n (yf8 cs)).flatten=yf8 cs:=wsx es n _ hcl
     have hg':Grew E M w (w.alloc (.cells cells' e)) (fun b o=>M b o\/(b=w.heap.size/\n*es<=o)) (.slice none 0 0) (.slice (some ⟨w.heap.size,0,none⟩) n n) es (chunk es n (yf8 cs)).length cells'.toList:=by
      rw [wdg];exact hg
     exact wk0 hdst (by simp) hI h1 h2 rfl hg' (hg'.rows (by rw [hfl];exact hrd.bare) (fun r hr=>wk8 es n _ hcl r hr) (by rw [wdg];exact hall) (Nat.pos_of_ne_zero hes0)) hrun hv (fun _ _ _ _=>wdb) (fun _ _ _ _=>wdb) hfin hK
 . intro t ht i hi
   have hlt:i<σ.length:=by
    rcases Nat.lt_or_ge i σ.length with h | h
    . exact h
    . unfold gt at hi;rw [List.getElem?_eq_none h] at hi;exact hi.elim
   have hf:=ynz [d] σ 0 i hlt;simp only [Nat.zero_add] at hf;rw [if_neg (fun hall=>AV.ydj ((List.all_eq_true.1 hall) t ht) hi)] at hf
   have:=List.mem_of_find?_eq_some hf
   simp only [List.mem_cons,List.mem_append];exact .inr (.inr (List.mem_map.2 ⟨_,by simpa using this,rfl⟩))
def vrc (es:Nat):Option IntKind->Cell
 | some k=>.ints k []
 | none=>.sl es []
def isZc:Cell->Bool
 | .zc=>true
 | .raw (.slice none 0 0)=>true
 | _=>false
def zcAt:AV->Bool
 | .one c=>isZc c
 | _=>false
def ownN:Option Cell->Option AV
 | some c'=>if c'.cnt≠0 then some (.arr [] c' none) else none
 | none=>none
def wzn (σ:List AV) (ti:TI) (x y:Operand):Option AV:=match ti.sh with
 | .slice _ es eb ik=>match zcAt (opd σ x) with
  | true=>match opd σ y with
   | .one cy=>ownN (wek es eb ik (vrc es ik) cy.bare)
   | _=>none
  | false=>none
 | _=>none
theorem vwb {M:Nat->Nat->Prop} {w:World} {τ:Nat->TV} {v:Value} {c:Cell} (h:isZc c=true) (hr:RdT M w τ v c):∃ ad,v=.slice ad 0 0:=by
 unfold isZc at h;split at h
 . have hr:RdC M w v .zc:=hr
   cases hr;exact ⟨_,rfl⟩
 . exact ⟨none,RdC.xcn hr⟩
 . cases h
theorem zel {σ:List AV} {o:Oper} {T:TypeId} {x y:Operand} (ho:o.op=.call { callee:=.builtin .append,args:=#[x,y],argTypes:=#[T,T] }) {ti:TI} (hti:mkTI P T=some ti)
 {av:AV} (hA:wzn σ ti x y=some av) {r:List Nat×List (Nat×AV)} (h:val σ o (orr x++orr y) av=some r):ztu P o σ r.1 [] r.2:=by
 obtain ⟨d,hdst,hn,rfl⟩:=xlk h;obtain ⟨ds,i0,z0,hd0,hi0,hz0,_,_,_,_,_,hsh'⟩:=(xky hti).ex;unfold wzn at hA;split at hA
 case h_2=>cases hA
 rename_i e es eb ik hsh;split at hA
 case h_2=>cases hA
 rename_i hzc;split at hA
 case h_2=>cases hA
 rename_i cy hy;unfold ownN at hA;split at hA
 case h_2=>cases hA
 rename_i c' z1o;split at hA
 case isFalse=>cases hA
 rename_i hcnt0
 cases hA;obtain ⟨rfl,j,z',hj,hz',hjs,hjb,hes0,hzs,hik⟩:=wit (hsh'.symm.trans hsh);have hes:0<es:=Nat.pos_of_ne_zero hes0;intro E σ' a w hag _ ⟨τ,M,hI⟩ K Q hK;have hox:opd σ' x=opd σ x:=hag.opd (fun t ht=>by simp [ht]);have hoy:opd σ' y=opd σ y:=hag.opd (fun t ht=>by simp [ht]);have sx:=hI.opd x;have sy:=hI.opd y;rw [hox] at sx;rw [hoy,hy] at sy
 have hxv:∃ ad,a.eval x=.slice ad 0 0:=by
  unfold zcAt at hzc;split at hzc
  . rename_i c hc;rw [hc] at sx;exact vwb hzc sx
  . cases hzc
 obtain ⟨xad,hxv⟩:=hxv;have sy:RdT M w τ (a.eval y) cy:=sy
 have hu:(vrc es ik).uni:=by
  cases ik with
  | some k=>exact trivial
  | none=>intro r hr;cases hr
 have hc0:(vrc es ik).cnt=0:=by cases ik<;>rfl
 have hf0:(vrc es ik).flat=[]:=by cases ik<;>rfl
 obtain ⟨m,news,fy,⟨yad,ycap,hyv⟩,hnl,hnr,hnc,hu',hcnt',hesz',hesz,hflat',hb1,hb2⟩:=xaw hes z1o hu sy.bare;rw [hc0,Nat.zero_add] at hcnt' hb1 hb2;rw [hf0,List.nil_append] at hflat'
 have hm0:0<m:=by omega
 obtain ⟨old,h1,h2⟩:=z5w (hag.nh (by simp) hn);have hn1:∀ u∈news,u.oneCell'=true:=hnr.oneL
 have hnc':news=[]\/∃ b off cap,Value.slice yad m ycap=.slice (some ⟨b,off,none⟩) m cap/\∀ j u,news[j]? = some u->w.drew.cell? ⟨b,off+j,none⟩=some u:=hnc.imp id fun ⟨b',off,cap',e',hh⟩=>⟨b',off,cap',by rw [<-hyv];exact e',fun j u hj=>(hh j u hj).2⟩
 have hfd:(Builtin.firstCells j.size m (.slice yad m ycap)).run P w.drew=.ok news.toArray w.drew:=yqx w.drew m _ news ⟨_,_,rfl⟩ (by rw [hjs];exact hnl) hnc';have hfo:(Builtin.firstCells j.size 0 (.slice xad 0 0)).run P w.drew=.ok ([]:List Value).toArray w.drew:=yqx w.drew 0 _ [] ⟨_,_,rfl⟩ (by simp) (.inl rfl);have hrun:=yoe (P:=P) hd0 hj hz' w o.type hfd hfo (by omega) (by rw [Nat.zero_add,hjb];exact hb1) (by rw [Nat.zero_add];exact hb2);rw [Nat.zero_add] at hrun;generalize hgc:grownCap w m 0 e=gc at hrun
 have hge:m<=gc:=by rw [<-hgc];exact grownCap_ge w m 0 e
 have hrunop:(execOp a.eval o).run P w=.ok (.value (.slice (some ⟨w.heap.size,0,none⟩) m gc)) (w.drew.alloc (.cells (([]++news).toArray++Builtin.zeroCells z'.cells (gc-m)) e)):=by
  have hrun':=hrun;simp only [List.nil_append] at hrun';simp [execOp,ho,resolve,invoke,builtin,hxv,hyv,hrun']
 have hbl:Below w.heap.size w (w.drew.alloc (.cells (([]++news).toArray++Builtin.zeroCells z'.cells (gc-m)) e)):=((Below.refl _ _).drew).alloc (Nat.le_refl _) _;have hheap':(w.drew.alloc (.cells (([]++news).toArray++Builtin.zeroCells z'.cells (gc-m)) e)).heap[w.heap.size]? = some (.cells (([]++news).toArray++Builtin.zeroCells z'.cells (gc-m)) e (0,0)):=wm8 w.drew _;unfold Oper.wp;rw [hrunop];show K (a.put o.dst _) _;rw [hdst];refine hK _ _ ⟨τ,_,hI.vfk hbl h1 h2 (.slice (some ⟨w.heap.size,0,none⟩) m gc) (.arr [] c' none) rfl rfl (Nat.le_refl _) (by simp [blk]) ?_ (fun t ht=>ht.elim)⟩;refine ⟨w.heap.size,e,news,(Builtin.zeroCells z'.cells (gc-m)).toList,gc,by rw [hcnt'];rfl,?_,?_,fun p hp=>(by cases hp),hu',by rw [hcnt'];exact hge,?_⟩
 . rw [hheap']
   congr 2
   apply Array.ext';simp
 . rw [hflat'];refine hnr.keep (fun b' o u hm hc=>?_);have hl:=World.block_lt_of_cell? w _ hc;exact ⟨fun hh=>hh.elim hm (fun hh=>by simp only [blk] at hh;simp only at hl;omega),(xhx.below hbl b' o u hm hc).2⟩
 . rw [hesz',hnl,Array.length_toList,size_zeroCells,hzs,<-Nat.add_mul];exact Nat.mul_le_mul_right _ (by omega)
def litB (P:Program) (σ:List AV) (o:Oper) (x y:Operand) (T:TypeId):OR:=v7c P T fun ti=>vofA σ o (orr x++orr y) (wzn σ ti x y)
def opL (P : Program) (σ : List AV) (o : Oper) : Option OR := match o.op with
 | .buildSlice T n ps=>match n != 0 with
  | true=>some (litA P σ o T n ps.toList)
  | false=>none
 | .call c=>match c.callee with
  | .builtin .append=>match c.args.toList,c.argTypes.toList with
   | [x,y],[T,U]=>match zcAt (opd σ x) with
    | true=>if T=U then some (litB P σ o x y T) else none
    | false=>none
   | _,_=>none
  | _=>none
 | _=>none
def opA0 (P:Program) (σ:List AV) (o:Oper):OR:=if isX σ o.op=true then .of (opX P σ o) else opB P σ o
def selO:Option OR->OR->OR
 | some r,_=>r
 | none,r=>r
def opA (P:Program) (lt:Bool) (σ:List AV) (o:Oper):OR:=match lt with
 | true=>selO (opL P σ o) (opA0 P σ o)
 | false=>opA0 P σ o
theorem zbe {σ:List AV} {o:Oper} {rd tk:List Nat} {eff:List (Nat×AV)} (h:opA0 P σ o=.eff rd tk eff):ztu P o σ rd tk eff/\(∀ t∈tk,∀ i,(gt σ i).y1a t->i∈rd):=by
 unfold opA0 at h;split at h
 . unfold OR.of at h;split at h
   . rename_i rd' e hx
     cases h;exact ⟨wti hx,fun t ht=>by cases ht⟩
   . cases h
 . exact v42 h
theorem vwo {σ:List AV} {o:Oper} {f:FuncId} {args:List AV} {rd:List Nat} (h:opA0 P σ o=.call f args rd) {res:AV} (hc:z3h P f args res):ztu P o σ rd [] (v29 o res):=by
 unfold opA0 at h;split at h
 . unfold OR.of at h;split at h<;>cases h
 . exact yws h hc
theorem xep {σ:List AV} {o:Oper} {F:List AV->AV->Prop} {args:List AV} {rd:List Nat} (h:opA0 P σ o=.fn (zjz P F) args rd) {res:AV} (hc:F args res):ztu P o σ rd [] (v29 o res):=by
 unfold opA0 at h;split at h
 . unfold OR.of at h;split at h<;>cases h
 . exact zwn h hc
theorem v98 {σ:List AV} {o:Oper} {f:FuncId} {caps:List AV} {rd:List Nat} (h:opA0 P σ o=.mk f caps rd) {F:List AV->AV->Prop} (v47:za1 P f) (hF:∀ args res,F args res->z3h P f (args++caps) res) :
 ztu P o σ rd [] (v29 o (.one (.fnp (zjz P F)))):=by
 unfold opA0 at h;split at h
 . unfold OR.of at h;split at h<;>cases h
 . exact x58 h v47 hF
theorem yqf {σ:List AV} {o:Oper} {f:FuncId} {l:List AV} {j s:Nat} {ov:OV} {rd:List Nat} (h:opA0 P σ o=.own f l j s ov rd) {new:OV} {res nw res':AV} (hc:x5m P f l j ov new res)
 (hs:w9l (gt σ s) ov new=some nw) (hr:yd2 s ov res=some res'):ztu P o σ rd [] ((s,nw)::v29 o res'):=by
 unfold opA0 at h;split at h
 . unfold OR.of at h;split at h<;>cases h
 . exact xcg h hc hs hr
theorem yy4 {σ:List AV} {o:Oper} {rd tk:List Nat} {eff:List (Nat×AV)} (h:opL P σ o=some (.eff rd tk eff)):ztu P o σ rd tk eff/\(∀ t∈tk,∀ i,(gt σ i).y1a t->i∈rd):=by
 unfold opL at h;split at h
 . rename_i T n ps ho;split at h
   . simp only [Option.some.injEq] at h;exact wpv (by rw [ho]) h
   . cases h
 . rename_i c ho;obtain ⟨callee,args,argTypes⟩:=c;simp only at h;split at h
   . split at h
     . rename_i x y T U ha ht;split at h
       . split at h
         . rename_i hTU;subst hTU;simp only [Option.some.injEq] at h
           have ea:args=#[x,y]:=by cases args;simp at ha;rw [ha]
           have et:argTypes=#[T,T]:=by cases argTypes;simp at ht;rw [ht]
           rw [ea,et] at ho;unfold litB at h;obtain ⟨ti,hti,hk⟩:=zni (by simp) h
           have:=yuf (fun av ha r hr=>zel ho hti ha hr) hk
           obtain ⟨h1,h2⟩:=this;exact ⟨h2,by rw [h1];intro t ht;cases ht⟩
         . cases h
       . cases h
     . cases h
   . cases h
 . cases h
def zpz (r:OR):Prop:=r=.bad\/∃ rd tk eff,r=.eff rd tk eff
theorem vnn {T:TypeId} {k:TI->OR} (h:∀ ti,zpz (k ti)):zpz (v7c P T k):=by
 unfold v7c;split
 . exact h _
 . exact .inl rfl
theorem xlp {ti:TI} {k:TI->OR} (h:∀ ti,zpz (k ti)):zpz (wxq P ti k):=by
 unfold wxq;split
 . exact vnn h
 . exact .inl rfl
theorem zff {σ:List AV} {d:Nat} {rd:List Nat} {se:List (Nat×AV)} {b:Bool} {a:Option AV}:zpz (litE σ d rd se b a):=by
 unfold litE;split
 . split
   . exact .inr ⟨_,_,_,rfl⟩
   . exact .inl rfl
 . exact .inl rfl
theorem vw1 {σ:List AV} {o:Oper} {rd:List Nat} {a:Option AV}:zpz (vofA σ o rd a):=by
 unfold vofA;split
 . unfold OR.of;split
   . exact .inr ⟨_,_,_,rfl⟩
   . exact .inl rfl
 . exact .inl rfl
theorem ye8 {σ:List AV} {o:Oper} {r:OR} (h:opL P σ o=some r):zpz r:=by
 unfold opL at h;split at h
 . split at h
   . cases h;unfold litA;split
     . exact vnn (fun _=>xlp (fun _=>zff))
     . exact .inl rfl
   . cases h
 . split at h
   . split at h
     . split at h
       . split at h
         . cases h;exact vnn (fun _=>vw1)
         . cases h
       . cases h
     . cases h
   . cases h
 . cases h
theorem yun {lt:Bool} {σ:List AV} {o:Oper} {rd tk:List Nat} {eff:List (Nat×AV)} (h:opA P lt σ o=.eff rd tk eff):ztu P o σ rd tk eff/\(∀ t∈tk,∀ i,(gt σ i).y1a t->i∈rd):=by
 unfold opA at h;split at h
 . unfold selO at h;split at h
   . rename_i r hr;subst h;exact yy4 (by assumption)
   . exact zbe h
 . exact zbe h
theorem wiw {lt:Bool} {σ:List AV} {o:Oper} {r:OR} (h:opA P lt σ o=r) (h1:r≠.bad) (h2:∀ rd tk e,r≠.eff rd tk e):opA0 P σ o=r:=by
 unfold opA at h;split at h
 . unfold selO at h;split at h
   . subst h
     rcases ye8 (P:=P) (σ:=σ) (o:=o) (by assumption) with h3 | ⟨rd,tk,e,h3⟩
     . exact absurd h3 h1
     . exact absurd h3 (h2 _ _ _)
   . exact h
 . exact h
inductive GR where
 | plain
 | when (d:Nat) (c b:Bool)
 | skip (d:Nat)
 | bad
def v2z (ops:List Oper) (σ:List AV) (o:Oper):GR:=match o.guard with
 | none=>.plain
 | some (j,b)=>match (ops[j]?).bind (·.dst) with
  | some d=>match gt σ d with
   | .one (.raw (.bool c))=>.when d c b
   | .undef=>.skip d
   | _=>.bad
  | none=>.bad
def BadK (_o:Op) (_σ:List AV):Prop:=False
def BadC (_c:Operand) (_σ:List AV):Prop:=False
def wyq (P:Program) (f:FuncId) (args:List AV) (K:Bool->AV->Prop):Prop:=∃ res,z3h P f args res/\K true res
def FnK (P:Program) (p:(Nat->Nat->Prop)->World->Value->Prop) (args:List AV) (K:Bool->AV->Prop):Prop:=∃ F,p=zjz P F/\∃ res,F args res/\K true res
def MkK (P:Program) (f:FuncId) (caps:List AV) (K:Bool->(List AV->AV->Prop)->Prop):Prop:=∃ F,za1 P f/\(∀ args res,F args res->z3h P f (args++caps) res)/\K true F
def OwnK (P:Program) (f:FuncId) (l:List AV) (j:Nat) (ov:OV) (k:Bool->OV->AV->Prop):Prop:=∃ new res,x5m P f l j ov new res/\k true new res
def ownF (o:Oper) (σ:List AV) (s:Nat) (rd:List Nat) (k:Bool->List Nat->List Nat->List (Nat×AV)->Prop) (b:Bool) (nw res:Option AV):Prop:=match nw,res with
 | some nw,some r=>k b rd [] ((s,nw)::v29 o r)
 | _,_=>BadK o.op σ
def wp9 (c b:Bool) (X Y:Bool->Prop):Prop:=(c=b->X true)/\(c=(!b)->Y true)
def zht (c:Bool) (X Y:Bool->Prop):Prop:=(c=true->X true)/\(c=false->Y true)
def doF (P:Program) (x:OR) (o:Oper) (σ:List AV) (b:Bool) (k:Bool->List Nat->List Nat->List (Nat×AV)->Prop):Prop:=match x with
 | .eff rd tk e=>k b rd tk e
 | .call f args rd=>wyq P f args (fun b res=>k b rd [] (v29 o res))
 | .fn p args rd=>FnK P p args (fun b res=>k b rd [] (v29 o res))
 | .mk f caps rd=>MkK P f caps (fun b F=>k b rd [] (v29 o (.one (.fnp (zjz P F)))))
 | .own f l j s ov rd=>OwnK P f l j ov (fun b new res=>ownF o σ s rd k b (w9l (gt σ s) ov new) (yd2 s ov res))
 | .bad=>BadK o.op σ
def yw5 (σ:List AV) (o:Oper) (d:Nat) (b:Bool) (k:Bool->List Nat->List Nat->List (Nat×AV)->Prop):Prop:=match o.dst with
 | some e=>if nh σ e then k b [d,e] [] [(e,.undef)] else BadK o.op σ
 | none=>BadK o.op σ
def onD (d:Nat) (o:Oper) (σ:List AV) (k:Bool->List Nat->List Nat->List (Nat×AV)->Prop) (b:Bool) (rd tk:List Nat) (e:List (Nat×AV)):Prop:=match tk with
 | []=>k b (d::rd) [] e
 | _=>BadK o.op σ
def gdF (P:Program) (lt:Bool) (g:GR) (o:Oper) (σ:List AV) (b:Bool) (k:Bool->List Nat->List Nat->List (Nat×AV)->Prop):Prop:=match g with
 | .plain=>doF P (opA P lt σ o) o σ b k
 | .when d c b'=>wp9 c b' (fun b=>doF P (opA P lt σ o) o σ b (onD d o σ k)) (fun b=>yw5 σ o d b k)
 | .skip d=>yw5 σ o d b k
 | .bad=>BadK o.op σ
theorem ywe {ops:Array Oper} {σ:List AV} {o:Oper} :
 (v2z ops.toList σ o=.plain->o.guard=none)/\
 (∀ d c b,v2z ops.toList σ o=.when d c b->∃ j,o.guard=some (j,b)/\(ops[j]?).bind (·.dst)=some d/\gt σ d=.one (.raw (.bool c)))/\
 (∀ d,v2z ops.toList σ o=.skip d->∃ j b,o.guard=some (j,b)/\(ops[j]?).bind (·.dst)=some d/\gt σ d=.undef):=by
 unfold v2z
 split
 . rename_i hg;exact ⟨fun _=>hg,fun d c b h=>(by cases h),fun d h=>(by cases h)⟩
 . rename_i j b hg;simp only [Array.getElem?_toList]
   split
   . rename_i d hd
     split
     . rename_i c hc;exact ⟨fun h=>(by cases h),fun d' c' b' h=>by cases h;exact ⟨j,hg,hd,hc⟩,fun d h=>(by cases h)⟩
     . rename_i hc;exact ⟨fun h=>(by cases h),fun d' c' b' h=>(by cases h),fun d' h=>by cases h;exact ⟨j,b,hg,hd,hc⟩⟩
     . exact ⟨fun h=>(by cases h),fun d' c' b' h=>(by cases h),fun d h=>(by cases h)⟩
   . exact ⟨fun h=>(by cases h),fun d' c' b' h=>(by cases h),fun d h=>(by cases h)⟩
theorem vy1 {lt:Bool} {o:Oper} {σ:List AV} {b:Bool} {k:Bool->List Nat->List Nat->List (Nat×AV)->Prop} (h:doF P (opA P lt σ o) o σ b k) :
 ∃ b' rd tk e,ztu P o σ rd tk e/\(∀ t∈tk,∀ i,(gt σ i).y1a t->i∈rd)/\k b' rd tk e:=by
 unfold doF at h;split at h
 . rename_i rd tk e he;exact ⟨_,_,_,_,(yun he).1,(yun he).2,h⟩
 . rename_i he;obtain ⟨res,h1,h2⟩:=h;exact ⟨_,_,_,_,vwo (wiw he (by simp) (by simp)) h1,by simp,h2⟩
 . rename_i he;obtain ⟨F,rfl,res,h1,h2⟩:=h;exact ⟨_,_,_,_,xep (wiw he (by simp) (by simp)) h1,by simp,h2⟩
 . rename_i he;obtain ⟨F,hc,hF,h2⟩:=h;exact ⟨_,_,_,_,v98 (wiw he (by simp) (by simp)) hc hF,by simp,h2⟩
 . rename_i he;obtain ⟨new,res,h1,h2⟩:=h;unfold ownF at h2;split at h2
   . rename_i hs hr;exact ⟨_,_,_,_,yqf (wiw he (by simp) (by simp)) h1 hs hr,by simp,h2⟩
   . exact h2.elim
 . exact h.elim
theorem zmh {σ:List AV} {o:Oper} {d:Nat} {b:Bool} {k:Bool->List Nat->List Nat->List (Nat×AV)->Prop} (h:yw5 σ o d b k):∃ e,o.dst=some e/\nh σ e=true/\k b [d,e] [] [(e,.undef)]:=by
 unfold yw5 at h;split at h
 . rename_i e he;split at h
   . rename_i hn;exact ⟨e,he,hn,h⟩
   . exact h.elim
 . exact h.elim
theorem wxo {lt:Bool} {ops:Array Oper} {σ:List AV} {o:Oper} {b:Bool} {k:Bool->List Nat->List Nat->List (Nat×AV)->Prop} (h:gdF P lt (v2z ops.toList σ o) o σ b k) :
 ∃ b' rd tk e,GStep P ops o σ rd tk e/\k b' rd tk e:=by
 unfold gdF at h;split at h
 . rename_i hg;obtain ⟨b',rd,tk,e,h1,h2,h3⟩:=vy1 h;exact ⟨b',rd,tk,e,GStep.plain (ywe.1 hg) h2 h1,h3⟩
 . rename_i d c b' hg;obtain ⟨j,h1,h2,h3⟩:=ywe.2.1 d c b' hg;obtain ⟨hx,hy⟩:=h;by_cases hcb:c=b'
   . subst hcb;obtain ⟨b'',rd,tk,e,ha,hb,hk⟩:=vy1 (hx rfl);unfold onD at hk;split at hk
     . exact ⟨_,_,_,_,GStep.taken h1 h2 h3 ha,hk⟩
     . exact hk.elim
   . have hn:c = !b':=by cases c<;>cases b'<;>simp_all
     obtain ⟨e,he,hnh,hk⟩:=zmh (hy hn);exact ⟨_,_,_,_,GStep.vcu h1 h2 (.inl (by rw [h3,hn])) he hnh,hk⟩
 . rename_i d hg;obtain ⟨j,b',h1,h2,h3⟩:=ywe.2.2 d hg;obtain ⟨e,he,hnh,hk⟩:=zmh h;exact ⟨_,_,_,_,GStep.vcu h1 h2 (.inr h3) he hnh,hk⟩
 . exact h.elim
def RunF (P:Program) (lt:Bool) (ops:List Oper):Bool->List Oper->List AV->(Bool->List AV->Prop)->Prop
 | b,[],σ,K=>K b σ
 | b,o::r,σ,K=>gdF P lt (v2z ops σ o) o σ b (fun b _ _ e=>RunF P lt ops b r (app e σ) K)
theorem RunF.run {lt:Bool} {ops:Array Oper}:∀(l:List Oper) (b:Bool) (σ:List AV) (K:Bool->List AV->Prop),RunF P lt ops.toList b l σ K->Run P ops l σ (fun σ=>∃ b,K b σ)
 | [],b,_,_,h=>⟨b,h⟩
 | o::r,b,σ,K,h=>by
  unfold RunF at h;obtain ⟨b',rd,tk,e,h1,h2⟩:=wxo h;exact ⟨_,_,_,h1,RunF.run r b' _ K h2⟩
def IndK (ops:List Oper) (acc:List SR) (σ0:List AV) (k:Bool->Prop):Prop:=indep ops acc σ0=true/\k true
def RunG (P:Program) (lt:Bool) (ops:List Oper) (σ0:List AV):Bool->List Oper->List SR->List AV->(Bool->List AV->Prop)->Prop
 | _,[],acc,σ,K=>IndK ops acc σ0 (fun b=>K b σ)
 | b,o::r,acc,σ,K=>gdF P lt (v2z ops σ o) o σ b (fun b rd tk e=>RunG P lt ops σ0 b r (acc++[⟨rd,tk,e⟩]) (app e σ) K)
theorem RunG.runD {lt:Bool} {ops:Array Oper} {σ0:List AV}:∀(l:List Oper) (b:Bool) (acc:List SR) (σ:List AV) (K:Bool->List AV->Prop),RunG P lt ops.toList σ0 b l acc σ K->RunD P ops ops.toList σ0 l acc σ (fun σ=>∃ b,K b σ)
 | [],b,_,_,_,h=>⟨h.1,true,h.2⟩
 | o::r,b,acc,σ,K,h=>by
  unfold RunG at h;obtain ⟨b',rd,tk,e,h1,h2⟩:=wxo h;exact ⟨_,_,_,h1,RunG.runD r b' _ _ K h2⟩
def v1x (next:Bool->List AV->Prop) (Q:Exit->Bool->List AV->Prop):Exit->Bool->List AV->Prop
 | .normal=>next
 | .exit id=>Q (.exit id)
 | .goto l=>Q (.goto l)
 | .ret=>Q .ret
 | .panic c=>Q (.panic c)
 | .outgrown=>Q .outgrown
def y4d (id:Nat) (Q:Exit->Bool->List AV->Prop):Exit->Bool->List AV->Prop
 | .normal=>Q .normal
 | .exit j=>if j=id then Q .normal else Q (.exit j)
 | .goto l=>Q (.goto l)
 | .ret=>Q .ret
 | .panic c=>Q (.panic c)
 | .outgrown=>Q .outgrown
def outQ (Q:Exit->Bool->List AV->Prop):Exit->List AV->Prop:=fun e σ=>∃ b,Q e b σ
def vhw (P:Program) (_G:List (Nat×List Gh)) (c:Code) (Q:Exit->Bool->List AV->Prop) (σ:List AV):Prop:=vfq P (.loop c) (outQ Q) σ
def zit (P:Program) (k:Bool->Prop):Prop:=P.follows .mixedOrders=true/\k true
def v4s (_:Program) (c:Operand) (σ:List AV) (X Y:Bool->Prop):AV->Prop
 | .one (.raw (.bool p))=>zht p X Y
 | _=>BadC c σ
def ghOf:List (Nat×List Gh)->Nat->List Gh
 | [],_=>[]
 | (i,l)::r,j=>if i=j then l else ghOf r j
def vdl:Code->Option Nat
 | .region id _ _=>some id
 | .seq x _=>vdl x
 | .block _ x=>vdl x
 | .loop x=>vdl x
 | _=>none
def xtc:List Gh->Bool
 | []=>false
 | .join::_=>true
 | .frz _::r=>xtc r
 | .any _::r=>xtc r
 | .mv _ _::r=>xtc r
 | .lit::r=>xtc r
def wfr:List Gh->Bool
 | []=>false
 | .lit::_=>true
 | .frz _::r=>wfr r
 | .any _::r=>wfr r
 | .mv _ _::r=>wfr r
 | .join::r=>wfr r
def wad:List (Nat×List Gh)->Code->Bool
 | [],_=>false
 | g::G,y=>match vdl y with
  | some id=>xtc (ghOf (g::G) id)
  | none=>false
def ybu (P:Program) (_G:List (Nat×List Gh)) (x y:Code) (Q:Exit->Bool->List AV->Prop) (σ:List AV):Prop:=vfq P (.seq x y) (outQ Q) σ
def seqF (c:Bool) (A B:Bool->Prop):Prop:=match c with
 | true=>A true
 | false=>B true
def RC (P:Program) (G:List (Nat×List Gh)):Code->Bool->(Exit->Bool->List AV->Prop)->List AV->Prop
 | .skip,b,Q,σ=>Q .normal b σ
 | .region id ops false,b,Q,σ=>RunF P (wfr (ghOf G id)) ops.toList b ops.toList (ghL (ghOf G id) σ) (Q .normal)
 | .region id ops true,b,Q,σ=>zit P (fun _=>RunG P (wfr (ghOf G id)) ops.toList (ghL (ghOf G id) σ) b ops.toList [] (ghL (ghOf G id) σ) (Q .normal))
 | .seq x y,b,Q,σ=>seqF (wad G y) (fun _=>ybu P G x y Q σ) (fun _=>RC P G x b (v1x (fun b σ=>RC P G y b Q σ) Q) σ)
 | .cond c x y,_,Q,σ=>v4s P c σ (fun b=>RC P G x b Q σ) (fun b=>RC P G y b Q σ) (opd σ c)
 | .block id x,b,Q,σ=>RC P G x b (y4d id Q) σ
 | .loop x,_,Q,σ=>vhw P G x Q σ
 | .exit id,b,Q,σ=>Q (.exit id) b σ
 | .ret,b,Q,σ=>Q .ret b σ
 | _,_,_,_=>False
end Go.Slot
