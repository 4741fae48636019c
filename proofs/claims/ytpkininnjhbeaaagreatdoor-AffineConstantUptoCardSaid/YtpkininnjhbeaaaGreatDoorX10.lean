/- The proof, part X10: Mo, Mp. -/
import Derived.Test.YtpkininnjhbeaaaGreatDoorX9
namespace Go.Slot
open Go Go.RowKit
variable {P:Program}
variable {v:Value} {f:FuncId} {o:Oper} {rd0 rd tk:List Nat} {ti:TI} {y:Operand} {T:TypeId} {j:Nat} {ov:OV} {b:Bool} {ops:Array Oper}
inductive OR where
 | eff (rd tk:List Nat) (eff:List (Nat×AV))
 | call (f:FuncId) (args:List AV) (rd:List Nat)
 | fn (p:(Nat->Nat->Prop)->World->Value->Prop) (args:List AV) (rd:List Nat)
 | mk (f:FuncId) (caps:List AV) (rd:List Nat)
 | own (f:FuncId) (l:List AV) (j s:Nat) (ov:OV) (rd:List Nat)
 | bad
def OR.of:Option (List Nat×List (Nat×AV))->OR
 | some (rd,e)=>.eff rd [] e
 | none=>.bad
def vr2:Value->Option FuncId
 | .func (.func f) fs cs=>match fs.toList,cs.toList with
  | [],[]=>some f
  | _,_=>none
 | _=>none
theorem yz2 (h:vr2 v=some f):v=.func (.func f) #[] #[]:=by
 unfold vr2 at h;split at h
 . rename_i f' fs cs;split at h
   . rename_i h1 h2
     cases h
     have e1:fs=#[]:=by rw [<-Array.toArray_toList (xs:=fs),h1]
     have e2:cs=#[]:=by rw [<-Array.toArray_toList (xs:=cs),h2]
     rw [e1,e2]
   . cases h
 . cases h
def wgg (P:Program) (t:TypeId) (k:TI->OR):OR:=match mkTI P t with
 | some ti=>k ti
 | none=>.bad
def vofA (I:List AV) (o:Oper) (rd:List Nat) (a:Option AV):OR:=match a with
 | some av=>.of (val I o rd av)
 | none=>.bad
def vofB (I:List AV) (o:Oper) (a:Option (List Nat×AV)):OR:=match a with
 | some (rd,av)=>.of (val I o rd av)
 | none=>.bad
def vw7 (ti:TI) (av:AV):Bool:=match ti.sh with
 | .slice _ es _ _=>match av with
  | .one c=>match c.bare with
   | .ints _ _=>es==1
   | .sl n _=>es==n
   | _=>true
  | _=>true
 | _=>true
def z4h (P:Program) (ti:TI) (k:TI->OR):OR:=match ti.sh with
 | .slice e _ _ _=>wgg P e k
 | _=>.bad
def v27 (ti:TI):Bool:=match ti.sh with
 | .array _ _ es=>es != 0
 | _=>true
def AV.wls:AV->Bool
 | .arr _ _ _ | .asl _ | .awn _ _ _ _=>true
 | _=>false
variable {I l caps:List AV} {av res nw res':AV} {a:Option AV} {k:Bool->List Nat->List Nat->List (Nat×AV)->Prop} {F:List AV->AV->Prop}
def opB (P:Program) (I:List AV) (o:Oper):OR:=
 match o.op with
 | .move x=>.of (val I o (orr x) (cpy x (opd I x)))
 | .assign x=>.of (val I o (orr x) (cpy x (opd I x)))
 | .pick c x y=>vofA I o (orr c++orr x++orr y) (zlz I c x y)
 | .alloc T=>wgg P T fun ti=>.of (val I o [] (.box ti.zc))
 | .box _ x=>match xwy (opd I x) with
  | some cs=>.of (val I o (orr x) (.box cs))
  | none=>.bad
 | .load T x=>wgg P T fun ti=>vofB I o (wjl I ti x)
 | .store T x y=>match o.dst with
  | none=>wgg P T fun ti=>match ywr I ti x y with
   | some (rd,s,av)=>.eff rd [] [(s,av)]
   | none=>.bad
  | some _=>.bad
 | .fieldAddr S x f=>wgg P S fun ti=>vofA I o (orr x) (xjw I ti x f)
 | .extract x n=>vofA I o (orr x) (vz9 I x n)
 | .indexAddr T x y=>wgg P T fun ti=>vofB I o (zxf I ti x y)
 | .binOp op _ x y _=>vofA I o (orr x++orr y) (binA I op x y)
 | .unOp op _ x=>vofA I o (orr x) (unA I op x)
 | .convert S D x=>wgg P S fun ts=>wgg P D fun td=>vofA I o (orr x) (vwq I ts td x)
 | .slice T x lo hi none=>wgg P T fun ti=>match (opd I x).wls with
  | true=>vofB I o (xch I ti x lo hi)
  | false=>if vw7 ti (opd I x) then vofA I o (orr x++orrO lo++orrO hi) (x4g I ti x lo hi none) else .bad
 | .slice T x lo hi mx=>wgg P T fun ti=>if vw7 ti (opd I x) then vofA I o (orr x++orrO lo++orrO hi++orrO mx) (x4g I ti x lo hi mx) else .bad
 | .makeSlice T x y=>wgg P T fun ti=>z4h P ti fun te=>vofA I o (orr x++orr y) (zqp I ti te x y)
 | .build T ps=>wgg P T fun ti=>if v27 ti&&ti.sh.agg then vofA I o (orrs ps.toList) (v7w I ti ps.toList) else .bad
 | .buildSlice T n ps=>wgg P T fun ti=>z4h P ti fun te=>vofA I o (orrs ps.toList) (xw9 I ti te n ps.toList)
 | .call c => match c.callee with
  | .builtin .len=>match c.args.toList,c.argTypes.toList with
   | [x],[T]=>wgg P T fun ti=>if xmh I ti x then vofB I o (lenA I x) else .bad
   | _,_=>.bad
  | .builtin .append=>match c.args.toList,c.argTypes.toList,o.dst with
   | [x,y],[T,U],some d=>if T=U then wgg P T fun ti=>match w0m I ti d x y with
    | some (rd,tk,eff)=>.eff rd tk eff
    | none=>.bad
    else .bad
   | _,_,_=>.bad
  | .value (.func f)=>match zvb I c.args.toList with
   | some l=>if ydq I o then .call f l (xl0 o++orrL c.args.toList) else .bad
   | none=>match z9m I c.args.toList with
    | some (l,j,s,ov)=>if ydq I o then .own f l j s ov (xl0 o++s::orrL c.args.toList) else .bad
    | none=>.bad
  | .value (.tmp t)=>match gt I t,zvb I c.args.toList with
   | .one (.raw v),some l=>match vr2 v with
    | some f=>if ydq I o then .call f l (xl0 o++t::orrL c.args.toList) else .bad
    | none=>.bad
   | .one (.fnp p),some l=>if ydq I o then .fn p l (xl0 o++t::orrL c.args.toList) else .bad
   | _,_=>.bad
  | _=>.bad
 | .makeFunc (.func f) fs cs=>match fs.toList,zvb I cs.toList,o.dst with
  | [],some l,some d=>if nh I d then .mk f l (d::orrL cs.toList) else .bad
  | _,_,_=>.bad
 | _=>.bad
theorem vop (hs:∀ r,val I o rd0 av=some r->vni P o I r.1 [] r.2) {eff:List (Nat×AV)} (h:OR.of (val I o rd0 av)=.eff rd tk eff):tk=[]/\vni P o I rd tk eff:=by
 cases hv:val I o rd0 av with
 | none=>rw [hv] at h;cases h
 | some r=>rw [hv] at h;cases h;exact ⟨rfl,hs r hv⟩
theorem wmv {α:Type} {a:Array α} {l:List α} (h:a.toList=l):a=l.toArray:=by rw [<-h]
theorem vqw {d:Nat} {x:Operand} {eff:List (Nat×AV)} (h:w0m I ti d x y=some (rd,tk,eff)):∀ t∈tk,∀ i,(gt I i).v7d t->i∈rd:=by
 unfold w0m at h;split at h
 case h_2=>cases h
 split at h
 case h_2=>cases h
 split at h
 case h_2=>cases h
 split at h
 case h_2=>cases h
 split at h
 case isFalse=>cases h
 simp only [Option.some.injEq,Prod.mk.injEq] at h;obtain ⟨rfl,rfl,rfl⟩:=h;intro t ht i hi
 have hlt:i<I.length:=by
  rcases Nat.lt_or_ge i I.length with h | h
  . exact h
  . unfold gt at hi;rw [List.getElem?_eq_none h] at hi;exact hi.elim
 have key:∀ tk:List Nat,t∈tk->i∈(zcm tk 0 I).map (·.1):=fun tk ht=>by
  have hf:=zgq tk I 0 i hlt;simp only [Nat.zero_add] at hf;rw [if_neg (fun hall=>AV.z1t ((List.all_eq_true.1 hall) t ht) hi)] at hf
  have:=List.mem_of_find?_eq_some hf
  exact List.mem_map.2 ⟨_,by simpa using this,rfl⟩
 simp only [List.mem_cons,List.mem_append];exact .inr (.inr (key _ ht))
theorem zze (hs:∀ av,a=some av->∀ r,val I o rd0 av=some r->vni P o I r.1 [] r.2) {eff:List (Nat×AV)} (h:vofA I o rd0 a=.eff rd tk eff):tk=[]/\vni P o I rd tk eff:=by
 unfold vofA at h;split at h
 . exact vop (hs _ rfl) h
 . cases h
theorem xse {a:Option (List Nat×AV)} (hs:∀ rd0 av,a=some (rd0,av)->∀ r,val I o rd0 av=some r->vni P o I r.1 [] r.2) {eff:List (Nat×AV)} (h:vofB I o a=.eff rd tk eff):tk=[]/\vni P o I rd tk eff:=by
 unfold vofB at h;split at h
 . exact vop (hs _ _ rfl) h
 . cases h
theorem yo2 {t:TypeId} {k:TI->OR} {r:OR} (hr:r≠.bad) (h:wgg P t k=r):∃ ti,mkTI P t=some ti/\k ti=r:=by
 unfold wgg at h;split at h
 . rename_i ti hti;exact ⟨ti,hti,h⟩
 . exact absurd h.symm hr
theorem z9f {k:TI->OR} {r:OR} (hr:r≠.bad) (h:z4h P ti k=r):∃ e es eb ik te,ti.sh=.slice e es eb ik/\mkTI P e=some te/\k te=r:=by
 unfold z4h at h;split at h
 . rename_i e es eb ik hs;obtain ⟨te,h1,h2⟩:=yo2 hr h;exact ⟨e,es,eb,ik,te,hs,h1,h2⟩
 . exact absurd h.symm hr
theorem zrl {eff:List (Nat×AV)} (h:opB P I o=.eff rd tk eff):vni P o I rd tk eff/\(∀ t∈tk,∀ i,(gt I i).v7d t->i∈rd):=by
 have nt:(tk=[]/\vni P o I rd tk eff)->vni P o I rd tk eff/\(∀ t∈tk,∀ i,(gt I i).v7d t->i∈rd):=fun ⟨h1,h2⟩=>⟨h2,by rw [h1];intro t ht;cases ht⟩
 have nb:OR.eff rd tk eff≠.bad:=by simp
 unfold opB at h;split at h
 . rename_i x ho;exact nt (vop (fun r hr=>yq7 (.inl ho) hr) h)
 . rename_i x ho;exact nt (vop (fun r hr=>yq7 (.inr ho) hr) h)
 . rename_i c x y ho;exact nt (zze (fun av ha r hr=>zy1 ho ha hr) h)
 . rename_i T ho;obtain ⟨ti,hti,hk⟩:=yo2 nb h;exact nt (vop (fun r hr=>whs ho hti hr) hk)
 . rename_i T x ho;split at h
   . rename_i cs hcs;exact nt (vop (fun r hr=>vj8 ho hcs hr) h)
   . cases h
 . rename_i T x ho;obtain ⟨ti,hti,hk⟩:=yo2 nb h;exact nt (xse (fun rd0 av ha r hr=>z3d ho hti ha hr) hk)
 . rename_i T x y ho;split at h
   . rename_i hd;obtain ⟨ti,hti,hk⟩:=yo2 nb h;split at hk
     . rename_i rd' s av hst
       cases hk;exact nt ⟨rfl,ysy ho hd hti hst⟩
     . cases hk
   . cases h
 . rename_i S x f ho;obtain ⟨ti,hti,hk⟩:=yo2 nb h;exact nt (zze (fun av ha r hr=>vt5 ho hti ha hr) hk)
 . rename_i x n ho;exact nt (zze (fun av ha r hr=>x5e ho ha hr) h)
 . rename_i T x y ho;obtain ⟨ti,hti,hk⟩:=yo2 nb h;exact nt (xse (fun rd0 av ha r hr=>zoy ho hti ha hr) hk)
 . rename_i op T x y U ho;exact nt (zze (fun av ha r hr=>x2r ho ha hr) h)
 . rename_i op T x ho;exact nt (zze (fun av ha r hr=>z0w ho ha hr) h)
 . rename_i S D x ho;obtain ⟨ts,hts,hk⟩:=yo2 nb h;obtain ⟨td,htd,hk⟩:=yo2 nb hk;exact nt (zze (fun av ha r hr=>v9d ho hts htd ha hr) hk)
 . rename_i T x lo hi ho;obtain ⟨ti,hti,hk⟩:=yo2 nb h;split at hk
   . exact nt (xse (fun rd0 av ha r hr=>zse ho hti ha hr) hk)
   . split at hk
     . rename_i hok;refine nt (zze (fun av ha r hr=>ywm ho hti (fun e es eb ik hsh c hc=>?_) ha (by simpa [orrO] using hr)) hk);unfold vw7 at hok;simp only [hsh,hc] at hok;refine ⟨fun k L e=>?_,fun n rows e=>?_⟩
       . rw [e] at hok;simpa using hok
       . rw [e] at hok;simpa using hok
     . cases hk
 . rename_i T x lo hi mx _ ho;obtain ⟨ti,hti,hk⟩:=yo2 nb h;split at hk
   . rename_i hok;refine nt (zze (fun av ha r hr=>ywm ho hti (fun e es eb ik hsh c hc=>?_) ha hr) hk);unfold vw7 at hok;simp only [hsh,hc] at hok;refine ⟨fun k L e=>?_,fun n rows e=>?_⟩
     . rw [e] at hok;simpa using hok
     . rw [e] at hok;simpa using hok
   . cases hk
 . rename_i T x y ho;obtain ⟨ti,hti,hk⟩:=yo2 nb h;obtain ⟨e,es,eb,ik,te,hs,hte,hk⟩:=z9f nb hk;exact nt (zze (fun av ha r hr=>y42 ho hti (fun e' es' eb' ik' hs'=>by rw [hs] at hs';cases hs';exact hte) ha hr) hk)
 . rename_i T ps ho;obtain ⟨ti,hti,hk⟩:=yo2 nb h;split at hk
   . rename_i hok;simp only [Bool.and_eq_true] at hok;refine nt (zze (fun av ha r hr=>zqu (by rw [ho]) hti (fun n e es hs=>?_) ha hok.2 hr) hk)
     have:=hok.1
     unfold v27 at this;rw [hs] at this;simpa using this
   . cases hk
 . rename_i T n ps ho;obtain ⟨ti,hti,hk⟩:=yo2 nb h;obtain ⟨e,es,eb,ik,te,hs,hte,hk⟩:=z9f nb hk;exact nt (zze (fun av ha r hr=>xyq (by rw [ho]) hti (fun e' es' eb' ik' hs'=>by rw [hs] at hs';cases hs';exact hte) ha hr) hk)
 . rename_i c ho;obtain ⟨callee,args,argTypes⟩:=c;simp only at h;split at h
   . split at h
     . rename_i x T ha ht;obtain ⟨ti,hti,hk⟩:=yo2 nb h;split at hk
       . rename_i hfit;rw [wmv ha,wmv ht] at ho;exact nt (xse (fun rd0 av hb r hr=>yie ho hti hfit hb hr) hk)
       . cases hk
     . cases h
   . split at h
     . rename_i x y T U d ha ht hd;split at h
       . rename_i hTU;subst hTU;obtain ⟨ti,hti,hk⟩:=yo2 nb h;split at hk
         . rename_i rd' tk' eff' hA
           cases hk;rw [wmv ha,wmv ht] at ho;exact ⟨vfb ho hd hti hA,vqw hA⟩
         . cases hk
       . cases h
     . cases h
   . split at h
     . split at h<;>cases h
     . split at h
       . split at h<;>cases h
       . cases h
   . split at h
     . split at h
       . split at h<;>cases h
       . cases h
     . split at h<;>cases h
     . cases h
   . cases h
 . split at h
   . split at h<;>cases h
   . cases h
 . cases h
def orK (P:Program) (I:List AV) (o:Oper):OR->Prop
 | .call f args rd=>∀ res,y4n P f args res->vni P o I rd [] (xas o res)
 | .fn p args rd=>∀ F,p=wxs P F->∀ res,F args res->vni P o I rd [] (xas o res)
 | .mk f caps rd=>∀ F,yss P f->(∀ args res,F args res->y4n P f (args++caps) res)->vni P o I rd [] (xas o (.one (.fnp (wxs P F))))
 | .own f l j s ov rd=>∀ new res nw res',z5b P f l j ov new res->wai (gt I s) ov new=some nw->wcu s ov res=some res'->vni P o I rd [] ((s,nw)::xas o res')
 | _=>True
theorem of_k {x:Option (List Nat×List (Nat×AV))}:orK P I o (.of x):=by unfold OR.of;split<;>trivial
theorem v6n:orK P I o (vofA I o rd a):=by unfold vofA;split<;>first | exact of_k | trivial
theorem vpb {a:Option (List Nat×AV)}:orK P I o (vofB I o a):=by unfold vofB;split<;>first | exact of_k | trivial
theorem zyh {k:TI->OR} (h:∀ ti,orK P I o (k ti)):orK P I o (wgg P T k):=by
 unfold wgg;split
 . exact h _
 . trivial
theorem vtl {k:TI->OR} (h:∀ ti,orK P I o (k ti)):orK P I o (z4h P ti k):=by
 unfold z4h;split
 . exact zyh h
 . trivial
theorem xis:orK P I o (opB P I o):=by
 unfold opB
 split
 case h_19=>
  rename_i c ho;obtain ⟨callee,as,ts⟩:=c;dsimp only
  split
  . split
    . exact zyh fun _=>by
       split
       . exact vpb
       . trivial
    . trivial
  . split
    . split
      . exact zyh fun _=>by split<;>trivial
      . trivial
    . trivial
  . split
    . rename_i l hl
      split
      . rename_i hn
        exact fun res hc=>vfn (ts:=ts) (by rw [ho]) hl hn hc
      . trivial
    . split
      . rename_i hx
        split
        . rename_i hn
          exact fun new res nw res' hc hs hr=>yao (ts:=ts) (by rw [ho]) hx hn hc hs hr
        . trivial
      . trivial
  . split
    . rename_i v l ht hl
      split
      . rename_i f' hf
        split
        . rename_i hn
          exact fun res hc=>xm1 (ts:=ts) (by rw [ho]) (by rw [ht,yz2 hf]) hl hn hc
        . trivial
      . trivial
    . rename_i p l ht hl
      split
      . rename_i hn;intro F hp res hc;subst hp;exact yb9 (ts:=ts) (by rw [ho]) ht hl hn hc
      . trivial
    . trivial
  . trivial
 case h_20=>
  rename_i f' fs cs ho
  split
  . rename_i l d hfs hl hd
    split
    . rename_i hn;intro F wml hF
      have:=vky (P:=P) (by rw [ho,wmv hfs]) hl wml hF (r:=(d::orrL cs.toList,[(d,.one (.fnp (wxs P F)))])) (by unfold val;rw [hd];simp [hn])
      simpa [xas,hd] using this
    . trivial
  . trivial
 all_goals first
  | exact of_k
  | exact v6n
  | trivial
  | exact zyh fun _=>of_k
  | exact zyh fun _=>v6n
  | exact zyh fun _=>vpb
  | exact zyh fun _=>zyh fun _=>v6n
  | exact zyh fun _=>vtl fun _=>v6n
  | (refine zyh fun _=>?_
     split
     . first | exact v6n | exact vpb
     . first | trivial | (split<;>first | exact v6n | trivial))
  | (split
     . first
       | exact of_k
       | (refine zyh fun _=>?_
          split<;>trivial)
     . trivial)
theorem zqj {args:List AV} (h:opB P I o=.call f args rd) (hc:y4n P f args res):vni P o I rd [] (xas o res):=by
 have:=xis (P:=P) (I:=I) (o:=o)
 rw [h] at this;exact this res hc
theorem vn8 {args:List AV} (h:opB P I o=.fn (wxs P F) args rd) (hc:F args res):vni P o I rd [] (xas o res):=by
 have:=xis (P:=P) (I:=I) (o:=o)
 rw [h] at this;exact this F rfl res hc
theorem wj7 (h:opB P I o=.mk f caps rd) (wml:yss P f) (hF:∀ args res,F args res->y4n P f (args++caps) res) :
 vni P o I rd [] (xas o (.one (.fnp (wxs P F)))):=by
 have:=xis (P:=P) (I:=I) (o:=o)
 rw [h] at this;exact this F wml hF
theorem vto {s:Nat} (h:opB P I o=.own f l j s ov rd) {new:OV} (hc:z5b P f l j ov new res)
 (hs:wai (gt I s) ov new=some nw) (hr:wcu s ov res=some res'):vni P o I rd [] ((s,nw)::xas o res'):=by
 have:=xis (P:=P) (I:=I) (o:=o)
 rw [h] at this;exact this new res nw res' hc hs hr
def litE (I:List AV) (d:Nat) (rd:List Nat) (se:List (Nat×AV)) (b:Bool):Option AV->OR
 | some (.one c)=>match b,nh I d with
  | true,true=>.eff (d::(rd++se.map (·.1))) [d] (se++[(d,.one (.tok d c))])
  | _,_=>.bad
 | _=>.bad
def isNone {α:Type}:Option α->Bool
 | none=>true
 | some _=>false
def litA (P:Program) (I:List AV) (o:Oper) (T:TypeId) (n:Nat) (ps:List (Nat×Operand)):OR:=match o.dst with
 | some d=>wgg P T fun ti=>z4h P ti fun te=>litE I d (orrs ps) (zcm [d] 0 I) (isNone o.guard) (xw9 I ti te n ps)
 | none=>.bad
theorem x7j (es:Nat):∀(n:Nat) (cs:List Cell),cs.length=n*es->(chunk es n cs).flatten=cs
 | 0,cs,h=>by
  have:cs=[]:=List.eq_nil_of_length_eq_zero (by simpa using h)
  subst this;rfl
 | n+1,cs,h=>by
  rw [Nat.add_mul,Nat.one_mul] at h;simp only [chunk,List.flatten_cons];rw [x7j es n (cs.drop es) (by simp;omega),List.take_append_drop]
theorem xc3 (es:Nat):∀(n:Nat) (cs:List Cell),cs.length=n*es->∀ r∈chunk es n cs,r.length=es
 | 0,cs,_=>fun r hr=>by cases hr
 | n+1,cs,h=>fun r hr=>by
  rw [Nat.add_mul,Nat.one_mul] at h;simp only [chunk] at hr
  rcases List.mem_cons.1 hr with rfl | hr
  . simp;omega
  . exact xc3 es n (cs.drop es) (by simp;omega) r hr
theorem yf8 {n:Nat} {ps:List (Nat×Operand)} (ho:o.op=.buildSlice T n ps.toArray) {eff:List (Nat×AV)} (h:litA P I o T n ps=.eff rd tk eff) :
 vni P o I rd tk eff/\(∀ t∈tk,∀ i,(gt I i).v7d t->i∈rd):=by
 have nb:OR.eff rd tk eff≠.bad:=by simp
 unfold litA at h;split at h
 case h_2=>cases h
 rename_i d hdst;obtain ⟨ti,hti,hk⟩:=yo2 nb h;obtain ⟨e,es,eb,ik,te,hsh,hte,hk⟩:=z9f nb hk;unfold litE at hk;split at hk
 case h_2=>cases hk
 rename_i c hb;split at hk
 case h_2=>cases hk
 rename_i hn
 cases hk;refine ⟨?_,?_⟩
 . intro E I' a w hag htk ⟨τ,M,hI⟩ K Q hK;have hok:=wgk hti;obtain ⟨ds,i,z,hd,hi,hz,_,_,_,_,_,hsh'⟩:=hok.ex;obtain ⟨rfl,j,z',hj,hz',hjs,hjb,hes0,hzs,hik⟩:=zu3 (hsh'.symm.trans hsh);obtain ⟨de,je,ze,hde,hje,hze,_,_,_,hone,hzce,_⟩:=(wgk hte).ex;rw [hj] at hje;cases hje;rw [hz'] at hze;cases hze;unfold xw9 at hb;rw [hsh] at hb;dsimp only at hb;split at hb
   case isFalse=>cases hb
   rename_i hsmall;split at hb
   . cases hb
   rename_i cs hfill
   have hav:xsx I' ps=xsx I ps:=yzt ps (fun x hx=>hag.opd (fun t ht=>by
    have:=hx t ht
    simp [this]))
   have hz0:RdL M w τ (yql z'.cells.toList n) (yql te.zc n):=vrl (by rw [hzce];exact zs3 hone) n
   have hinit:(Array.range (n*es)).map (z'.cells[· % z'.cells.size]!)=(yql z'.cells.toList n).toArray:=by
    apply Array.ext
    . simp [vww,hzs]
    . intro q h1 h2;simp only [Array.size_map,Array.size_range] at h1;have hq:=vp8 z'.cells.toList n q (by simpa [hzs] using h1);have hlt:q % z'.cells.size<z'.cells.size:=Nat.mod_lt _ (by rw [hzs];omega);simp only [Array.getElem_map,Array.getElem_range,List.getElem_toArray];simp only [Array.length_toList,Array.getElem?_toList] at hq;rw [Array.getElem?_eq_getElem hlt,List.getElem?_eq_getElem (by simpa using h2)] at hq;simp at hq;rw [hq];simp [hlt]
   obtain ⟨cells',hf,hrd⟩:=x1d hI (fun i=>some (i*es,es)) ps (yql z'.cells.toList n).toArray _ cs (by simpa using hz0) (by rw [hav];exact hfill)
   have hrun:(execOp a.eval o).run P w=.ok (.value (.slice (some ⟨w.heap.size,0,none⟩) n n)) (w.alloc (.cells cells' e)):=by
    have h24:¬(16777216<n*es):=by omega
    have hne:¬(n*es=0):=by
     intro h0
     rcases Nat.mul_eq_zero.1 h0 with h0 | h0
     . exact hsmall.2 h0
     . exact hes0 h0
    have hpe:(Array.map (fun x=>match x with | (i,x)=>(i,a.eval x)) ps.toArray).toList=ps.map fun p=>(p.1,a.eval p.2):=by simp
    simp only [execOp,ho,Instr.buildSlice,Sem.run_bind,w9c hd,Result.andThen_ok,yyt hj,hjs];rw [if_neg (by simpa using h24),if_neg hne];simp only [Sem.run_bind,wx4 hj hz',Result.andThen_ok,Sem.run_pure,hinit];rw [hpe,hf];simp [newRow]
   have hcl:(vc2 cs).length=n*es:=by
    rw [v5h,xsc _ _ _ hfill,vww,hzce];simp [hzs]
   have hall:cells'.toList.length=n*es:=by rw [hrd.bare.length,hcl]
   have hn1:n<=n*es:=Nat.le_mul_of_pos_right n (Nat.pos_of_ne_zero hes0);obtain ⟨old,h1,h2⟩:=xd0 (hag.nh (by simp) hn)
   have hfin:app (zcm [d] 0 I++[(d,.one (.tok d c))]) I'=(vtf [d] I').set d (.one (.tok d c)):=by
    rw [wkl,yfn hag.1 (fun r hr=>hag.2 r (by simp only [List.mem_cons,List.mem_append];exact .inr (.inr hr))) (fun t ht i hi=>hag.2 i (htk t ht i hi))];rfl
   have hg:=yj3 hI.size hI.mb (.slice none 0 0) e es n cells'.toList hall (by simp [maxLen];omega);rw [Array.toArray_toList] at hg;have hv:zal E M w ⟨.slice none 0 0,es⟩:=.inl ⟨none,rfl⟩;split at hb
   . rename_i k;split at hb
     . rename_i he1;subst he1;simp only [Option.map_eq_some_iff,AV.one.injEq] at hb;obtain ⟨l,hl,rfl⟩:=hb;have hvs:=xrp hrd.bare hl
       have hll:l.length=n:=by
        have h1:=congrArg List.length hvs;have h2:=hrd.bare.length;simp only [List.length_map] at h1;omega
       subst hll;rw [hvs] at hg;exact xeg hdst (by simp) hI h1 h2 rfl hg hg.ints hrun hv (fun _ _ _ _=>zq4) (fun _ _ _ _=>zq4) hfin hK
     . cases hb
   . cases hb;have hfl:(chunk es n (vc2 cs)).flatten=vc2 cs:=x7j es n _ hcl
     have hg':Grew E M w (w.alloc (.cells cells' e)) (fun b o=>M b o\/(b=w.heap.size/\n*es<=o)) (.slice none 0 0) (.slice (some ⟨w.heap.size,0,none⟩) n n) es (chunk es n (vc2 cs)).length cells'.toList:=by
      rw [v3j];exact hg
     exact xeg hdst (by simp) hI h1 h2 rfl hg' (hg'.rows (by rw [hfl];exact hrd.bare) (fun r hr=>xc3 es n _ hcl r hr) (by rw [v3j];exact hall) (Nat.pos_of_ne_zero hes0)) hrun hv (fun _ _ _ _=>zq4) (fun _ _ _ _=>zq4) hfin hK
 . intro t ht i hi
   have hlt:i<I.length:=by
    rcases Nat.lt_or_ge i I.length with h | h
    . exact h
    . unfold gt at hi;rw [List.getElem?_eq_none h] at hi;exact hi.elim
   have hf:=zgq [d] I 0 i hlt;simp only [Nat.zero_add] at hf;rw [if_neg (fun hall=>AV.z1t ((List.all_eq_true.1 hall) t ht) hi)] at hf
   have:=List.mem_of_find?_eq_some hf
   simp only [List.mem_cons,List.mem_append];exact .inr (.inr (List.mem_map.2 ⟨_,by simpa using this,rfl⟩))
def y00 (es:Nat):Option IntKind->Cell
 | some k=>.ints k []
 | none=>.sl es []
def isZc:Cell->Bool
 | .zc=>true
 | .raw (.slice none 0 0)=>true
 | _=>false
def zcAt:AV->Bool
 | .one c=>isZc c
 | _=>false
def ownN:Option Cell->Option AV
 | some c'=>if c'.cnt≠0 then some (.arr [] c' none) else none
 | none=>none
def w6x (I:List AV) (ti:TI) (x y:Operand):Option AV:=match ti.sh with
 | .slice _ es eb ik=>match zcAt (opd I x) with
  | true=>match opd I y with
   | .one cy=>ownN (wch es eb ik (y00 es ik) cy.bare)
   | _=>none
  | false=>none
 | _=>none
theorem vun {M:Nat->Nat->Prop} {w:World} {τ:Nat->TV} {c:Cell} (h:isZc c=true) (hr:RdT M w τ v c):∃ ad,v=.slice ad 0 0:=by
 unfold isZc at h;split at h
 . have hr:RdC M w v .zc:=hr
   cases hr;exact ⟨_,rfl⟩
 . exact ⟨none,RdC.x18 hr⟩
 . cases h
theorem vxn {x:Operand} (ho:o.op=.call { callee:=.builtin .append,args:=#[x,y],argTypes:=#[T,T] }) (hti:mkTI P T=some ti)
 (hA:w6x I ti x y=some av) {r:List Nat×List (Nat×AV)} (h:val I o (orr x++orr y) av=some r):vni P o I r.1 [] r.2:=by
 obtain ⟨d,hdst,hn,rfl⟩:=y56 h;obtain ⟨ds,i0,z0,hd0,hi0,hz0,_,_,_,_,_,hsh'⟩:=(wgk hti).ex;unfold w6x at hA;split at hA
 case h_2=>cases hA
 rename_i e es eb ik hsh;split at hA
 case h_2=>cases hA
 rename_i hzc;split at hA
 case h_2=>cases hA
 rename_i cy hy;unfold ownN at hA;split at hA
 case h_2=>cases hA
 rename_i c' wvz;split at hA
 case isFalse=>cases hA
 rename_i hcnt0
 cases hA;obtain ⟨rfl,j,z',hj,hz',hjs,hjb,hes0,hzs,hik⟩:=zu3 (hsh'.symm.trans hsh);have hes:0<es:=Nat.pos_of_ne_zero hes0;intro E I' a w hag _ ⟨τ,M,hI⟩ K Q hK;have hox:opd I' x=opd I x:=hag.opd (fun t ht=>by simp [ht]);have hoy:opd I' y=opd I y:=hag.opd (fun t ht=>by simp [ht]);have sx:=hI.opd x;have sy:=hI.opd y;rw [hox] at sx;rw [hoy,hy] at sy
 have hxv:∃ ad,a.eval x=.slice ad 0 0:=by
  unfold zcAt at hzc;split at hzc
  . rename_i c hc;rw [hc] at sx;exact vun hzc sx
  . cases hzc
 obtain ⟨xad,hxv⟩:=hxv;have sy:RdT M w τ (a.eval y) cy:=sy
 have hu:(y00 es ik).uni:=by
  cases ik with
  | some k=>exact trivial
  | none=>intro r hr;cases hr
 have hc0:(y00 es ik).cnt=0:=by cases ik<;>rfl
 have hf0:(y00 es ik).flat=[]:=by cases ik<;>rfl
 obtain ⟨m,news,fy,⟨yad,ycap,hyv⟩,hnl,hnr,hnc,hu',hcnt',hesz',hesz,hflat',hb1,hb2⟩:=wdv hes wvz hu sy.bare;rw [hc0,Nat.zero_add] at hcnt' hb1 hb2;rw [hf0,List.nil_append] at hflat'
 have hm0:0<m:=by omega
 obtain ⟨old,h1,h2⟩:=xd0 (hag.nh (by simp) hn);have hn1:∀ u∈news,u.oneCell'=true:=hnr.oneL
 have hnc':news=[]\/∃ b off cap,Value.slice yad m ycap=.slice (some ⟨b,off,none⟩) m cap/\∀ j u,news[j]? = some u->w.drew.cell? ⟨b,off+j,none⟩=some u:=hnc.imp id fun ⟨b',off,cap',e',hh⟩=>⟨b',off,cap',by rw [<-hyv];exact e',fun j u hj=>(hh j u hj).2⟩
 have hfd:(Builtin.firstCells j.size m (.slice yad m ycap)).run P w.drew=.ok news.toArray w.drew:=waf w.drew m _ news ⟨_,_,rfl⟩ (by rw [hjs];exact hnl) hnc';have hfo:(Builtin.firstCells j.size 0 (.slice xad 0 0)).run P w.drew=.ok ([]:List Value).toArray w.drew:=waf w.drew 0 _ [] ⟨_,_,rfl⟩ (by simp) (.inl rfl);have hrun:=wtc (P:=P) hd0 hj hz' w o.type hfd hfo (by omega) (by rw [Nat.zero_add,hjb];exact hb1) (by rw [Nat.zero_add];exact hb2);rw [Nat.zero_add] at hrun;generalize hgc:grownCap w m 0 e=gc at hrun
 have hge:m<=gc:=by rw [<-hgc];exact grownCap_ge w m 0 e
 have hrunop:(execOp a.eval o).run P w=.ok (.value (.slice (some ⟨w.heap.size,0,none⟩) m gc)) (w.drew.alloc (.cells (([]++news).toArray++Builtin.zeroCells z'.cells (gc-m)) e)):=by
  have hrun':=hrun;simp only [List.nil_append] at hrun';simp [execOp,ho,resolve,invoke,builtin,hxv,hyv,hrun']
 have hbl:Below w.heap.size w (w.drew.alloc (.cells (([]++news).toArray++Builtin.zeroCells z'.cells (gc-m)) e)):=((Below.refl _ _).drew).alloc (Nat.le_refl _) _;have hheap':(w.drew.alloc (.cells (([]++news).toArray++Builtin.zeroCells z'.cells (gc-m)) e)).heap[w.heap.size]? = some (.cells (([]++news).toArray++Builtin.zeroCells z'.cells (gc-m)) e (0,0)):=xp1 w.drew _;unfold Oper.wp;rw [hrunop];show K (a.put o.dst _) _;rw [hdst];refine hK _ _ ⟨τ,_,hI.ylj hbl h1 h2 (.slice (some ⟨w.heap.size,0,none⟩) m gc) (.arr [] c' none) rfl rfl (Nat.le_refl _) (by simp [blk]) ?_ (fun t ht=>ht.elim)⟩;refine ⟨w.heap.size,e,news,(Builtin.zeroCells z'.cells (gc-m)).toList,gc,by rw [hcnt'];rfl,?_,?_,fun p hp=>(by cases hp),hu',by rw [hcnt'];exact hge,?_⟩
 . rw [hheap']
   congr 2
   apply Array.ext';simp
 . rw [hflat'];refine hnr.keep (fun b' o u hm hc=>?_);have hl:=World.block_lt_of_cell? w _ hc;exact ⟨fun hh=>hh.elim hm (fun hh=>by simp only [blk] at hh;simp only at hl;omega),(wf2.below hbl b' o u hm hc).2⟩
 . rw [hesz',hnl,Array.length_toList,size_zeroCells,hzs,<-Nat.add_mul];exact Nat.mul_le_mul_right _ (by omega)
def litB (P:Program) (I:List AV) (o:Oper) (x y:Operand) (T:TypeId):OR:=wgg P T fun ti=>vofA I o (orr x++orr y) (w6x I ti x y)
def opL (P : Program) (I : List AV) (o : Oper) : Option OR := match o.op with
 | .buildSlice T n ps=>match n != 0 with
  | true=>some (litA P I o T n ps.toList)
  | false=>none
 | .call c=>match c.callee with
  | .builtin .append=>match c.args.toList,c.argTypes.toList with
   | [x,y],[T,U]=>match zcAt (opd I x) with
    | true=>if T=U then some (litB P I o x y T) else none
    | false=>none
   | _,_=>none
  | _=>none
 | _=>none
def opA0 (P:Program) (I:List AV) (o:Oper):OR:=if isX I o.op=true then .of (opX P I o) else opB P I o
def selO:Option OR->OR->OR
 | some r,_=>r
 | none,r=>r
def opA (P:Program) (lt:Bool) (I:List AV) (o:Oper):OR:=match lt with
 | true=>selO (opL P I o) (opA0 P I o)
 | false=>opA0 P I o
theorem ymz {eff:List (Nat×AV)} (h:opA0 P I o=.eff rd tk eff):vni P o I rd tk eff/\(∀ t∈tk,∀ i,(gt I i).v7d t->i∈rd):=by
 unfold opA0 at h;split at h
 . unfold OR.of at h;split at h
   . rename_i rd' e hx
     cases h;exact ⟨zyl hx,fun t ht=>by cases ht⟩
   . cases h
 . exact zrl h
theorem ywk {args:List AV} (h:opA0 P I o=.call f args rd) (hc:y4n P f args res):vni P o I rd [] (xas o res):=by
 unfold opA0 at h;split at h
 . unfold OR.of at h;split at h<;>cases h
 . exact zqj h hc
theorem wog {args:List AV} (h:opA0 P I o=.fn (wxs P F) args rd) (hc:F args res):vni P o I rd [] (xas o res):=by
 unfold opA0 at h;split at h
 . unfold OR.of at h;split at h<;>cases h
 . exact vn8 h hc
theorem wx9 (h:opA0 P I o=.mk f caps rd) (wml:yss P f) (hF:∀ args res,F args res->y4n P f (args++caps) res) :
 vni P o I rd [] (xas o (.one (.fnp (wxs P F)))):=by
 unfold opA0 at h;split at h
 . unfold OR.of at h;split at h<;>cases h
 . exact wj7 h wml hF
theorem vmy {s:Nat} (h:opA0 P I o=.own f l j s ov rd) {new:OV} (hc:z5b P f l j ov new res)
 (hs:wai (gt I s) ov new=some nw) (hr:wcu s ov res=some res'):vni P o I rd [] ((s,nw)::xas o res'):=by
 unfold opA0 at h;split at h
 . unfold OR.of at h;split at h<;>cases h
 . exact vto h hc hs hr
theorem vwl {eff:List (Nat×AV)} (h:opL P I o=some (.eff rd tk eff)):vni P o I rd tk eff/\(∀ t∈tk,∀ i,(gt I i).v7d t->i∈rd):=by
 unfold opL at h;split at h
 . rename_i T n ps ho;split at h
   . simp only [Option.some.injEq] at h;exact yf8 (by rw [ho]) h
   . cases h
 . rename_i c ho;obtain ⟨callee,args,argTypes⟩:=c;simp only at h;split at h
   . split at h
     . rename_i x y T U ha ht;split at h
       . split at h
         . rename_i hTU;subst hTU;simp only [Option.some.injEq] at h
           have ea:args=#[x,y]:=by cases args;simp at ha;rw [ha]
           have et:argTypes=#[T,T]:=by cases argTypes;simp at ht;rw [ht]
           rw [ea,et] at ho;unfold litB at h;obtain ⟨ti,hti,hk⟩:=yo2 (by simp) h
           have:=zze (fun av ha r hr=>vxn ho hti ha hr) hk
           obtain ⟨h1,h2⟩:=this;exact ⟨h2,by rw [h1];intro t ht;cases ht⟩
         . cases h
       . cases h
     . cases h
   . cases h
 . cases h
def yrx (r:OR):Prop:=r=.bad\/∃ rd tk eff,r=.eff rd tk eff
theorem yhz {k:TI->OR} (h:∀ ti,yrx (k ti)):yrx (wgg P T k):=by
 unfold wgg;split
 . exact h _
 . exact .inl rfl
theorem vus {k:TI->OR} (h:∀ ti,yrx (k ti)):yrx (z4h P ti k):=by
 unfold z4h;split
 . exact yhz h
 . exact .inl rfl
theorem vpf {d:Nat} {se:List (Nat×AV)}:yrx (litE I d rd se b a):=by
 unfold litE;split
 . split
   . exact .inr ⟨_,_,_,rfl⟩
   . exact .inl rfl
 . exact .inl rfl
theorem xal:yrx (vofA I o rd a):=by
 unfold vofA;split
 . unfold OR.of;split
   . exact .inr ⟨_,_,_,rfl⟩
   . exact .inl rfl
 . exact .inl rfl
theorem wel {r:OR} (h:opL P I o=some r):yrx r:=by
 unfold opL at h;split at h
 . split at h
   . cases h;unfold litA;split
     . exact yhz (fun _=>vus (fun _=>vpf))
     . exact .inl rfl
   . cases h
 . split at h
   . split at h
     . split at h
       . split at h
         . cases h;exact yhz (fun _=>xal)
         . cases h
       . cases h
     . cases h
   . cases h
 . cases h
theorem zlv {lt:Bool} {eff:List (Nat×AV)} (h:opA P lt I o=.eff rd tk eff):vni P o I rd tk eff/\(∀ t∈tk,∀ i,(gt I i).v7d t->i∈rd):=by
 unfold opA at h;split at h
 . unfold selO at h;split at h
   . rename_i r hr;subst h;exact vwl (by assumption)
   . exact ymz h
 . exact ymz h
theorem vvl {lt:Bool} {r:OR} (h:opA P lt I o=r) (h1:r≠.bad) (h2:∀ rd tk e,r≠.eff rd tk e):opA0 P I o=r:=by
 unfold opA at h;split at h
 . unfold selO at h;split at h
   . subst h
     rcases wel (P:=P) (I:=I) (o:=o) (by assumption) with h3 | ⟨rd,tk,e,h3⟩
     . exact absurd h3 h1
     . exact absurd h3 (h2 _ _ _)
   . exact h
 . exact h
inductive GR where
 | plain
 | when (d:Nat) (c b:Bool)
 | skip (d:Nat)
 | bad
def vmw (ops:List Oper) (I:List AV) (o:Oper):GR:=match o.guard with
 | none=>.plain
 | some (j,b)=>match (ops[j]?).bind (·.dst) with
  | some d=>match gt I d with
   | .one (.raw (.bool c))=>.when d c b
   | .undef=>.skip d
   | _=>.bad
  | none=>.bad
def BadK (_o:Op) (_σ:List AV):Prop:=False
def BadC (_c:Operand) (_σ:List AV):Prop:=False
def y5t (P:Program) (f:FuncId) (args:List AV) (K:Bool->AV->Prop):Prop:=∃ res,y4n P f args res/\K true res
def FnK (P:Program) (p:(Nat->Nat->Prop)->World->Value->Prop) (args:List AV) (K:Bool->AV->Prop):Prop:=∃ F,p=wxs P F/\∃ res,F args res/\K true res
def MkK (P:Program) (f:FuncId) (caps:List AV) (K:Bool->(List AV->AV->Prop)->Prop):Prop:=∃ F,yss P f/\(∀ args res,F args res->y4n P f (args++caps) res)/\K true F
def OwnK (P:Program) (f:FuncId) (l:List AV) (j:Nat) (ov:OV) (k:Bool->OV->AV->Prop):Prop:=∃ new res,z5b P f l j ov new res/\k true new res
def ownF (o:Oper) (I:List AV) (s:Nat) (rd:List Nat) (k:Bool->List Nat->List Nat->List (Nat×AV)->Prop) (b:Bool) (nw res:Option AV):Prop:=match nw,res with
 | some nw,some r=>k b rd [] ((s,nw)::xas o r)
 | _,_=>BadK o.op I
def vdc (c b:Bool) (X Y:Bool->Prop):Prop:=(c=b->X true)/\(c=(!b)->Y true)
def ymv (c:Bool) (X Y:Bool->Prop):Prop:=(c=true->X true)/\(c=false->Y true)
def doF (P:Program) (x:OR) (o:Oper) (I:List AV) (b:Bool) (k:Bool->List Nat->List Nat->List (Nat×AV)->Prop):Prop:=match x with
 | .eff rd tk e=>k b rd tk e
 | .call f args rd=>y5t P f args (fun b res=>k b rd [] (xas o res))
 | .fn p args rd=>FnK P p args (fun b res=>k b rd [] (xas o res))
 | .mk f caps rd=>MkK P f caps (fun b F=>k b rd [] (xas o (.one (.fnp (wxs P F)))))
 | .own f l j s ov rd=>OwnK P f l j ov (fun b new res=>ownF o I s rd k b (wai (gt I s) ov new) (wcu s ov res))
 | .bad=>BadK o.op I
def xtk (I:List AV) (o:Oper) (d:Nat) (b:Bool) (k:Bool->List Nat->List Nat->List (Nat×AV)->Prop):Prop:=match o.dst with
 | some e=>if nh I e then k b [d,e] [] [(e,.undef)] else BadK o.op I
 | none=>BadK o.op I
def onD (d:Nat) (o:Oper) (I:List AV) (k:Bool->List Nat->List Nat->List (Nat×AV)->Prop) (b:Bool) (rd tk:List Nat) (e:List (Nat×AV)):Prop:=match tk with
 | []=>k b (d::rd) [] e
 | _=>BadK o.op I
def gdF (P:Program) (lt:Bool) (g:GR) (o:Oper) (I:List AV) (b:Bool) (k:Bool->List Nat->List Nat->List (Nat×AV)->Prop):Prop:=match g with
 | .plain=>doF P (opA P lt I o) o I b k
 | .when d c b'=>vdc c b' (fun b=>doF P (opA P lt I o) o I b (onD d o I k)) (fun b=>xtk I o d b k)
 | .skip d=>xtk I o d b k
 | .bad=>BadK o.op I
theorem von :
 (vmw ops.toList I o=.plain->o.guard=none)/\
 (∀ d c b,vmw ops.toList I o=.when d c b->∃ j,o.guard=some (j,b)/\(ops[j]?).bind (·.dst)=some d/\gt I d=.one (.raw (.bool c)))/\
 (∀ d,vmw ops.toList I o=.skip d->∃ j b,o.guard=some (j,b)/\(ops[j]?).bind (·.dst)=some d/\gt I d=.undef):=by
 unfold vmw
 split
 . rename_i hg;exact ⟨fun _=>hg,fun d c b h=>(by cases h),fun d h=>(by cases h)⟩
 . rename_i j b hg;simp only [Array.getElem?_toList]
   split
   . rename_i d hd
     split
     . rename_i c hc;exact ⟨fun h=>(by cases h),fun d' c' b' h=>by cases h;exact ⟨j,hg,hd,hc⟩,fun d h=>(by cases h)⟩
     . rename_i hc;exact ⟨fun h=>(by cases h),fun d' c' b' h=>(by cases h),fun d' h=>by cases h;exact ⟨j,b,hg,hd,hc⟩⟩
     . exact ⟨fun h=>(by cases h),fun d' c' b' h=>(by cases h),fun d h=>(by cases h)⟩
   . exact ⟨fun h=>(by cases h),fun d' c' b' h=>(by cases h),fun d h=>(by cases h)⟩
theorem zvq {lt:Bool} (h:doF P (opA P lt I o) o I b k) :
 ∃ b' rd tk e,vni P o I rd tk e/\(∀ t∈tk,∀ i,(gt I i).v7d t->i∈rd)/\k b' rd tk e:=by
 unfold doF at h;split at h
 . rename_i rd tk e he;exact ⟨_,_,_,_,(zlv he).1,(zlv he).2,h⟩
 . rename_i he;obtain ⟨res,h1,h2⟩:=h;exact ⟨_,_,_,_,ywk (vvl he (by simp) (by simp)) h1,by simp,h2⟩
 . rename_i he;obtain ⟨F,rfl,res,h1,h2⟩:=h;exact ⟨_,_,_,_,wog (vvl he (by simp) (by simp)) h1,by simp,h2⟩
 . rename_i he;obtain ⟨F,hc,hF,h2⟩:=h;exact ⟨_,_,_,_,wx9 (vvl he (by simp) (by simp)) hc hF,by simp,h2⟩
 . rename_i he;obtain ⟨new,res,h1,h2⟩:=h;unfold ownF at h2;split at h2
   . rename_i hs hr;exact ⟨_,_,_,_,vmy (vvl he (by simp) (by simp)) h1 hs hr,by simp,h2⟩
   . exact h2.elim
 . exact h.elim
theorem ze3 {d:Nat} (h:xtk I o d b k):∃ e,o.dst=some e/\nh I e=true/\k b [d,e] [] [(e,.undef)]:=by
 unfold xtk at h;split at h
 . rename_i e he;split at h
   . rename_i hn;exact ⟨e,he,hn,h⟩
   . exact h.elim
 . exact h.elim
theorem v0h {lt:Bool} (h:gdF P lt (vmw ops.toList I o) o I b k) :
 ∃ b' rd tk e,GStep P ops o I rd tk e/\k b' rd tk e:=by
 unfold gdF at h;split at h
 . rename_i hg;obtain ⟨b',rd,tk,e,h1,h2,h3⟩:=zvq h;exact ⟨b',rd,tk,e,GStep.plain (von.1 hg) h2 h1,h3⟩
 . rename_i d c b' hg;obtain ⟨j,h1,h2,h3⟩:=von.2.1 d c b' hg;obtain ⟨hx,hy⟩:=h;by_cases hcb:c=b'
   . subst hcb;obtain ⟨b'',rd,tk,e,ha,hb,hk⟩:=zvq (hx rfl);unfold onD at hk;split at hk
     . exact ⟨_,_,_,_,GStep.taken h1 h2 h3 ha,hk⟩
     . exact hk.elim
   . have hn:c = !b':=by cases c<;>cases b'<;>simp_all
     obtain ⟨e,he,hnh,hk⟩:=ze3 (hy hn);exact ⟨_,_,_,_,GStep.vyy h1 h2 (.inl (by rw [h3,hn])) he hnh,hk⟩
 . rename_i d hg;obtain ⟨j,b',h1,h2,h3⟩:=von.2.2 d hg;obtain ⟨e,he,hnh,hk⟩:=ze3 h;exact ⟨_,_,_,_,GStep.vyy h1 h2 (.inr h3) he hnh,hk⟩
 . exact h.elim
def RunF (P:Program) (lt:Bool) (ops:List Oper):Bool->List Oper->List AV->(Bool->List AV->Prop)->Prop
 | b,[],I,K=>K b I
 | b,o::r,I,K=>gdF P lt (vmw ops I o) o I b (fun b _ _ e=>RunF P lt ops b r (app e I) K)
theorem RunF.run {lt:Bool} {ops:Array Oper}:∀(l:List Oper) (b:Bool) (I:List AV) (K:Bool->List AV->Prop),RunF P lt ops.toList b l I K->Run P ops l I (fun I=>∃ b,K b I)
 | [],b,_,_,h=>⟨b,h⟩
 | o::r,b,I,K,h=>by
  unfold RunF at h;obtain ⟨b',rd,tk,e,h1,h2⟩:=v0h h;exact ⟨_,_,_,h1,RunF.run r b' _ K h2⟩
def IndK (ops:List Oper) (acc:List SR) (σ0:List AV) (k:Bool->Prop):Prop:=indep ops acc σ0=true/\k true
def RunG (P:Program) (lt:Bool) (ops:List Oper) (σ0:List AV):Bool->List Oper->List SR->List AV->(Bool->List AV->Prop)->Prop
 | _,[],acc,I,K=>IndK ops acc σ0 (fun b=>K b I)
 | b,o::r,acc,I,K=>gdF P lt (vmw ops I o) o I b (fun b rd tk e=>RunG P lt ops σ0 b r (acc++[⟨rd,tk,e⟩]) (app e I) K)
theorem RunG.runD {lt:Bool} {ops:Array Oper} {σ0:List AV}:∀(l:List Oper) (b:Bool) (acc:List SR) (I:List AV) (K:Bool->List AV->Prop),RunG P lt ops.toList σ0 b l acc I K->RunD P ops ops.toList σ0 l acc I (fun I=>∃ b,K b I)
 | [],b,_,_,_,h=>⟨h.1,true,h.2⟩
 | o::r,b,acc,I,K,h=>by
  unfold RunG at h;obtain ⟨b',rd,tk,e,h1,h2⟩:=v0h h;exact ⟨_,_,_,h1,RunG.runD r b' _ _ K h2⟩
def ycn (next:Bool->List AV->Prop) (Q:Exit->Bool->List AV->Prop):Exit->Bool->List AV->Prop
 | .normal=>next
 | .exit id=>Q (.exit id)
 | .goto l=>Q (.goto l)
 | .ret=>Q .ret
 | .panic c=>Q (.panic c)
 | .outgrown=>Q .outgrown
def vtx (id:Nat) (Q:Exit->Bool->List AV->Prop):Exit->Bool->List AV->Prop
 | .normal=>Q .normal
 | .exit j=>if j=id then Q .normal else Q (.exit j)
 | .goto l=>Q (.goto l)
 | .ret=>Q .ret
 | .panic c=>Q (.panic c)
 | .outgrown=>Q .outgrown
def outQ (Q:Exit->Bool->List AV->Prop):Exit->List AV->Prop:=fun e I=>∃ b,Q e b I
def wfy (P:Program) (_G:List (Nat×List Gh)) (c:Code) (Q:Exit->Bool->List AV->Prop) (I:List AV):Prop:=zus P (.loop c) (outQ Q) I
def ysi (P:Program) (k:Bool->Prop):Prop:=P.follows .mixedOrders=true/\k true
def wth (_:Program) (c:Operand) (I:List AV) (X Y:Bool->Prop):AV->Prop
 | .one (.raw (.bool p))=>ymv p X Y
 | _=>BadC c I
def ghOf:List (Nat×List Gh)->Nat->List Gh
 | [],_=>[]
 | (i,l)::r,j=>if i=j then l else ghOf r j
def yeg:Code->Option Nat
 | .region id _ _=>some id
 | .seq x _=>yeg x
 | .block _ x=>yeg x
 | .loop x=>yeg x
 | _=>none
def x5i:List Gh->Bool
 | []=>false
 | .join::_=>true
 | .frz _::r=>x5i r
 | .any _::r=>x5i r
 | .mv _ _::r=>x5i r
 | .lit::r=>x5i r
def ya9:List Gh->Bool
 | []=>false
 | .lit::_=>true
 | .frz _::r=>ya9 r
 | .any _::r=>ya9 r
 | .mv _ _::r=>ya9 r
 | .join::r=>ya9 r
def z7d:List (Nat×List Gh)->Code->Bool
 | [],_=>false
 | g::G,y=>match yeg y with
  | some id=>x5i (ghOf (g::G) id)
  | none=>false
def xks (P:Program) (_G:List (Nat×List Gh)) (x y:Code) (Q:Exit->Bool->List AV->Prop) (I:List AV):Prop:=zus P (.seq x y) (outQ Q) I
def seqF (c:Bool) (A B:Bool->Prop):Prop:=match c with
 | true=>A true
 | false=>B true
def RC (P:Program) (G:List (Nat×List Gh)):Code->Bool->(Exit->Bool->List AV->Prop)->List AV->Prop
 | .skip,b,Q,I=>Q .normal b I
 | .region id ops false,b,Q,I=>RunF P (ya9 (ghOf G id)) ops.toList b ops.toList (ghL (ghOf G id) I) (Q .normal)
 | .region id ops true,b,Q,I=>ysi P (fun _=>RunG P (ya9 (ghOf G id)) ops.toList (ghL (ghOf G id) I) b ops.toList [] (ghL (ghOf G id) I) (Q .normal))
 | .seq x y,b,Q,I=>seqF (z7d G y) (fun _=>xks P G x y Q I) (fun _=>RC P G x b (ycn (fun b I=>RC P G y b Q I) Q) I)
 | .cond c x y,_,Q,I=>wth P c I (fun b=>RC P G x b Q I) (fun b=>RC P G y b Q I) (opd I c)
 | .block id x,b,Q,I=>RC P G x b (vtx id Q) I
 | .loop x,_,Q,I=>wfy P G x Q I
 | .exit id,b,Q,I=>Q (.exit id) b I
 | .ret,b,Q,I=>Q .ret b I
 | _,_,_,_=>False
end Go.Slot
