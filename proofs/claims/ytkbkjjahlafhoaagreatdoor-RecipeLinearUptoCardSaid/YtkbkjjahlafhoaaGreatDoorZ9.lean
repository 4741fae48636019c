/- The proof, part Z9: Hm, Hn, Ho. -/
import Derived.Test.YtkbkjjahlafhoaaGreatDoorZ8
namespace Go.Hp
open Go Go.RowKit Go.Slot
variable {P:Program} {Γ:List (Nat×List Cell)}
def yq9 (off:Nat) (tf:TI):SV->Option SV
 | .agg hs=>w6z tf (hs.drop off)
 | _=>none
theorem vxa {T:TypeId} {tf:TI} (hok:TIok P T tf) {η:List SB} {ρ:Nat->Value} {M:Nat->Nat->Prop} {w:World} {vs:List Value} {hs:List HC} (hr:HRL η ρ M w vs hs) {off:Nat} {x:SV} (h:w6z tf (hs.drop off)=some x) :
 ∃ v,(part T vs.toArray off).run P w=.ok v w/\SVR η ρ M w v x:=by
 obtain ⟨_,j,_,_,hj,_,hjs,_,_,_,_,_⟩:=hok.ex;have hr':=hr.drop off;unfold w6z at h;split at h
 . rename_i hm;split at h
   . rename_i hle
     cases h;refine ⟨.agg ((vs.drop off).take tf.size).toArray,?_,_,rfl,hr'.take _⟩;simp [part,hok.vgd hm,zxp hj,hjs,List.extract_eq_take_drop]
   . cases h
 . rename_i hm;split at h
   . rename_i c cs' hcs
     cases h;rw [hcs] at hr'
     cases hv:vs.drop off with
     | nil=>rw [hv] at hr';exact hr'.elim
     | cons v0 vs'=>
      rw [hv] at hr'
      have hg:vs[off]? = some v0:=by
       have:=congrArg (fun l=>l[0]?) hv
       simpa using this
      exact ⟨v0,by simp [part,hok.vgd hm,hg],hr'.1⟩
   . cases h
 . cases h
theorem v8y {o:Oper} {J:List SV} {η:List SB} {T ft:TypeId} {x:Operand} {f d off sz:Nat} {fs:List (Nat×Nat×TypeId)} (ho:o.op=.field T x f) (hdst:o.dst=some d) {ti tf:TI} (hti:mkTI P T=some ti) (hs:ti.sh=.struct fs) (hf:fs[f]? = some (off,sz,ft)) (htf:mkTI P ft=some tf)
 {v:SV} (h:yq9 off tf (opdS Γ J x)=some v):wpk Γ P o J η (d::orr x) [] [(d,v)] []:=by
 refine wpk.pure hdst (fun E ρ J' η' a w hag hah hI=>?_);have hx:=hI.opd x;rw [hag.opd (fun t ht=>by simp [ht])] at hx;obtain ⟨dd,i,z,hd,hi',hz,_,_,_,_,_,hsh⟩:=(vq6 hti).ex;obtain ⟨fl,rfl,rfl,_⟩:=yja (hsh.symm.trans hs);rw [List.getElem?_map] at hf;obtain ⟨fd,hfd,hfe⟩:=Option.map_eq_some_iff.1 hf
 cases hfe
 have hfa:fl[f]? = some fd:=by simpa using hfd
 unfold yq9 at h;split at h
 . rename_i hs' e;rw [e] at hx;obtain ⟨vs,hv,hr⟩:=hx;obtain ⟨u,h1,h2⟩:=vxa (vq6 htf) hr h;exact ⟨u,by simp [execOp,ho,Instr.field,asAgg,hv,zp8 hd,hfa,h1],h2⟩
 . cases h
theorem xlr {o:Oper} {J:List SV} {η:List SB} {T e:TypeId} {x y:Operand} {d n es:Nat} {k:IntKind} {ix:Int} (ho:o.op=.index T x y) (hdst:o.dst=some d) {ti te:TI} (hti:mkTI P T=some ti) (hs:ti.sh=.array n e es) (hte:mkTI P e=some te)
 (hy:opdS Γ J y=.one (.dat (.raw (.int k ix)))) (h0:0<=ix/\ix<n) (hes:es=te.size) {v:SV} (h:yq9 (ix.toNat*es) te (opdS Γ J x)=some v):wpk Γ P o J η (d::(orr x++orr y)) [] [(d,v)] []:=by
 refine wpk.pure hdst (fun E ρ J' η' a w hag hah hI=>?_);have hx:=hI.opd x;have hyr:=hI.opd y;rw [hag.opd (fun t ht=>by simp [ht])] at hx hyr;rw [hy] at hyr;have ey:a.eval y=.int k ix:=RdC.xbx hyr;obtain ⟨dd,i,z,hd,hi',hz,_,_,_,_,_,hsh⟩:=(vq6 hti).ex;obtain ⟨rfl,_⟩:=v8s (hsh.symm.trans hs);have hok:=vq6 hte;obtain ⟨_,j,_,_,hj,_,hjs,_,_,_,_,_⟩:=hok.ex;unfold yq9 at h;split at h
 . rename_i hs' ex;rw [ex] at hx;obtain ⟨vs,hv,hr⟩:=hx;obtain ⟨u,h1,h2⟩:=vxa hok hr h;exact ⟨u,by simp [execOp,ho,Instr.index,asIntOf,hv,ey,zp8 hd,h0.1,h0.2,zxp hj,hjs,<-hes,h1],h2⟩
 . cases h
inductive HO where
 | eff (rd rh:List Nat) (eff:List (Nat×SV)) (heff:List (Nat×SB)) (new:Option SB)
 | callD (f:FuncId) (l:List AV) (rd rh bs:List Nat)
 | callF (p:(Nat->Nat->Prop)->World->Value->Prop) (l:List AV) (rd bs:List Nat)
 | callH (f:FuncId) (l:List SV) (rd:List Nat)
 | mk (f:FuncId) (caps:List AV) (rd bs:List Nat)
 | look (r:Option SV) (zero:SV) (ok:Bool) (rd rh:List Nat)
 | bad
def wx2 (P:Program) (t:TypeId) (k:TI->HO):HO:=match mkTI P t with
 | some ti=>k ti
 | none=>.bad
def vO (o:Oper) (rd rh:List Nat):Option SV->HO
 | some x=>match o.dst with
  | some d=>.eff (d::rd) rh [(d,x)] [] none
  | none=>.bad
 | none=>.bad
def nO (o:Oper) (rd rh:List Nat) (x:SV) (heff:List (Nat×SB)) (b:SB):HO:=match o.dst with
 | some d=>.eff (d::rd) rh [(d,x)] heff (some b)
 | none=>.bad
def isNil {α:Type}:List α->Bool
 | []=>true
 | _=>false
def oldR (d nb:Nat):OR->HO
 | .eff rd tk [(d',av)]=>if isNil tk&&d'==d then match av2 nb av with
  | some (x,ob)=>.eff rd [] [(d,x)] [] ob
  | none=>.bad
  else .bad
 | _=>.bad
def oldO (P:Program) (J:List SV) (nb:Nat) (o:Oper):HO:=match o.dst with
 | some d=>if v8h o.op=true/\d<J.length then oldR d nb (opN P (J.map vw) o) else .bad
 | none=>.bad
def vmh:SV->SV->Option SV
 | .one (.dat (.raw (.string s))),.one (.dat (.raw (.int _ i)))=>if 0<=i/\i<s.size then some (.one (.dat (.raw (.int .u8 (zk7 s i.toNat))))) else none
 | _,_=>none
def intS:SV->Option Int
 | .one (.dat (.raw (.int _ i)))=>some i
 | _=>none
inductive CK where
 | agg
 | ptr
 | other
def ckH:SV->SV->CK
 | .agg _,_=>.agg
 | .one (.ptr _ _),_=>.ptr
 | .one (.pel _ _ _ _),_=>.ptr
 | .elt _,_=>.ptr
 | .one (.dat (.raw (.pointer _))),_=>.ptr
 | _,_=>.other
def wyv:SV->Bool
 | .one (.sl _ _ _ _)=>true
 | _=>false
def y43:SV->Bool
 | .one (.sl _ _ _ _)=>true
 | .one (.mp _)=>true
 | _=>false
def xtl (_o:Oper) (ok:Bool) (rd rh:List Nat):Option (Option SV)->Option SV->HO
 | some r,some z=>.look r z ok rd rh
 | _,_=>.bad
def opP (P:Program) (Γ:List (Nat×List Cell)) (J:List SV) (η:List SB) (nb:Nat) (o:Oper):HO:=
 match o.op with
 | .move x=>vO o (orr x) [] (some (opdS Γ J x))
 | .assign x=>vO o (orr x) [] (some (opdS Γ J x))
 | .pick c x y=>match v06 (opdS Γ J c) (opdS Γ J x) (opdS Γ J y) with
  | some v=>vO o (orr c++orr x++orr y) [] (some v)
  | none=>oldO P J nb o
 | .load T x=>wx2 P T fun ti=>match seeH η (opdS Γ J x) with
  | some (rh,hs)=>vO o (orr x) rh (w6z ti hs)
  | none=>.bad
 | .store T x y=>match o.dst with
  | none=>wx2 P T fun ti=>match yg2 (opdS Γ J y) with
   | some us=>if us.length=ti.size then match yoy η ti.size (opdS Γ J x) us with
    | some (b,z)=>.eff (orr x++orr y) [b] [] [(b,z)] none
    | none=>.bad
    else .bad
   | none=>.bad
  | some _=>.bad
 | .fieldAddr S x f=>wx2 P S fun ti=>match ti.sh with
  | .struct fs=>match fs[f]? with
   | some (off,_,_)=>vO o (orr x) [] (z1z (opdS Γ J x) off)
   | none=>.bad
  | _=>.bad
 | .indexAddr T x y=>wx2 P T fun ti=>match v50 ti.sh (opdS Γ J x) (opdS Γ J y) with
  | some v=>vO o (orr x++orr y) [] (some v)
  | none=>oldO P J nb o
 | .extract x n=>vO o (orr x) [] (vj0 (opdS Γ J x) n)
 | .nilCheck x=>if ptrH (opdS Γ J x)=true then vO o (orr x) [] (some (opdS Γ J x)) else .bad
 | .binOp op T x y _=>match ckH (opdS Γ J x) (opdS Γ J y) with
  | .agg=>vO o (orr x++orr y) [] (w8b P T op (opdS Γ J x) (opdS Γ J y))
  | .ptr=>match xdh P T with
   | some t=>match P.info? t with
    | some _=>vO o (orr x++orr y) [] (yzr op (opdS Γ J x) (opdS Γ J y))
    | none=>.bad
   | none=>.bad
  | .other=>oldO P J nb o
 | .unOp _ _ _=>oldO P J nb o
 | .makeSlice _ _ _=>oldO P J nb o
 | .slice T x lo hi mx=>match wyv (opdS Γ J x) with
  | true=>match mx with
   | none=>wx2 P T fun ti=>vO o (orr x++orrO lo++orrO hi) [] (x84 Γ J ti.sh (opdS Γ J x) lo hi)
   | some _=>.bad
  | false=>oldO P J nb o
 | .build T ps=>wx2 P T fun ti=>if xm7 ti=true/\ti.sh.agg=true then vO o (orrs ps.toList) [] ((wlk (placeOf ti.sh) (ti.zc.map .dat) (wdh Γ J ps.toList)).map .agg) else .bad
 | .field T x f=>wx2 P T fun ti=>match ti.sh with
  | .struct fs=>match fs[f]? with
   | some (off,_,ft)=>wx2 P ft fun tf=>vO o (orr x) [] (yq9 off tf (opdS Γ J x))
   | none=>.bad
  | _=>.bad
 | .index T x y=>wx2 P T fun ti=>match ti.sh with
  | .array n e es=>wx2 P e fun te=>match intS (opdS Γ J y) with
   | some ix=>if (0<=ix/\ix<n)/\es=te.size then vO o (orr x++orr y) [] (yq9 (ix.toNat*es) te (opdS Γ J x)) else .bad
   | none=>.bad
  | .string=>vO o (orr x++orr y) [] (vmh (opdS Γ J x) (opdS Γ J y))
  | _=>.bad
 | .lookup T x y ok=>wx2 P T fun ti=>match ti.sh with
  | .map kt et=>wx2 P kt fun tk=>match xe2 η (opdS Γ J x),keyX (opdS Γ J y) with
   | some (b,es),some k=>if z6i P kt tk.sh k=true then xtl o ok (vpg o++(orr x++orr y)) [b] (xpi es k) (vaz P et) else .bad
   | _,_=>.bad
  | _=>.bad
 | .mapUpdate T x y z=>match o.dst with
  | none=>wx2 P T fun ti=>match ti.sh with
   | .map kt _=>wx2 P kt fun tk=>match xe2 η (opdS Γ J x),keyX (opdS Γ J y) with
    | some (b,es),some k=>if z6i P kt tk.sh k=true/\xnf (opdS Γ J z)=true then match updM es k (opdS Γ J z) with
     | some es'=>.eff (orr x++orr y++orr z) [b] [] [(b,.map es')] none
     | none=>.bad
     else .bad
    | _,_=>.bad
   | _=>.bad
  | some _=>.bad
 | _=>.bad
def y44 (P:Program) (Γ:List (Nat×List Cell)) (J:List SV) (η:List SB) (nb:Nat) (o:Oper) (S D:TypeId) (x:Operand):HO:=match P.underlying S,P.underlying D with
 | some (.slice e),some .string=>match P.underlying e with
  | some (.int .u8)=>match y6m η (opdS Γ J x) with
   | some (l,bs)=>match o.dst with
    | some d=>.eff (d::orr x) bs [(d,.one (.dat (.raw (.string (strOfNums l)))))] (frzE η bs) none
    | none=>.bad
   | none=>.bad
  | _=>.bad
 | some (.pointer t),some .unsafePointer=>match P.info? t,ylg η (opdS Γ J x) with
  | some j,some (b,off,_,_)=>if j.size != 0 then vO o (orr x) [b] (some (.one (.ptr b off))) else .bad
  | _,_=>.bad
 | some .unsafePointer,some (.pointer u)=>match P.info? u,ylg η (opdS Γ J x) with
  | some _,some (b,off,T,n)=>if liesAt P P.depth T (n / P.cellsOf T) off u 1 then vO o (orr x) [b] (some (.one (.ptr b off))) else .bad
  | _,_=>.bad
 | _,_=>oldO P J nb o
def zt5:Bool->Bool->Bool
 | false,false=>true
 | _,_=>false
def zxr (own:Bool) (η:List SB) (l:List SV):Option (List AV×List Nat):=match own with
 | true=>none
 | false=>wrt η l
theorem vf6 {own:Bool} {η:List SB} {l:List SV} {r:List AV×List Nat} (h:zxr own η l=some r):wrt η l=some r:=by
 cases own with
 | true=>cases h
 | false=>exact h
def z2m (P:Program) (Γ:List (Nat×List Cell)) (own:Bool) (J:List SV) (η:List SB) (o:Oper) (x:Operand) (xs:List Operand):HO:=match x with
 | .func f=>if wn7 P f=true then match xs with
  | [y]=>vO o (orr y) [] (some (opdS Γ J y))
  | _=>.bad
  else callG f [] [] []
 | .tmp t=>match gtS J t with
  | .one (.dat (.fnp p))=>match wrt η (ypm Γ J xs) with
   | some (l,bs)=>.callF p l (vpg o++t::orrL xs) bs
   | none=>.bad
  | _=>match xln Γ J η (.tmp t) with
   | some (f,caps,rd,rh)=>callG f caps rd rh
   | none=>.bad
 | _=>.bad
where callG (f:FuncId) (caps:List SV) (rd rh:List Nat):HO:=match zxr own η (ypm Γ J xs++caps) with
 | some (l,bs)=>.callD f l (vpg o++rd++orrL xs) rh bs
 | none=>match zji (ypm Γ J xs) with
  | true=>.callH f (ypm Γ J xs++caps) (vpg o++rd++orrL xs)
  | false=>.bad
def opH (P:Program) (Γ:List (Nat×List Cell)) (lit fn:Bool) (J:List SV) (η:List SB) (nb:Nat) (o:Oper):HO:=
 match o.op with
 | .alloc T=>wx2 P T fun ti=>nO o [] [] (.one (.ptr nb 0)) [] (.box (ti.zc.map .dat) (some T))
 | .box T x=>match yg2 (opdS Γ J x) with
  | some hs=>nO o (orr x) [] (.one (.ptr nb 0)) [] (.box hs (some T))
  | none=>.bad
 | .buildSlice T n ps=>match n with
  | 0=>oldO P J nb o
  | n + 1 => wx2 P T fun ti => match ti.sh with
   | .slice e es _ ik=>wx2 P e fun te=>match litH Γ J η es ik te.zc (n+1) ps.toList with
    | some (c,bs)=>match lit with
     | true=>match o.dst with
      | some d=>.eff (d::orrs ps.toList) bs [(d,.one (.dat c))] (frzE η bs) none
      | none=>.bad
     | false=>nO o (orrs ps.toList) bs (.one (.sl nb es 0 (n+1))) (frzE η bs) (.arr c 0 (some e))
    | none=>.bad
   | _=>.bad
 | .makeMap _ none=>nO o [] [] (.one (.mp nb)) [] (.map [])
 | .makeFunc (.func f) fs cs=>match fs.toList with
  | []=>match fn with
   | true=>match wrt η (ypm Γ J cs.toList),o.dst with
    | some (l,bs),some d=>.mk f l (d::orrL cs.toList) bs
    | _,_=>.bad
   | false=>match zji (ypm Γ J cs.toList) with
    | true=>nO o (orrL cs.toList) [] (.one (.fnr nb)) [] (.clo f (ypm Γ J cs.toList))
    | false=>.bad
  | _=>.bad
 | .convert S D x=>y44 P Γ J η nb o S D x
 | .call c => match c.callee with
  | .value x=>z2m P Γ (zt5 lit fn) J η o x c.args.toList
  | .builtin b=>match b with
   | .len=>match c.args.toList,c.argTypes.toList with
    | [x],[T]=>match y43 (opdS Γ J x) with
     | true=>wx2 P T fun ti=>match lenH η ti.sh (opdS Γ J x) with
      | some (rh,n)=>vO o (orr x) rh (some (.one (.dat (.raw (.int .i64 (n:Int))))))
      | none=>.bad
     | false=>oldO P J nb o
    | _,_=>.bad
   | .append=>match c.args.toList,c.argTypes.toList with
    | [x,y],[T,U]=>if T=U then wx2 P T fun ti=>match ti.sh with
     | .slice e es eb ik=>appO (opdS Γ J x) (opdS Γ J y) (orr x++orr y) e es eb ik
     | _=>.bad
     else .bad
    | _,_=>.bad
   | .unsafeSliceData=>match c.args.toList with
    | [x]=>vO o (orr x) [] (usdH (opdS Γ J x))
    | _=>.bad
   | .unsafeString=>match c.args.toList,c.argTypes.toList,o.dst with
    | [x,y],[pt,_],some d=>match usH P η pt (opdS Γ J x) (opdS Γ J y) with
     | some (b,l)=>.eff (d::(orr x++orr y)) [b] [(d,.one (.dat (.raw (.string (strOfNums l)))))] [(b,.dead)] none
     | none=>.bad
    | _,_,_=>.bad
   | .max=>oldO P J nb o
   | .min=>oldO P J nb o
   | _=>.bad
  | _=>.bad
 | _=>opP P Γ J η nb o
where appO (x y:SV) (rd:List Nat) (e:TypeId) (es eb:Nat) (ik:Option IntKind):HO:=match dstH η e es ik x,srcH η y with
 | some (ob,c,k,T),some (cy,bs)=>match yk2 es eb ik c cy with
  | some c'=>if bs.all (fun i=>ob != some i) then nO o rd (ob.toList++bs) (.one (.sl nb es 0 c'.cnt)) (frzE η bs++wo9 ob) (.arr c' k (appT T e)) else .bad
  | none=>.bad
 | _,_=>.bad
theorem y9c {η l:List SB} {b:Nat} (h:b<η.length):gB (η++l) b=gB η b:=by
 unfold gB;rw [List.getElem?_append_left h]
theorem w2w {η:List SB} {b:Nat} (h:w9u (gB η b)=true):b<η.length:=by
 rcases Nat.lt_or_ge b η.length with h1 | h1
 . exact h1
 . unfold gB at h;rw [List.getElem?_eq_none h1] at h;cases h
theorem x86:∀(heff:List (Nat×SB)) (η:List SB) (x:SB),(∀ p∈heff,p.1<η.length)->appL (heff++[(η.length,x)]) (η++[.fresh])=appL heff η++[x]
 | [],η,x,_=>by simp [appL]
 | (i,y)::r,η,x,h=>by
  have hi:i<η.length:=h (i,y) (by simp);simp only [List.cons_append,appL];rw [List.set_append_left _ _ hi]
  have:=x86 r (η.set i y) x (fun p hp=>by rw [List.length_set];exact h p (by simp [hp]))
  rw [List.length_set] at this;exact this
theorem ydh (η:List SB):wo7 (η++[.fresh]) η.length=true:=by simp [wo7]
theorem zik.new {o:Oper} {J:List SV} {η:List SB} {rd rh:List Nat} {eff:List (Nat×SV)} {heff:List (Nat×SB)} {x:SB} (h:wpk Γ P o J (η++[.fresh]) rd rh eff (heff++[(η.length,x)])) (hl:∀ p∈heff,p.1<η.length) :
 zik Γ P o J η (appL eff J) (appL heff η++[x]):=by
 have:=h.px
 rw [x86 heff η x hl] at this;exact this
def Sound (Γ:List (Nat×List Cell)) (P:Program) (o:Oper) (J:List SV) (η:List SB) (nb:Nat) (rd rh:List Nat) (eff:List (Nat×SV)) (heff:List (Nat×SB)):Option SB->Prop
 | none=>wpk Γ P o J η rd rh eff heff
 | some x=>(wo7 η nb=true->wpk Γ P o J η rd (nb::rh) eff (heff++[(nb,x)]))/\(nb=η.length->zik Γ P o J η (appL eff J) (appL heff η++[x]))
def zmx (Γ:List (Nat×List Cell)) (P:Program) (o:Oper) (J:List SV) (η:List SB) (nb:Nat):HO->Prop
 | .eff rd rh eff heff new=>Sound Γ P o J η nb rd rh eff heff new
 | _=>True
theorem xi7 {o:Oper} {J:List SV} {η:List SB} {nb:Nat} {t:TypeId} {k:TI->HO} (h:∀ ti,mkTI P t=some ti->zmx Γ P o J η nb (k ti)):zmx Γ P o J η nb (wx2 P t k):=by
 unfold wx2
 split
 . rename_i ti hti;exact h ti hti
 . trivial
theorem ytt {o:Oper} {J:List SV} {η:List SB} {nb:Nat} {rd rh:List Nat} {x:Option SV} (h:∀ v d,x=some v->o.dst=some d->wpk Γ P o J η (d::rd) rh [(d,v)] []):zmx Γ P o J η nb (vO o rd rh x):=by
 unfold vO
 split
 . split
   . rename_i d hd;exact h _ d rfl hd
   . trivial
 . trivial
theorem wxw {o:Oper} {J:List SV} {η:List SB} {nb:Nat} {rd rh:List Nat} {x:SV} {heff:List (Nat×SB)} {b:SB} (h:∀ d η',o.dst=some d->(η'=η\/η'=η++[.fresh])->wo7 η' nb=true->wpk Γ P o J η' (d::rd) (nb::rh) [(d,x)] (heff++[(nb,b)]))
 (hl:∀ p∈heff,p.1<η.length):zmx Γ P o J η nb (nO o rd rh x heff b):=by
 unfold nO
 split
 . rename_i d hd;refine ⟨fun hr=>h d η hd (.inl rfl) hr,fun e=>?_⟩;subst e;exact zik.new (h d (η++[.fresh]) hd (.inr rfl) (ydh η)) hl
 . trivial
theorem zwx {α:Type} {l:List α} (h:isNil l=true):l=[]:=by cases l<;>first | rfl | cases h
theorem vnr {o:Oper} {J:List SV} {η:List SB} {nb:Nat}:zmx Γ P o J η nb (oldO P J nb o):=by
 unfold oldO
 split
 case h_2=>trivial
 rename_i d hd
 split
 case isFalse=>trivial
 rename_i hc;unfold oldR
 split
 case h_2=>trivial
 rename_i rd tk d' av heq
 split
 case isFalse=>trivial
 rename_i hcc;simp only [Bool.and_eq_true,beq_iff_eq] at hcc;obtain ⟨htk,rfl⟩:=hcc;have htk:=zwx htk;subst htk
 split
 case h_2=>trivial
 rename_i x ob h2;have hst:=(v5q heq).2
 cases ob with
 | none=>exact yf4 hc.1 hd hst hc.2 h2 rfl
 | some b=>
  refine ⟨fun hr=>yf4 hc.1 hd hst hc.2 h2 hr,fun e=>?_⟩;subst e
  have:=yf4 (Γ:=Γ) (η:=η++[.fresh]) (nb:=η.length) hc.1 hd hst hc.2 h2 (show zm6 (η++[.fresh]) η.length (some b)=true from ydh η)
  exact zik.new (heff:=[]) this (by simp)
theorem v4e {o:Oper} {J:List SV} {η:List SB} {T:TypeId} {x y:Operand} {d:Nat} (ho:o.op=.index T x y) (hdst:o.dst=some d) {ti:TI} (hti:mkTI P T=some ti) (hs:ti.sh=.string) {v:SV} (h:vmh (opdS Γ J x) (opdS Γ J y)=some v) :
 wpk Γ P o J η (d::(orr x++orr y)) [] [(d,v)] []:=by
 refine wpk.pure hdst (fun E ρ J' η' a w hag hah hI=>?_);have hx:=hI.opd x;have hy:=hI.opd y;rw [hag.opd (fun t ht=>by simp [ht])] at hx hy;obtain ⟨dd,i,z,hd,_,_,_,_,_,_,_,hsh⟩:=(vq6 hti).ex;have hT:=zur (hsh.symm.trans hs);subst hT;unfold vmh at h;split at h
 . rename_i s k ix ex ey;split at h
   . rename_i hi
     cases h;rw [ex] at hx;rw [ey] at hy;have ex:a.eval x=.string s:=RdC.xbx hx;have ey:a.eval y=.int k ix:=RdC.xbx hy;refine ⟨_,?_,RdC.raw rfl⟩
     have hsz:ix.toNat<s.size:=by omega
     have hg:s[ix.toNat]? = some s[ix.toNat]:=by simp [hsz]
     have hb:zk7 s ix.toNat=(s[ix.toNat]).toNat:=by
      unfold zk7
      have:s.data[ix.toNat]? = some s[ix.toNat]:=by
       rw [Array.getElem?_eq_getElem (by simpa using hsz)];rfl
      rw [this];rfl
     rw [hb];simp [execOp,ho,Instr.index,asIntOf,ex,ey,zp8 hd,hi.1,hg]
   . cases h
 . cases h
theorem vro {x:SV} {i:Int} (h:intS x=some i):∃ k,x=.one (.dat (.raw (.int k i))):=by
 unfold intS at h;split at h
 . cases h;exact ⟨_,rfl⟩
 . cases h
theorem vrh {o:Oper} {J:List SV} {η:List SB} {nb:Nat}:zmx Γ P o J η nb (opP P Γ J η nb o):=by
 unfold opP
 split
 . rename_i x ho;exact ytt (fun v d e hd=>by cases e;exact w7k (.inl ho) hd)
 . rename_i x ho;exact ytt (fun v d e hd=>by cases e;exact w7k (.inr ho) hd)
 . rename_i c x y ho
   split
   . rename_i v hv;exact ytt (fun v' d e hd=>by cases e;exact zfs ho hd hv)
   . exact vnr
 . rename_i T x ho;refine xi7 (fun ti hti=>?_)
   split
   . rename_i rh hs hsee;exact ytt (fun v d e hd=>v2s ho hd hti hsee e)
   . trivial
 . rename_i T x y ho
   split
   . rename_i hd;refine xi7 (fun ti hti=>?_)
     split
     . rename_i us hu
       split
       . rename_i hl
         split
         . rename_i b z hst;exact za4 ho hd hti hu hl hst
         . trivial
       . trivial
     . trivial
   . trivial
 . rename_i S x f ho;refine xi7 (fun ti hti=>?_)
   split
   . rename_i fs hs
     split
     . rename_i off sz ft hf;exact ytt (fun v d e hd=>xq6 ho hd hti hs hf e)
     . trivial
   . trivial
 . rename_i T x y ho;refine xi7 (fun ti hti=>?_)
   split
   . rename_i v hv;exact ytt (fun v' d e hd=>by cases e;exact vn8 ho hd hti hv)
   . exact vnr
 . rename_i x n ho;exact ytt (fun v d e hd=>yrg ho hd e)
 . rename_i x ho
   split
   . rename_i hp;exact ytt (fun v d e hd=>by cases e;exact wc0 ho hd hp)
   . trivial
 . rename_i op T x y U ho
   split
   . exact ytt (fun v d e hd=>wvb ho hd e)
   . split
     . rename_i t ht
       split
       . rename_i j hj;exact ytt (fun v d e hd=>vpr ho hd (wwt ht) hj e)
       . trivial
     . trivial
   . exact vnr
 . exact vnr
 . exact vnr
 . rename_i T x lo hi mx ho
   split
   . split
     . exact xi7 (fun ti hti=>ytt (fun v d e hd=>wxe ho hd hti e))
     . trivial
   . exact vnr
 . rename_i T ps ho;refine xi7 (fun ti hti=>?_)
   split
   . rename_i hc;refine ytt (fun v d e hd=>?_);obtain ⟨hs,hf,rfl⟩:=Option.map_eq_some_iff.1 e;exact vu9 (parts:=ps.toList) (by rw [ho]) hd hti hc.1 hc.2 hf
   . trivial
 . rename_i T x f ho;refine xi7 (fun ti hti=>?_)
   split
   . rename_i fs hs
     split
     . rename_i off sz ft hf;exact xi7 (fun tf htf=>ytt (fun v d e hd=>v8y ho hd hti hs hf htf e))
     . trivial
   . trivial
 . rename_i T x y ho;refine xi7 (fun ti hti=>?_)
   split
   . rename_i n e es hs;refine xi7 (fun te hte=>?_)
     split
     . rename_i ix hix
       split
       . rename_i hc;obtain ⟨k,hk⟩:=vro hix;exact ytt (fun v d e hd=>xlr ho hd hti hs hte hk hc.1 hc.2 e)
       . trivial
     . trivial
   . rename_i hs;exact ytt (fun v d e hd=>v4e ho hd hti hs e)
   . trivial
 . rename_i T x y ok ho;refine xi7 (fun ti hti=>?_)
   split
   . refine xi7 (fun tk htk=>?_)
     split
     . split
       . unfold xtl
         split<;>trivial
       . trivial
     . trivial
   . trivial
 . rename_i T x y z ho
   split
   . rename_i hd;refine xi7 (fun ti hti=>?_)
     split
     . rename_i kt et hs;refine xi7 (fun tk htk=>?_)
       split
       . rename_i b es k hm hk
         split
         . rename_i hc
           split
           . rename_i es' hu;exact y5t ho hd hti hs htk hm hk hc.1 hc.2 hu
           . trivial
         . trivial
       . trivial
     . trivial
   . trivial
 . trivial
theorem w0y {η:List SB} {bs:List Nat} (h:∀ b∈bs,w9u (gB η b)=true):∀ p∈frzE η bs,p.1<η.length:=fun p hp=>by
 obtain ⟨b,hb,rfl⟩:=List.mem_map.1 hp;exact w2w (h b hb)
theorem yzh {J : List SV} {η : List SB} {es n : Nat} {ik : Option IntKind} {zc : List Cell} {parts : List (Nat × Operand)} {c : Cell} {bs : List Nat} (h : litH Γ J η es ik zc n parts = some (c, bs)) : ∀ b ∈ bs, w9u (gB η b) = true := by
 unfold litH at h;split at h
 . split at h
   . split at h
     . rename_i cs bs' hd;obtain ⟨c',_,he⟩:=Option.map_eq_some_iff.1 h
       cases he;exact wy7 hd
     . cases h
   . cases h
 . cases h
theorem z7n {x:Operand} {xs:Array Operand} (h:xs.toList=[x]):xs=#[x]:=by rw [<-Array.toArray_toList (xs:=xs),h]
theorem wi8 {x y:Operand} {xs:Array Operand} (h:xs.toList=[x,y]):xs=#[x,y]:=by rw [<-Array.toArray_toList (xs:=xs),h]
theorem y83 {x:TypeId} {xs:Array TypeId} (h:xs.toList=[x]):xs=#[x]:=by rw [<-Array.toArray_toList (xs:=xs),h]
theorem vpc {x y:TypeId} {xs:Array TypeId} (h:xs.toList=[x,y]):xs=#[x,y]:=by rw [<-Array.toArray_toList (xs:=xs),h]
theorem yau {η:List SB} {e:TypeId} {es:Nat} {ik:Option IntKind} {x:SV} {b:Nat} {c:Cell} {k:Nat} {T:Option TypeId} (h:dstH η e es ik x=some (some b,c,k,T)):w9u (gB η b)=true:=by
 unfold dstH at h;split at h
 . split at h
   . rename_i hb;split at h
     . cases h;rw [hb];rfl
     . cases h
   . cases h
 . split at h<;>cases h
 . cases h
theorem wlw {η η' : List SB} {e : TypeId} {es : Nat} {ik : Option IntKind} {x : SV} {ob : Option Nat} {c : Cell} {k : Nat} {T : Option TypeId} (h : dstH η e es ik x = some (ob, c, k, T)) (ha : ∀ b, ob = some b → gB η' b = gB η b) : dstH η' e es ik x = some (ob, c, k, T) := by
 unfold dstH at h ⊢;split at h
 . rename_i b es' n
   have e1:gB η' b=gB η b:=by
    split at h
    . split at h
      . cases h;exact ha b rfl
      . cases h
    . cases h
   simp only [e1];exact h
 . exact h
 . cases h
theorem x1n {η η':List SB} {x:SV} {c:Cell} {bs:List Nat} (h:srcH η x=some (c,bs)) (ha:∀ b∈bs,gB η' b=gB η b):srcH η' x=some (c,bs):=by
 unfold srcH at h ⊢;split at h
 . exact xvg h ha
 . cases h
theorem wsj {η:List SB} {x:SV} {c:Cell} {bs:List Nat} (h:srcH η x=some (c,bs)):∀ b∈bs,w9u (gB η b)=true:=by
 unfold srcH at h;split at h
 . exact xoq h
 . cases h
theorem zks {η η':List SB} (he:η'=η\/η'=η++[.fresh]) {b:Nat} (hb:w9u (gB η b)=true):gB η' b=gB η b:=by
 rcases he with rfl | rfl
 . rfl
 . exact y9c (w2w hb)
theorem ys4 {lit fn:Bool} {o:Oper} {J:List SV} {η:List SB} {nb:Nat}:zmx Γ P o J η nb (opH P Γ lit fn J η nb o):=by
 unfold opH
 split
 . rename_i T ho;exact xi7 (fun ti hti=>wxw (fun d η' hd _ hr=>vte ho hd hti hr) (by simp))
 . rename_i T x ho
   split
   . rename_i hs hcs;exact wxw (fun d η' hd _ hr=>zea ho hd hcs hr) (by simp)
   . trivial
 . rename_i T n ps ho
   split
   . exact vnr
   . rename_i n;refine xi7 (fun ti hti=>?_)
     split
     . rename_i e es eb ik hsh;refine xi7 (fun te hte=>?_)
       split
       . rename_i c bs hl;have harr:=yzh hl
         split
         . split
           . rename_i d hd;exact zdt (parts:=ps.toList) (by rw [ho]) hd hti hsh hte hl
           . trivial
         . refine wxw (fun d η' hd he hr=>?_) (w0y harr)
           have hg:∀ b∈bs,gB η' b=gB η b:=fun b hb=>zks he (harr b hb)
           have:=yiy (parts:=ps.toList) (nb:=nb) (by rw [ho]) hd hti hsh hte (yuw (J':=J) rfl hl hg) hr
           rw [vlv hg] at this;exact this
       . trivial
     . trivial
 . rename_i T ho;exact wxw (fun d η' hd _ hr=>y50 ho hd hr) (by simp)
 . rename_i f fs cs ho
   split
   . rename_i hfs
     have hfs':fs=#[]:=by rw [<-Array.toArray_toList (xs:=fs),hfs]
     subst hfs'
     split
     . split<;>trivial
     . split
       . rename_i hnt;exact wxw (fun d η' hd _ hr=>x6h (xs:=cs.toList) (by rw [ho]) hd hnt hr) (by simp)
       . trivial
   . trivial
 . rename_i S D x ho;unfold y44
   split
   . rename_i e hS hD
     split
     . rename_i he
       split
       . rename_i l bs hb
         split
         . rename_i d hd;exact xac ho hd hS he hD hb
         . trivial
       . trivial
     . trivial
   . rename_i t hS hD
     split
     . rename_i j b off T n hj hb
       split
       . rename_i hsz;exact ytt (fun v d e hd=>by cases e;exact v1f ho hd hS hD hj (by simpa using hsz) hb)
       . trivial
     . trivial
   . rename_i u hS hD
     split
     . rename_i j b off T n hj hb
       split
       . rename_i hl;exact ytt (fun v d e hd=>by cases e;exact zcx ho hd hS hD hj hl hb)
       . trivial
     . trivial
   . exact vnr
 . rename_i c ho;obtain ⟨ce,args,ats⟩:=c;dsimp only
   split
   . rename_i x;unfold z2m
     have hG:∀ f caps rd rh,zmx Γ P o J η nb (z2m.callG Γ (zt5 lit fn) J η o args.toList f caps rd rh):=fun f caps rd rh=>by
      unfold z2m.callG
      split
      . trivial
      . split<;>trivial
     split
     . rename_i f
       split
       . rename_i hne
         split
         . rename_i y hy
           have:=z7n hy
           subst this;exact ytt (fun v d e hd=>by cases e;exact zqp ho hd hne)
         . trivial
       . exact hG _ _ _ _
     . split
       . split<;>trivial
       . split
         . exact hG _ _ _ _
         . trivial
     . trivial
   . rename_i b
     split
     . split
       . rename_i x T hx hT;have h1:=z7n hx;have h2:=y83 hT;subst h1;subst h2
         split
         . refine xi7 (fun ti hti=>?_)
           split
           . rename_i rh n hl;exact ytt (fun v d e hd=>by cases e;exact w9c ho hd hti hl)
           . trivial
         . exact vnr
       . trivial
     . split
       . rename_i x y T U hx hT;have h1:=wi8 hx;have h2:=vpc hT;subst h1;subst h2
         split
         . rename_i hTU;subst hTU;refine xi7 (fun ti hti=>?_)
           split
           . rename_i e es eb ik hsh;unfold opH.appO
             split
             . rename_i ob cc k TT cy bs hD hS
               split
               . rename_i c' hj
                 split
                 . rename_i hob;have harr:=wsj hS
                   have harrD:∀ b,ob=some b->w9u (gB η b)=true:=fun b e1=>by subst e1;exact yau hD
                   refine wxw (fun d η' hd he hr=>?_) (fun p hp=>?_)
                   . have hg:∀ b∈bs,gB η' b=gB η b:=fun b hb=>zks he (harr b hb)
                     have hA:zxi η' nb e es eb ik (opdS Γ J x) (opdS Γ J y)=some (ob.toList++bs,frzE η' bs++(wo9 ob++[(nb,.arr c' k (appT TT e))]),.one (.sl nb es 0 c'.cnt)):=by
                      unfold zxi;rw [wlw hD (fun b e1=>zks he (harrD b e1)),x1n hS hg];simp only [hj,hob,if_true]
                     have:=wga ho hd hti hsh hA hr
                     rw [vlv hg,<-List.append_assoc] at this;exact this
                   . rcases List.mem_append.1 hp with hp | hp
                     . exact w0y harr p hp
                     . cases ob with
                       | none=>cases hp
                       | some b=>
                        simp only [wo9,List.mem_singleton] at hp;subst hp;exact w2w (harrD b rfl)
                 . trivial
               . trivial
             . trivial
           . trivial
         . trivial
       . trivial
     . split
       . rename_i x hx;have h1:=z7n hx;subst h1;exact ytt (fun v d e hd=>zne ho hd e)
       . trivial
     . split
       . rename_i x y pt it d hx hT hd;have h1:=wi8 hx;have h2:=vpc hT;subst h1;subst h2
         split
         . rename_i b l hu;exact s_us ho hd hu
         . trivial
       . trivial
     . exact vnr
     . exact vnr
     . trivial
   . trivial
 . exact vrh
def HO.flat:HO->Prop
 | .eff _ _ _ _ _=>True
 | .bad=>True
 | _=>False
theorem x88 {t:TypeId} {k:TI->HO} (h:∀ ti,(k ti).flat):(wx2 P t k).flat:=by
 unfold wx2
 split
 . exact h _
 . trivial
theorem xy7 {o:Oper} {rd rh:List Nat} {x:Option SV}:(vO o rd rh x).flat:=by
 unfold vO
 repeat' split
 all_goals trivial
theorem xbg {o:Oper} {rd rh:List Nat} {x:SV} {heff:List (Nat×SB)} {b:SB}:(nO o rd rh x heff b).flat:=by
 unfold nO
 split<;>trivial
theorem vz2 {J:List SV} {nb:Nat} {o:Oper}:(oldO P J nb o).flat:=by
 unfold oldO oldR
 repeat' split
 all_goals trivial
theorem x1z {J:List SV} {η:List SB} {nb:Nat} {o:Oper} {S D:TypeId} {x:Operand}:(y44 P Γ J η nb o S D x).flat:=by
 unfold y44
 repeat' split
 all_goals first | trivial | exact xy7 | exact vz2
theorem yaw {η:List SB} {nb:Nat} {o:Oper} {x y:SV} {rd:List Nat} {e:TypeId} {es eb:Nat} {ik:Option IntKind}:(opH.appO η nb o x y rd e es eb ik).flat:=by
 unfold opH.appO
 repeat' split
 all_goals first | trivial | exact xbg
theorem xgo {t:TypeId} {k:TI->HO} {r:HO} (hr:r≠.bad) (h:wx2 P t k=r):∃ ti,mkTI P t=some ti/\k ti=r:=by
 unfold wx2 at h;split at h
 . rename_i ti hti;exact ⟨ti,hti,h⟩
 . exact absurd h.symm hr
theorem w9g {J:List SV} {η:List SB} {nb:Nat} {o:Oper} {T:TypeId} {x y:Operand} {ok:Bool} (ho:o.op=.lookup T x y ok) {r:HO} (h:opP P Γ J η nb o=r) (hr:r≠.bad) :
 ∃ ti kt et tk b es k r0 z,mkTI P T=some ti/\ti.sh=.map kt et/\mkTI P kt=some tk/\xe2 η (opdS Γ J x)=some (b,es)/\keyX (opdS Γ J y)=some k/\z6i P kt tk.sh k=true/\xpi es k=some r0/\vaz P et=some z/\r=.look r0 z ok (vpg o++(orr x++orr y)) [b]:=by
 unfold opP at h;rw [ho] at h;dsimp only at h;obtain ⟨ti,hti,h⟩:=xgo hr h;split at h
 case h_2=>exact absurd h.symm hr
 rename_i kt et hs;obtain ⟨tk,htk,h⟩:=xgo hr h;split at h
 case h_2=>exact absurd h.symm hr
 rename_i b es k hm hk;split at h
 case isFalse=>exact absurd h.symm hr
 rename_i hko;unfold xtl at h;split at h
 case h_2=>exact absurd h.symm hr
 rename_i r' z' hf hz;exact ⟨ti,kt,et,tk,b,es,k,r',z',hti,hs,htk,hm,hk,hko,hf,hz,h.symm⟩
theorem z0v {J:List SV} {η:List SB} {nb:Nat} {o:Oper} (h:∀ T x y ok,o.op≠.lookup T x y ok):(opP P Γ J η nb o).flat:=by
 unfold opP
 split
 all_goals first
  | trivial
  | exact xy7
  | exact vz2
  | (rename_i heq;exact absurd heq (h _ _ _ _))
  | skip
 all_goals
  repeat' first
   | trivial
   | exact xy7
   | exact vz2
   | refine x88 (fun ti=>?_)
   | split
theorem vgn {lit fn:Bool} {J:List SV} {η:List SB} {nb:Nat} {o:Oper} (h1:∀ T x y ok,o.op≠.lookup T x y ok) (h2:∀ f fs cs,o.op≠.makeFunc f fs cs) (h3:∀ x xs ts,o.op≠.call { callee:=.value x,args:=xs,argTypes:=ts }):(opH P Γ lit fn J η nb o).flat:=by
 unfold opH
 split
 . exact x88 (fun _=>xbg)
 . split
   . exact xbg
   . trivial
 . split
   . exact vz2
   . refine x88 (fun ti=>?_)
     split
     . refine x88 (fun te=>?_)
       repeat' split
       all_goals first | trivial | exact xbg
     . trivial
 . exact xbg
 . rename_i heq;exact absurd heq (h2 _ _ _)
 . exact x1z
 . rename_i c ho;obtain ⟨ce,args,ats⟩:=c;dsimp only
   split
   . exact absurd ho (h3 _ _ _)
   . split
     . split
       . split
         . refine x88 (fun ti=>?_)
           split
           . exact xy7
           . trivial
         . exact vz2
       . trivial
     . split
       . split
         . refine x88 (fun ti=>?_)
           split
           . exact yaw
           . trivial
         . trivial
       . trivial
     . split
       . exact xy7
       . trivial
     . repeat' split
       all_goals trivial
     . exact vz2
     . exact vz2
     . trivial
   . trivial
 . exact z0v h1
theorem xpr {lit fn:Bool} {J:List SV} {η:List SB} {nb:Nat} {o:Oper} {x:Operand} {xs:Array Operand} {ts:Array TypeId} (ho:o.op=.call { callee:=.value x,args:=xs,argTypes:=ts }):opH P Γ lit fn J η nb o=z2m P Γ (zt5 lit fn) J η o x xs.toList:=by
 unfold opH;rw [ho]
theorem v77 {lit fn:Bool} {J:List SV} {η:List SB} {nb:Nat} {o:Oper} {r:HO} (h:opH P Γ lit fn J η nb o=r) (hr:(∃ f l rd rh bs,r=.callD f l rd rh bs)\/(∃ p l rd bs,r=.callF p l rd bs)\/(∃ f l rd,r=.callH f l rd)) :
 ∃ x xs ts,o.op=.call { callee:=.value x,args:=xs,argTypes:=ts }:=by
 apply Classical.byContradiction;intro hn
 have h3:∀ x xs ts,o.op≠.call { callee:=.value x,args:=xs,argTypes:=ts }:=fun x xs ts e=>hn ⟨x,xs,ts,e⟩
 by_cases h1:∀ T x y ok,o.op≠.lookup T x y ok
 . by_cases h2:∀ f fs cs,o.op≠.makeFunc f fs cs
   . have:=vgn (P:=P) (Γ:=Γ) (lit:=lit) (fn:=fn) (J:=J) (η:=η) (nb:=nb) h1 h2 h3
     rw [h] at this
     rcases hr with ⟨_,_,_,_,_,rfl⟩ | ⟨_,_,_,_,rfl⟩ | ⟨_,_,_,rfl⟩<;>exact this
   . obtain ⟨f,hf⟩:=Classical.not_forall.1 h2;obtain ⟨fs,hf⟩:=Classical.not_forall.1 hf;obtain ⟨cs,hf⟩:=Classical.not_forall.1 hf;have ho:=Classical.not_not.1 hf
     have hno:∀ r,((∃ f l rd rh bs,r=HO.callD f l rd rh bs)\/(∃ p l rd bs,r=HO.callF p l rd bs)\/(∃ f l rd,r=HO.callH f l rd))->opH P Γ lit fn J η nb o≠r:=fun r hr e=>by
      unfold opH at e;rw [ho] at e
      cases f with
      | func f=>
       dsimp only at e;split at e
       . split at e
         . split at e
           . subst e;rcases hr with ⟨_,_,_,_,_,e⟩ | ⟨_,_,_,_,e⟩ | ⟨_,_,_,e⟩<;>cases e
           . subst e;rcases hr with ⟨_,_,_,_,_,e⟩ | ⟨_,_,_,_,e⟩ | ⟨_,_,_,e⟩<;>cases e
         . split at e
           . have:=xbg (o:=o) (rd:=orrL cs.toList) (rh:=[]) (x:=.one (.fnr nb)) (heff:=[]) (b:=.clo f (ypm Γ J cs.toList))
             rw [e] at this
             rcases hr with ⟨_,_,_,_,_,rfl⟩ | ⟨_,_,_,_,rfl⟩ | ⟨_,_,_,rfl⟩<;>exact this
           . subst e;rcases hr with ⟨_,_,_,_,_,e⟩ | ⟨_,_,_,_,e⟩ | ⟨_,_,_,e⟩<;>cases e
       . subst e;rcases hr with ⟨_,_,_,_,_,e⟩ | ⟨_,_,_,_,e⟩ | ⟨_,_,_,e⟩<;>cases e
      | _=>
       dsimp only at e;unfold opP at e;rw [ho] at e;dsimp only at e;subst e
       rcases hr with ⟨_,_,_,_,_,e⟩ | ⟨_,_,_,_,e⟩ | ⟨_,_,_,e⟩<;>cases e
     exact hno r hr h
 . obtain ⟨T,hf⟩:=Classical.not_forall.1 h1;obtain ⟨x,hf⟩:=Classical.not_forall.1 hf;obtain ⟨y,hf⟩:=Classical.not_forall.1 hf;obtain ⟨ok,hf⟩:=Classical.not_forall.1 hf;have ho:=Classical.not_not.1 hf;unfold opH at h;rw [ho] at h;dsimp only at h
   have hnb:r≠.bad:=fun e=>by
    subst e;rcases hr with ⟨_,_,_,_,_,e⟩ | ⟨_,_,_,_,e⟩ | ⟨_,_,_,e⟩<;>cases e
   obtain ⟨_,_,_,_,_,_,_,_,_,_,_,_,_,_,_,_,_,rfl⟩:=w9g ho h hnb
   rcases hr with ⟨_,_,_,_,_,e⟩ | ⟨_,_,_,_,e⟩ | ⟨_,_,_,e⟩<;>cases e
theorem x14 {o:Oper} {J:List SV} {η:List SB} {nb:Nat} {rd rh:List Nat} {eff:List (Nat×SV)} {heff:List (Nat×SB)} {ob:Option SB} (hl:∀ p∈heff,p.1<η.length)
 (h:∀ η',(η'=η\/η'=η++[.fresh])->zm6 η' nb ob=true->wpk Γ P o J η' rd (oN nb ob++rh) eff (heff++oB nb ob)):Sound Γ P o J η nb rd rh eff heff ob:=by
 cases ob with
 | none=>
  have:=h η (.inl rfl) rfl
  simp only [oN,oB,List.nil_append,List.append_nil] at this;exact this
 | some b=>
  refine ⟨fun hr=>h η (.inl rfl) hr,fun e=>?_⟩;subst e;exact zik.new (h (η++[.fresh]) (.inr rfl) (show zm6 (η++[.fresh]) η.length (some b)=true from ydh η)) hl
theorem zp5 {J : List SV} {η : List SB} {x : Operand} {f : FuncId} {caps : List SV} {rd rh : List Nat} (h : xln Γ J η x = some (f, caps, rd, rh)) : ∀ b ∈ rh, b < η.length := by
 unfold xln at h;split at h
 . cases h;intro b hb;cases hb
 . split at h
   . obtain ⟨f0,_,e⟩:=Option.map_eq_some_iff.1 h;cases e;intro b hb;cases hb
   . split at h
     . rename_i hgb
       cases h;intro b hb;simp only [List.mem_singleton] at hb;subst hb;exact (List.getElem?_eq_some_iff.1 (wep hgb (by simp))).1
     . cases h
   . cases h
 . cases h
theorem wxl {lit fn:Bool} {J:List SV} {η:List SB} {nb:Nat} {o:Oper} {f:FuncId} {l:List AV} {rd rh bs:List Nat} (h:opH P Γ lit fn J η nb o=.callD f l rd rh bs) {res:AV} (hc:CallsD Γ P f l res) {y:SV} {ob:Option SB} (hr:resS nb res=some (y,ob)) :
 Sound Γ P o J η nb rd (rh++bs) (vij o y) (frzE η bs) ob:=by
 obtain ⟨x,xs,ts,ho⟩:=v77 h (.inl ⟨_,_,_,_,_,rfl⟩);rw [xpr ho] at h
 have ho':o.op=.call { callee:=.value x,args:=xs.toList.toArray,argTypes:=ts }:=by rw [ho]
 have hG:∀{f':FuncId} {caps:List SV} {rd' rh':List Nat},xln Γ J η x=some (f',caps,rd',rh')->(∀ b∈rh',b<η.length)->z2m.callG Γ (zt5 lit fn) J η o xs.toList f' caps rd' rh'=.callD f l rd rh bs->Sound Γ P o J η nb rd (rh++bs) (vij o y) (frzE η bs) ob:=fun {f' caps rd' rh'} hcal hlt hg=>by
  unfold z2m.callG at hg;split at hg
  . rename_i l' bs' ha;have ha:=vf6 ha
    cases hg;have harr:=yey ha;refine x14 (w0y harr) (fun η' he hroom=>?_)
    have hgb:∀ b∈bs,gB η' b=gB η b:=fun b hb=>zks he (harr b hb)
    have hcal':=y8b (J':=J) (η':=η') hcal (fun _ _=>rfl) (fun b hb=>by
     rcases he with rfl | rfl
     . rfl
     . exact y9c (hlt b hb))
    have:=waa (η:=η') ho' hcal' (vnx ha hgb) hc hr hroom
    rw [vlv hgb,List.append_assoc (oN nb ob)] at this;exact this
  . split at hg<;>cases hg
 unfold z2m at h;split at h
 . split at h
   . split at h
     . unfold vO at h;repeat' split at h
       all_goals cases h
     . cases h
   . exact hG rfl (by simp) h
 . rename_i t;split at h
   . split at h<;>cases h
   . split at h
     . rename_i f' caps rd' rh' hcal;exact hG hcal (zp5 hcal) h
     . cases h
 . cases h
theorem zzv {lit fn:Bool} {J:List SV} {η:List SB} {nb:Nat} {o:Oper} {F:List AV->AV->Prop} {l:List AV} {rd bs:List Nat} (h:opH P Γ lit fn J η nb o=.callF (ztd Γ P F) l rd bs) {res:AV} (hc:F l res) {y:SV} {ob:Option SB} (hr:resS nb res=some (y,ob)) :
 Sound Γ P o J η nb rd bs (vij o y) (frzE η bs) ob:=by
 obtain ⟨x,xs,ts,ho⟩:=v77 h (.inr (.inl ⟨_,_,_,_,rfl⟩));rw [xpr ho] at h
 have ho':o.op=.call { callee:=.value x,args:=xs.toList.toArray,argTypes:=ts }:=by rw [ho]
 have hno:∀{f':FuncId} {caps:List SV} {rd' rh':List Nat},z2m.callG Γ (zt5 lit fn) J η o xs.toList f' caps rd' rh'≠.callF (ztd Γ P F) l rd bs:=fun {f' caps rd' rh'} hg=>by
  unfold z2m.callG at hg;split at hg
  . cases hg
  . split at hg<;>cases hg
 unfold z2m at h;split at h
 . split at h
   . split at h
     . unfold vO at h;repeat' split at h
       all_goals cases h
     . cases h
   . exact absurd h hno
 . rename_i t;split at h
   . rename_i p ht;split at h
     . rename_i l' bs' ha
       cases h;have harr:=yey ha;refine x14 (w0y harr) (fun η' he hroom=>?_)
       have hgb:∀ b∈bs,gB η' b=gB η b:=fun b hb=>zks he (harr b hb)
       have:=wni (η:=η') ho' ht (vnx ha hgb) hc hr hroom
       rw [vlv hgb] at this;exact this
     . cases h
   . split at h
     . exact absurd h hno
     . cases h
 . cases h
theorem ztp {lit fn:Bool} {J:List SV} {η:List SB} {nb:Nat} {o:Oper} {f:FuncId} {l:List SV} {rd:List Nat} (h:opH P Γ lit fn J η nb o=.callH f l rd) {η':List SB} {res:SV} (hc:z00 Γ P f η l η' res) :
 zik Γ P o J η (appL (vij o res) J) η'/\(∀ heff,η'=appL heff η->wpk Γ P o J η rd (List.range η.length) (vij o res) heff):=by
 obtain ⟨x,xs,ts,ho⟩:=v77 h (.inr (.inr ⟨_,_,_,rfl⟩));rw [xpr ho] at h
 have ho':o.op=.call { callee:=.value x,args:=xs.toList.toArray,argTypes:=ts }:=by rw [ho]
 have hG:∀{f':FuncId} {caps:List SV} {rd' rh':List Nat},xln Γ J η x=some (f',caps,rd',rh')->z2m.callG Γ (zt5 lit fn) J η o xs.toList f' caps rd' rh'=.callH f l rd->zik Γ P o J η (appL (vij o res) J) η'/\(∀ heff,η'=appL heff η->wpk Γ P o J η rd (List.range η.length) (vij o res) heff):=fun {f' caps rd' rh'} hcal hg=>by
  unfold z2m.callG at hg;split at hg
  . cases hg
  . split at hg
    . rename_i hnt
      cases hg;exact ⟨wez ho' hcal hnt hc,fun heff e=>by subst e;exact ymd ho' hcal hnt hc⟩
    . cases hg
 unfold z2m at h;split at h
 . split at h
   . split at h
     . unfold vO at h;repeat' split at h
       all_goals cases h
     . cases h
   . exact hG rfl h
 . rename_i t;split at h
   . split at h<;>cases h
   . split at h
     . rename_i f' caps rd' rh' hcal;exact hG hcal h
     . cases h
 . cases h
theorem xz1 {lit fn : Bool} {J : List SV} {η : List SB} {nb : Nat} {o : Oper} {f : FuncId} {caps : List AV} {rd bs : List Nat} (h : opH P Γ lit fn J η nb o = .mk f caps rd bs) {F : List AV → AV → Prop} (w5a : zz7 P f) (hF : ∀ args res, F args res → CallsD Γ P f (args ++ caps) res) :
 wpk Γ P o J η rd bs (vij o (.one (.dat (.fnp (ztd Γ P F))))) (frzE η bs):=by
 by_cases hm:∃ g cs,o.op=.makeFunc (.func g) #[] cs
 . obtain ⟨g,cs,ho⟩:=hm;unfold opH at h;rw [ho] at h;dsimp only at h;split at h
   . split at h
     . rename_i l' bs' d ha hd
       cases h
       have:=yuk (η:=η) (J:=J) (o:=o) (xs:=cs.toList) (by rw [ho]) hd ha w5a hF
       unfold vij;rw [hd];exact this
     . cases h
   . split at h
     . exfalso
       have:=xbg (o:=o) (rd:=orrL cs.toList) (rh:=[]) (x:=.one (.fnr nb)) (heff:=[]) (b:=.clo g (ypm Γ J cs.toList))
       rw [h] at this;exact this
     . cases h
 . exfalso;by_cases hl:∃ T x y ok,o.op=.lookup T x y ok
   . obtain ⟨T,x,y,ok,ho⟩:=hl;unfold opH at h;rw [ho] at h;dsimp only at h;obtain ⟨_,_,_,_,_,_,_,_,_,_,_,_,_,_,_,_,_,e⟩:=w9g ho h (by simp)
     cases e
   . by_cases hc:∃ x xs ts,o.op=.call { callee:=.value x,args:=xs,argTypes:=ts }
     . obtain ⟨x,xs,ts,ho⟩:=hc;rw [xpr ho] at h;unfold z2m z2m.callG vO at h
       repeat' split at h
       all_goals cases h
     . by_cases hmf:∃ f fs cs,o.op=.makeFunc f fs cs
       . obtain ⟨g,fs,cs,ho⟩:=hmf;unfold opH at h;rw [ho] at h
         cases g with
         | func g=>
          dsimp only at h;split at h
          . rename_i hfs;exact hm ⟨g,cs,by rw [ho,show fs=#[] by rw [<-Array.toArray_toList (xs:=fs),hfs]]⟩
          . cases h
         | _=>
          dsimp only at h;unfold opP at h;rw [ho] at h
          cases h
       . have:=vgn (P:=P) (Γ:=Γ) (lit:=lit) (fn:=fn) (J:=J) (η:=η) (nb:=nb) (o:=o) (fun T x y ok e=>hl ⟨T,x,y,ok,e⟩) (fun f fs cs e=>hmf ⟨f,fs,cs,e⟩) (fun x xs ts e=>hc ⟨x,xs,ts,e⟩)
         rw [h] at this;exact this
theorem xo6 {lit fn:Bool} {J:List SV} {η:List SB} {nb:Nat} {o:Oper} {r:Option SV} {zero:SV} {ok:Bool} {rd rh:List Nat} (h:opH P Γ lit fn J η nb o=.look r zero ok rd rh):wpk Γ P o J η rd rh (vij o (z8c ok r zero)) []\/o.dst=none:=by
 by_cases hl:∃ T x y ok,o.op=.lookup T x y ok
 . obtain ⟨T,x,y,ok',ho⟩:=hl;unfold opH at h;rw [ho] at h;dsimp only at h;obtain ⟨ti,kt,et,tk,b,es,k,r',z',hti,hs,htk,hm,hk,hko,hf,hz,e⟩:=w9g ho h (by simp)
   cases e
   cases hd:o.dst with
   | none=>exact .inr rfl
   | some d=>
    left
    have:=y88 (η:=η) (J:=J) ho hd hti hs htk hm hk hko hf hz
    unfold vij vpg;rw [hd];exact this
 . exfalso;by_cases hc:∃ x xs ts,o.op=.call { callee:=.value x,args:=xs,argTypes:=ts }
   . obtain ⟨x,xs,ts,ho⟩:=hc;rw [xpr ho] at h;unfold z2m z2m.callG vO at h
     repeat' split at h
     all_goals cases h
   . by_cases hmf:∃ f fs cs,o.op=.makeFunc f fs cs
     . obtain ⟨g,fs,cs,ho⟩:=hmf;unfold opH at h;rw [ho] at h
       cases g with
       | func g=>
        dsimp only at h;unfold nO at h
        repeat' split at h
        all_goals cases h
       | _=>
        dsimp only at h;unfold opP at h;rw [ho] at h
        cases h
     . have:=vgn (P:=P) (Γ:=Γ) (lit:=lit) (fn:=fn) (J:=J) (η:=η) (nb:=nb) (o:=o) (fun T x y ok e=>hl ⟨T,x,y,ok,e⟩) (fun f fs cs e=>hmf ⟨f,fs,cs,e⟩) (fun x xs ts e=>hc ⟨x,xs,ts,e⟩)
       rw [h] at this;exact this
end Go.Hp
