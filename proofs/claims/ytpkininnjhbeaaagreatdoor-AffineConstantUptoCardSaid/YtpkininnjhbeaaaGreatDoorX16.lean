/- The proof, part X16: Hm, Hn. -/
import Derived.Test.YtpkininnjhbeaaaGreatDoorX15
namespace Go.Hp
open Go Go.RowKit Go.Slot
variable {P:Program} {Γ:List (Nat×List Cell)}
variable {T e:TypeId} {tf ti:TI} {J J':List SB} {off es k b nb:Nat} {x y:Operand} {o:Oper} {I:List SV} {v:SV} {rd rh bs:List Nat} {heff:List (Nat×SB)} {ik:Option IntKind} {c:Cell} {xs:Array Operand}
def wco (off:Nat) (tf:TI):SV->Option SV
 | .agg hs=>yi8 tf (hs.drop off)
 | _=>none
theorem vvy (hok:TIok P T tf) {ρ:Nat->Value} {M:Nat->Nat->Prop} {w:World} {vs:List Value} {hs:List HC} (hr:HRL J ρ M w vs hs) {x:SV} (h:yi8 tf (hs.drop off)=some x) :
 ∃ v,(part T vs.toArray off).run P w=.ok v w/\SVR J ρ M w v x:=by
 obtain ⟨_,j,_,_,hj,_,hjs,_,_,_,_,_⟩:=hok.ex;have hr':=hr.drop off;unfold yi8 at h;split at h
 . rename_i hm;split at h
   . rename_i hle
     cases h;refine ⟨.agg ((vs.drop off).take tf.size).toArray,?_,_,rfl,hr'.take _⟩;simp [part,hok.vkb hm,yyt hj,hjs,List.extract_eq_take_drop]
   . cases h
 . rename_i hm;split at h
   . rename_i c cs' hcs
     cases h;rw [hcs] at hr'
     cases hv:vs.drop off with
     | nil=>rw [hv] at hr';exact hr'.elim
     | cons v0 vs'=>
      rw [hv] at hr'
      have hg:vs[off]? = some v0:=by
       have:=congrArg (fun l=>l[0]?) hv
       simpa using this
      exact ⟨v0,by simp [part,hok.vkb hm,hg],hr'.1⟩
   . cases h
 . cases h
theorem w5l {ft:TypeId} {f d sz:Nat} {fs:List (Nat×Nat×TypeId)} (ho:o.op=.field T x f) (hdst:o.dst=some d) (hti:mkTI P T=some ti) (hs:ti.sh=.struct fs) (hf:fs[f]? = some (off,sz,ft)) (htf:mkTI P ft=some tf)
 (h:wco off tf (opdS Γ I x)=some v):vbd Γ P o I J (d::orr x) [] [(d,v)] []:=by
 refine vbd.pure hdst (fun E ρ I' J' a w hag hah hI=>?_);have hx:=hI.opd x;rw [hag.opd (fun t ht=>by simp [ht])] at hx;obtain ⟨dd,i,z,hd,hi',hz,_,_,_,_,_,hsh⟩:=(wgk hti).ex;obtain ⟨fl,rfl,rfl,_⟩:=xzn (hsh.symm.trans hs);rw [List.getElem?_map] at hf;obtain ⟨fd,hfd,hfe⟩:=Option.map_eq_some_iff.1 hf
 cases hfe
 have hfa:fl[f]? = some fd:=by simpa using hfd
 unfold wco at h;split at h
 . rename_i hs' e;rw [e] at hx;obtain ⟨vs,hv,hr⟩:=hx;obtain ⟨u,h1,h2⟩:=vvy (wgk htf) hr h;exact ⟨u,by simp [execOp,ho,Instr.field,asAgg,hv,w9c hd,hfa,h1],h2⟩
 . cases h
theorem zdr {d n:Nat} {k:IntKind} {ix:Int} (ho:o.op=.index T x y) (hdst:o.dst=some d) {te:TI} (hti:mkTI P T=some ti) (hs:ti.sh=.array n e es) (hte:mkTI P e=some te)
 (hy:opdS Γ I y=.one (.dat (.raw (.int k ix)))) (h0:0<=ix/\ix<n) (hes:es=te.size) (h:wco (ix.toNat*es) te (opdS Γ I x)=some v):vbd Γ P o I J (d::(orr x++orr y)) [] [(d,v)] []:=by
 refine vbd.pure hdst (fun E ρ I' J' a w hag hah hI=>?_);have hx:=hI.opd x;have hyr:=hI.opd y;rw [hag.opd (fun t ht=>by simp [ht])] at hx hyr;rw [hy] at hyr;have ey:a.eval y=.int k ix:=RdC.x18 hyr;obtain ⟨dd,i,z,hd,hi',hz,_,_,_,_,_,hsh⟩:=(wgk hti).ex;obtain ⟨rfl,_⟩:=ycg (hsh.symm.trans hs);have hok:=wgk hte;obtain ⟨_,j,_,_,hj,_,hjs,_,_,_,_,_⟩:=hok.ex;unfold wco at h;split at h
 . rename_i hs' ex;rw [ex] at hx;obtain ⟨vs,hv,hr⟩:=hx;obtain ⟨u,h1,h2⟩:=vvy hok hr h;exact ⟨u,by simp [execOp,ho,Instr.index,asIntOf,hv,ey,w9c hd,h0.1,h0.2,yyt hj,hjs,<-hes,h1],h2⟩
 . cases h
inductive HO where
 | eff (rd rh:List Nat) (eff:List (Nat×SV)) (heff:List (Nat×SB)) (new:Option SB)
 | callD (f:FuncId) (l:List AV) (rd rh bs:List Nat)
 | callF (p:(Nat->Nat->Prop)->World->Value->Prop) (l:List AV) (rd bs:List Nat)
 | callH (f:FuncId) (l:List SV) (rd:List Nat)
 | mk (f:FuncId) (caps:List AV) (rd bs:List Nat)
 | look (r:Option SV) (zero:SV) (ok:Bool) (rd rh:List Nat)
 | bad
def vem (P:Program) (t:TypeId) (k:TI->HO):HO:=match mkTI P t with
 | some ti=>k ti
 | none=>.bad
def vO (o:Oper) (rd rh:List Nat):Option SV->HO
 | some x=>match o.dst with
  | some d=>.eff (d::rd) rh [(d,x)] [] none
  | none=>.bad
 | none=>.bad
def nO (o:Oper) (rd rh:List Nat) (x:SV) (heff:List (Nat×SB)) (b:SB):HO:=match o.dst with
 | some d=>.eff (d::rd) rh [(d,x)] heff (some b)
 | none=>.bad
def isNil {α:Type}:List α->Bool
 | []=>true
 | _=>false
def oldR (d nb:Nat):OR->HO
 | .eff rd tk [(d',av)]=>if isNil tk&&d'==d then match av2 nb av with
  | some (x,ob)=>.eff rd [] [(d,x)] [] ob
  | none=>.bad
  else .bad
 | _=>.bad
def oldO (P:Program) (I:List SV) (nb:Nat) (o:Oper):HO:=match o.dst with
 | some d=>if v1x o.op=true/\d<I.length then oldR d nb (opA0 P (I.map vw) o) else .bad
 | none=>.bad
def x72:SV->SV->Option SV
 | .one (.dat (.raw (.string s))),.one (.dat (.raw (.int _ i)))=>if 0<=i/\i<s.size then some (.one (.dat (.raw (.int .u8 (yuk s i.toNat))))) else none
 | _,_=>none
def intS:SV->Option Int
 | .one (.dat (.raw (.int _ i)))=>some i
 | _=>none
inductive CK where
 | agg
 | ptr
 | other
def ckH:SV->SV->CK
 | .agg _,_=>.agg
 | .one (.ptr _ _),_=>.ptr
 | .one (.pel _ _ _ _),_=>.ptr
 | .elt _,_=>.ptr
 | .one (.dat (.raw (.pointer _))),_=>.ptr
 | _,_=>.other
def vk7:SV->Bool
 | .one (.sl _ _ _ _)=>true
 | _=>false
def z00:SV->Bool
 | .one (.sl _ _ _ _)=>true
 | .one (.mp _)=>true
 | _=>false
def wsi (_o:Oper) (ok:Bool) (rd rh:List Nat):Option (Option SV)->Option SV->HO
 | some r,some z=>.look r z ok rd rh
 | _,_=>.bad
def opP (P:Program) (Γ:List (Nat×List Cell)) (I:List SV) (J:List SB) (nb:Nat) (o:Oper):HO:=
 match o.op with
 | .move x=>vO o (orr x) [] (some (opdS Γ I x))
 | .assign x=>vO o (orr x) [] (some (opdS Γ I x))
 | .pick c x y=>match vby (opdS Γ I c) (opdS Γ I x) (opdS Γ I y) with
  | some v=>vO o (orr c++orr x++orr y) [] (some v)
  | none=>oldO P I nb o
 | .load T x=>vem P T fun ti=>match seeH J (opdS Γ I x) with
  | some (rh,hs)=>vO o (orr x) rh (yi8 ti hs)
  | none=>.bad
 | .store T x y=>match o.dst with
  | none=>vem P T fun ti=>match vg7 (opdS Γ I y) with
   | some us=>if us.length=ti.size then match x71 J ti.size (opdS Γ I x) us with
    | some (b,z)=>.eff (orr x++orr y) [b] [] [(b,z)] none
    | none=>.bad
    else .bad
   | none=>.bad
  | some _=>.bad
 | .fieldAddr S x f=>vem P S fun ti=>match ti.sh with
  | .struct fs=>match fs[f]? with
   | some (off,_,_)=>vO o (orr x) [] (vlp (opdS Γ I x) off)
   | none=>.bad
  | _=>.bad
 | .indexAddr T x y=>vem P T fun ti=>match vui ti.sh (opdS Γ I x) (opdS Γ I y) with
  | some v=>vO o (orr x++orr y) [] (some v)
  | none=>oldO P I nb o
 | .extract x n=>vO o (orr x) [] (ydz (opdS Γ I x) n)
 | .nilCheck x=>if ptrH (opdS Γ I x)=true then vO o (orr x) [] (some (opdS Γ I x)) else .bad
 | .binOp op T x y _=>match ckH (opdS Γ I x) (opdS Γ I y) with
  | .agg=>vO o (orr x++orr y) [] (yxi P T op (opdS Γ I x) (opdS Γ I y))
  | .ptr=>match vjd P T with
   | some t=>match P.info? t with
    | some _=>vO o (orr x++orr y) [] (xra op (opdS Γ I x) (opdS Γ I y))
    | none=>.bad
   | none=>.bad
  | .other=>oldO P I nb o
 | .unOp _ _ _=>oldO P I nb o
 | .makeSlice _ _ _=>oldO P I nb o
 | .slice T x lo hi mx=>match vk7 (opdS Γ I x) with
  | true=>match mx with
   | none=>vem P T fun ti=>vO o (orr x++orrO lo++orrO hi) [] (yw0 Γ I ti.sh (opdS Γ I x) lo hi)
   | some _=>.bad
  | false=>oldO P I nb o
 | .build T ps=>vem P T fun ti=>if v27 ti=true/\ti.sh.agg=true then vO o (orrs ps.toList) [] ((y31 (placeOf ti.sh) (ti.zc.map .dat) (x3f Γ I ps.toList)).map .agg) else .bad
 | .field T x f=>vem P T fun ti=>match ti.sh with
  | .struct fs=>match fs[f]? with
   | some (off,_,ft)=>vem P ft fun tf=>vO o (orr x) [] (wco off tf (opdS Γ I x))
   | none=>.bad
  | _=>.bad
 | .index T x y=>vem P T fun ti=>match ti.sh with
  | .array n e es=>vem P e fun te=>match intS (opdS Γ I y) with
   | some ix=>if (0<=ix/\ix<n)/\es=te.size then vO o (orr x++orr y) [] (wco (ix.toNat*es) te (opdS Γ I x)) else .bad
   | none=>.bad
  | .string=>vO o (orr x++orr y) [] (x72 (opdS Γ I x) (opdS Γ I y))
  | _=>.bad
 | .lookup T x y ok=>vem P T fun ti=>match ti.sh with
  | .map kt et=>vem P kt fun tk=>match wii J (opdS Γ I x),keyV (opdS Γ I y) with
   | some (b,es),some k=>if wdo tk.sh k=true then wsi o ok (xl0 o++(orr x++orr y)) [b] (yvo es k) (zya P et) else .bad
   | _,_=>.bad
  | _=>.bad
 | .mapUpdate T x y z=>match o.dst with
  | none=>vem P T fun ti=>match ti.sh with
   | .map kt _=>vem P kt fun tk=>match wii J (opdS Γ I x),keyV (opdS Γ I y) with
    | some (b,es),some k=>if wdo tk.sh k=true/\vms (opdS Γ I z)=true then match updM es k (opdS Γ I z) with
     | some es'=>.eff (orr x++orr y++orr z) [b] [] [(b,.map es')] none
     | none=>.bad
     else .bad
    | _,_=>.bad
   | _=>.bad
  | some _=>.bad
 | _=>.bad
def vj1 (P:Program) (Γ:List (Nat×List Cell)) (I:List SV) (J:List SB) (nb:Nat) (o:Oper) (S D:TypeId) (x:Operand):HO:=match P.underlying S,P.underlying D with
 | some (.slice e),some .string=>match P.underlying e with
  | some (.int .u8)=>match wha J (opdS Γ I x) with
   | some (l,bs)=>match o.dst with
    | some d=>.eff (d::orr x) bs [(d,.one (.dat (.raw (.string (strOfNums l)))))] (frzE J bs) none
    | none=>.bad
   | none=>.bad
  | _=>.bad
 | some (.pointer t),some .unsafePointer=>match P.info? t,x7k J (opdS Γ I x) with
  | some j,some (b,off,_,_)=>if j.size != 0 then vO o (orr x) [b] (some (.one (.ptr b off))) else .bad
  | _,_=>.bad
 | some .unsafePointer,some (.pointer u)=>match P.info? u,x7k J (opdS Γ I x) with
  | some _,some (b,off,T,n)=>if liesAt P P.depth T (n / P.cellsOf T) off u 1 then vO o (orr x) [b] (some (.one (.ptr b off))) else .bad
  | _,_=>.bad
 | _,_=>oldO P I nb o
def wew:Bool->Bool->Bool
 | false,false=>true
 | _,_=>false
def vii (own:Bool) (J:List SB) (l:List SV):Option (List AV×List Nat):=match own with
 | true=>none
 | false=>zfb J l
theorem vjw {own:Bool} {l:List SV} {r:List AV×List Nat} (h:vii own J l=some r):zfb J l=some r:=by
 cases own with
 | true=>cases h
 | false=>exact h
def wds (P:Program) (Γ:List (Nat×List Cell)) (own:Bool) (I:List SV) (J:List SB) (o:Oper) (x:Operand) (xs:List Operand):HO:=match x with
 | .func f=>if xts P f=true then match xs with
  | [y]=>vO o (orr y) [] (some (opdS Γ I y))
  | _=>.bad
  else callG f [] [] []
 | .tmp t=>match gtS I t with
  | .one (.dat (.fnp p))=>match zfb J (wy6 Γ I xs) with
   | some (l,bs)=>.callF p l (xl0 o++t::orrL xs) bs
   | none=>.bad
  | _=>match zxi Γ I J (.tmp t) with
   | some (f,caps,rd,rh)=>callG f caps rd rh
   | none=>.bad
 | _=>.bad
where callG (f:FuncId) (caps:List SV) (rd rh:List Nat):HO:=match vii own J (wy6 Γ I xs++caps) with
 | some (l,bs)=>.callD f l (xl0 o++rd++orrL xs) rh bs
 | none=>match voj (wy6 Γ I xs) with
  | true=>.callH f (wy6 Γ I xs++caps) (xl0 o++rd++orrL xs)
  | false=>.bad
def opH (P:Program) (Γ:List (Nat×List Cell)) (lit fn:Bool) (I:List SV) (J:List SB) (nb:Nat) (o:Oper):HO:=
 match o.op with
 | .alloc T=>vem P T fun ti=>nO o [] [] (.one (.ptr nb 0)) [] (.box (ti.zc.map .dat) (some T))
 | .box T x=>match vg7 (opdS Γ I x) with
  | some hs=>nO o (orr x) [] (.one (.ptr nb 0)) [] (.box hs (some T))
  | none=>.bad
 | .buildSlice T n ps=>match n with
  | 0=>oldO P I nb o
  | n + 1 => vem P T fun ti => match ti.sh with
   | .slice e es _ ik=>vem P e fun te=>match litH Γ I J es ik te.zc (n+1) ps.toList with
    | some (c,bs)=>match lit with
     | true=>match o.dst with
      | some d=>.eff (d::orrs ps.toList) bs [(d,.one (.dat c))] (frzE J bs) none
      | none=>.bad
     | false=>nO o (orrs ps.toList) bs (.one (.sl nb es 0 (n+1))) (frzE J bs) (.arr c 0 (some e))
    | none=>.bad
   | _=>.bad
 | .makeMap _ none=>nO o [] [] (.one (.mp nb)) [] (.map [])
 | .makeFunc (.func f) fs cs=>match fs.toList with
  | []=>match fn with
   | true=>match zfb J (wy6 Γ I cs.toList),o.dst with
    | some (l,bs),some d=>.mk f l (d::orrL cs.toList) bs
    | _,_=>.bad
   | false=>match voj (wy6 Γ I cs.toList) with
    | true=>nO o (orrL cs.toList) [] (.one (.fnr nb)) [] (.clo f (wy6 Γ I cs.toList))
    | false=>.bad
  | _=>.bad
 | .convert S D x=>vj1 P Γ I J nb o S D x
 | .call c => match c.callee with
  | .value x=>wds P Γ (wew lit fn) I J o x c.args.toList
  | .builtin b=>match b with
   | .len=>match c.args.toList,c.argTypes.toList with
    | [x],[T]=>match z00 (opdS Γ I x) with
     | true=>vem P T fun ti=>match lenH J ti.sh (opdS Γ I x) with
      | some (rh,n)=>vO o (orr x) rh (some (.one (.dat (.raw (.int .i64 (n:Int))))))
      | none=>.bad
     | false=>oldO P I nb o
    | _,_=>.bad
   | .append=>match c.args.toList,c.argTypes.toList with
    | [x,y],[T,U]=>if T=U then vem P T fun ti=>match ti.sh with
     | .slice e es eb ik=>appO (opdS Γ I x) (opdS Γ I y) (orr x++orr y) e es eb ik
     | _=>.bad
     else .bad
    | _,_=>.bad
   | .unsafeSliceData=>match c.args.toList with
    | [x]=>vO o (orr x) [] (usdH (opdS Γ I x))
    | _=>.bad
   | .unsafeString=>match c.args.toList,c.argTypes.toList,o.dst with
    | [x,y],[pt,_],some d=>match usH P J pt (opdS Γ I x) (opdS Γ I y) with
     | some (b,l)=>.eff (d::(orr x++orr y)) [b] [(d,.one (.dat (.raw (.string (strOfNums l)))))] [(b,.dead)] none
     | none=>.bad
    | _,_,_=>.bad
   | .copy => match c.args.toList, c.argTypes.toList, o.dst with
    | [x, y], [T, U], some d => if T = U then vem P T fun ti => match ti.sh with
     | .slice _ es _ _=>match z5s J es (opdS Γ I x) (opdS Γ I y) with
      | some (b,z,m,rb)=>.eff (d::(orr x++orr y)) rb [(d,.one (.dat (.raw (.int .i64 (m:Int)))))] [(b,z)] none
      | none=>.bad
     | _=>.bad
     else .bad
    | _,_,_=>.bad
   | .max=>oldO P I nb o
   | .min=>oldO P I nb o
   | _=>.bad
  | _=>.bad
 | _=>opP P Γ I J nb o
where appO (x y:SV) (rd:List Nat) (e:TypeId) (es eb:Nat) (ik:Option IntKind):HO:=match dstH J e es ik x,srcH J y with
 | some (ob,c,k,T),some (cy,bs)=>match wch es eb ik c cy with
  | some c'=>if bs.all (fun i=>ob != some i) then nO o rd (ob.toList++bs) (.one (.sl nb es 0 c'.cnt)) (frzE J bs++x03 ob) (.arr c' k (appT T e)) else .bad
  | none=>.bad
 | _,_=>.bad
theorem v6d {l:List SB} (h:b<J.length):gB (J++l) b=gB J b:=by
 unfold gB;rw [List.getElem?_append_left h]
theorem xei (h:y10 (gB J b)=true):b<J.length:=by
 rcases Nat.lt_or_ge b J.length with h1 | h1
 . exact h1
 . unfold gB at h;rw [List.getElem?_eq_none h1] at h;cases h
theorem zj7:∀(heff:List (Nat×SB)) (J:List SB) (x:SB),(∀ p∈heff,p.1<J.length)->appL (heff++[(J.length,x)]) (J++[.fresh])=appL heff J++[x]
 | [],J,x,_=>by simp [appL]
 | (i,y)::r,J,x,h=>by
  have hi:i<J.length:=h (i,y) (by simp);simp only [List.cons_append,appL];rw [List.set_append_left _ _ hi]
  have:=zj7 r (J.set i y) x (fun p hp=>by rw [List.length_set];exact h p (by simp [hp]))
  rw [List.length_set] at this;exact this
theorem xnc (J:List SB):y4f (J++[.fresh]) J.length=true:=by simp [y4f]
theorem vjm.new {eff:List (Nat×SV)} {x:SB} (h:vbd Γ P o I (J++[.fresh]) rd rh eff (heff++[(J.length,x)])) (hl:∀ p∈heff,p.1<J.length) :
 vjm Γ P o I J (appL eff I) (appL heff J++[x]):=by
 have:=h.px
 rw [zj7 heff J x hl] at this;exact this
def Sound (Γ:List (Nat×List Cell)) (P:Program) (o:Oper) (I:List SV) (J:List SB) (nb:Nat) (rd rh:List Nat) (eff:List (Nat×SV)) (heff:List (Nat×SB)):Option SB->Prop
 | none=>vbd Γ P o I J rd rh eff heff
 | some x=>(y4f J nb=true->vbd Γ P o I J rd (nb::rh) eff (heff++[(nb,x)]))/\(nb=J.length->vjm Γ P o I J (appL eff I) (appL heff J++[x]))
def vlf (Γ:List (Nat×List Cell)) (P:Program) (o:Oper) (I:List SV) (J:List SB) (nb:Nat):HO->Prop
 | .eff rd rh eff heff new=>Sound Γ P o I J nb rd rh eff heff new
 | _=>True
theorem vz6 {t:TypeId} {k:TI->HO} (h:∀ ti,mkTI P t=some ti->vlf Γ P o I J nb (k ti)):vlf Γ P o I J nb (vem P t k):=by
 unfold vem
 split
 . rename_i ti hti;exact h ti hti
 . trivial
theorem zgs {x:Option SV} (h:∀ v d,x=some v->o.dst=some d->vbd Γ P o I J (d::rd) rh [(d,v)] []):vlf Γ P o I J nb (vO o rd rh x):=by
 unfold vO
 split
 . split
   . rename_i d hd;exact h _ d rfl hd
   . trivial
 . trivial
theorem wld {x:SV} {b:SB} (h:∀ d J',o.dst=some d->(J'=J\/J'=J++[.fresh])->y4f J' nb=true->vbd Γ P o I J' (d::rd) (nb::rh) [(d,x)] (heff++[(nb,b)]))
 (hl:∀ p∈heff,p.1<J.length):vlf Γ P o I J nb (nO o rd rh x heff b):=by
 unfold nO
 split
 . rename_i d hd;refine ⟨fun hr=>h d J hd (.inl rfl) hr,fun e=>?_⟩;subst e;exact vjm.new (h d (J++[.fresh]) hd (.inr rfl) (xnc J)) hl
 . trivial
theorem xmb {α:Type} {l:List α} (h:isNil l=true):l=[]:=by cases l<;>first | rfl | cases h
theorem xbj:vlf Γ P o I J nb (oldO P I nb o):=by
 unfold oldO
 split
 case h_2=>trivial
 rename_i d hd
 split
 case isFalse=>trivial
 rename_i hc;unfold oldR
 split
 case h_2=>trivial
 rename_i rd tk d' av heq
 split
 case isFalse=>trivial
 rename_i hcc;simp only [Bool.and_eq_true,beq_iff_eq] at hcc;obtain ⟨htk,rfl⟩:=hcc;have htk:=xmb htk;subst htk
 split
 case h_2=>trivial
 rename_i x ob h2;have hst:=(ymz heq).1
 cases ob with
 | none=>exact w2a hc.1 hd hst hc.2 h2 rfl
 | some b=>
  refine ⟨fun hr=>w2a hc.1 hd hst hc.2 h2 hr,fun e=>?_⟩;subst e
  have:=w2a (Γ:=Γ) (J:=J++[.fresh]) (nb:=J.length) hc.1 hd hst hc.2 h2 (show wla (J++[.fresh]) J.length (some b)=true from xnc J)
  exact vjm.new (heff:=[]) this (by simp)
theorem wdu {d:Nat} (ho:o.op=.index T x y) (hdst:o.dst=some d) (hti:mkTI P T=some ti) (hs:ti.sh=.string) (h:x72 (opdS Γ I x) (opdS Γ I y)=some v) :
 vbd Γ P o I J (d::(orr x++orr y)) [] [(d,v)] []:=by
 refine vbd.pure hdst (fun E ρ I' J' a w hag hah hI=>?_);have hx:=hI.opd x;have hy:=hI.opd y;rw [hag.opd (fun t ht=>by simp [ht])] at hx hy;obtain ⟨dd,i,z,hd,_,_,_,_,_,_,_,hsh⟩:=(wgk hti).ex;have hT:=wbh (hsh.symm.trans hs);subst hT;unfold x72 at h;split at h
 . rename_i s k ix ex ey;split at h
   . rename_i hi
     cases h;rw [ex] at hx;rw [ey] at hy;have ex:a.eval x=.string s:=RdC.x18 hx;have ey:a.eval y=.int k ix:=RdC.x18 hy;refine ⟨_,?_,RdC.raw rfl⟩
     have hsz:ix.toNat<s.size:=by omega
     have hg:s[ix.toNat]? = some s[ix.toNat]:=by simp [hsz]
     have hb:yuk s ix.toNat=(s[ix.toNat]).toNat:=by
      unfold yuk
      have:s.data[ix.toNat]? = some s[ix.toNat]:=by
       rw [Array.getElem?_eq_getElem (by simpa using hsz)];rfl
      rw [this];rfl
     rw [hb];simp [execOp,ho,Instr.index,asIntOf,ex,ey,w9c hd,hi.1,hg]
   . cases h
 . cases h
theorem xji {x:SV} {i:Int} (h:intS x=some i):∃ k,x=.one (.dat (.raw (.int k i))):=by
 unfold intS at h;split at h
 . cases h;exact ⟨_,rfl⟩
 . cases h
theorem ynj:vlf Γ P o I J nb (opP P Γ I J nb o):=by
 unfold opP
 split
 . rename_i x ho;exact zgs (fun v d e hd=>by cases e;exact zcg (.inl ho) hd)
 . rename_i x ho;exact zgs (fun v d e hd=>by cases e;exact zcg (.inr ho) hd)
 . rename_i c x y ho
   split
   . rename_i v hv;exact zgs (fun v' d e hd=>by cases e;exact yux ho hd hv)
   . exact xbj
 . rename_i T x ho;refine vz6 (fun ti hti=>?_)
   split
   . rename_i rh hs hsee;exact zgs (fun v d e hd=>w7w ho hd hti hsee e)
   . trivial
 . rename_i T x y ho
   split
   . rename_i hd;refine vz6 (fun ti hti=>?_)
     split
     . rename_i us hu
       split
       . rename_i hl
         split
         . rename_i b z hst;exact xbl ho hd hti hu hl hst
         . trivial
       . trivial
     . trivial
   . trivial
 . rename_i S x f ho;refine vz6 (fun ti hti=>?_)
   split
   . rename_i fs hs
     split
     . rename_i off sz ft hf;exact zgs (fun v d e hd=>x8o ho hd hti hs hf e)
     . trivial
   . trivial
 . rename_i T x y ho;refine vz6 (fun ti hti=>?_)
   split
   . rename_i v hv;exact zgs (fun v' d e hd=>by cases e;exact yaf ho hd hti hv)
   . exact xbj
 . rename_i x n ho;exact zgs (fun v d e hd=>xqd ho hd e)
 . rename_i x ho
   split
   . rename_i hp;exact zgs (fun v d e hd=>by cases e;exact zk8 ho hd hp)
   . trivial
 . rename_i op T x y U ho
   split
   . exact zgs (fun v d e hd=>z9c ho hd e)
   . split
     . rename_i t ht
       split
       . rename_i j hj;exact zgs (fun v d e hd=>vrx ho hd (ylq ht) hj e)
       . trivial
     . trivial
   . exact xbj
 . exact xbj
 . exact xbj
 . rename_i T x lo hi mx ho
   split
   . split
     . exact vz6 (fun ti hti=>zgs (fun v d e hd=>z1i ho hd hti e))
     . trivial
   . exact xbj
 . rename_i T ps ho;refine vz6 (fun ti hti=>?_)
   split
   . rename_i hc;refine zgs (fun v d e hd=>?_);obtain ⟨hs,hf,rfl⟩:=Option.map_eq_some_iff.1 e;exact y49 (parts:=ps.toList) (by rw [ho]) hd hti hc.1 hc.2 hf
   . trivial
 . rename_i T x f ho;refine vz6 (fun ti hti=>?_)
   split
   . rename_i fs hs
     split
     . rename_i off sz ft hf;exact vz6 (fun tf htf=>zgs (fun v d e hd=>w5l ho hd hti hs hf htf e))
     . trivial
   . trivial
 . rename_i T x y ho;refine vz6 (fun ti hti=>?_)
   split
   . rename_i n e es hs;refine vz6 (fun te hte=>?_)
     split
     . rename_i ix hix
       split
       . rename_i hc;obtain ⟨k,hk⟩:=xji hix;exact zgs (fun v d e hd=>zdr ho hd hti hs hte hk hc.1 hc.2 e)
       . trivial
     . trivial
   . rename_i hs;exact zgs (fun v d e hd=>wdu ho hd hti hs e)
   . trivial
 . rename_i T x y ok ho;refine vz6 (fun ti hti=>?_)
   split
   . refine vz6 (fun tk htk=>?_)
     split
     . split
       . unfold wsi
         split<;>trivial
       . trivial
     . trivial
   . trivial
 . rename_i T x y z ho
   split
   . rename_i hd;refine vz6 (fun ti hti=>?_)
     split
     . rename_i kt et hs;refine vz6 (fun tk htk=>?_)
       split
       . rename_i b es k hm hk
         split
         . rename_i hc
           split
           . rename_i es' hu;exact vjc (.inl ho) hd hti hs htk hm hk hc.1 hc.2 hu
           . trivial
         . trivial
       . trivial
     . trivial
   . trivial
 . trivial
theorem vei (h:∀ b∈bs,y10 (gB J b)=true):∀ p∈frzE J bs,p.1<J.length:=fun p hp=>by
 obtain ⟨b,hb,rfl⟩:=List.mem_map.1 hp;exact xei (h b hb)
theorem xna {n:Nat} {zc : List Cell} {parts : List (Nat × Operand)} (h : litH Γ I J es ik zc n parts = some (c, bs)) : ∀ b ∈ bs, y10 (gB J b) = true := by
 unfold litH at h;split at h
 . split at h
   . split at h
     . rename_i cs bs' hd;obtain ⟨c',_,he⟩:=Option.map_eq_some_iff.1 h
       cases he;exact y93 hd
     . cases h
   . cases h
 . cases h
theorem vbv (h:xs.toList=[x]):xs=#[x]:=by rw [<-Array.toArray_toList (xs:=xs),h]
theorem xmc (h:xs.toList=[x,y]):xs=#[x,y]:=by rw [<-Array.toArray_toList (xs:=xs),h]
theorem v02 {x:TypeId} {xs:Array TypeId} (h:xs.toList=[x]):xs=#[x]:=by rw [<-Array.toArray_toList (xs:=xs),h]
theorem vh8 {x y:TypeId} {xs:Array TypeId} (h:xs.toList=[x,y]):xs=#[x,y]:=by rw [<-Array.toArray_toList (xs:=xs),h]
theorem wh2 {x:SV} {T:Option TypeId} (h:dstH J e es ik x=some (some b,c,k,T)):y10 (gB J b)=true:=by
 unfold dstH at h;split at h
 . split at h
   . rename_i hb;split at h
     . cases h;rw [hb];rfl
     . cases h
   . cases h
 . split at h<;>cases h
 . cases h
theorem v0c {x : SV} {ob : Option Nat} {T : Option TypeId} (h : dstH J e es ik x = some (ob, c, k, T)) (ha : ∀ b, ob = some b → gB J' b = gB J b) : dstH J' e es ik x = some (ob, c, k, T) := by
 unfold dstH at h ⊢;split at h
 . rename_i b es' n
   have e1:gB J' b=gB J b:=by
    split at h
    . split at h
      . cases h;exact ha b rfl
      . cases h
    . cases h
   simp only [e1];exact h
 . exact h
 . cases h
theorem x45 {x:SV} (h:srcH J x=some (c,bs)) (ha:∀ b∈bs,gB J' b=gB J b):srcH J' x=some (c,bs):=by
 unfold srcH at h ⊢;split at h
 . exact xm5 h ha
 . cases h
theorem v61 {x:SV} (h:srcH J x=some (c,bs)):∀ b∈bs,y10 (gB J b)=true:=by
 unfold srcH at h;split at h
 . exact wtq h
 . cases h
theorem x40 (he:J'=J\/J'=J++[.fresh]) (hb:y10 (gB J b)=true):gB J' b=gB J b:=by
 rcases he with rfl | rfl
 . rfl
 . exact v6d (xei hb)
theorem zj0 {lit fn:Bool}:vlf Γ P o I J nb (opH P Γ lit fn I J nb o):=by
 unfold opH
 split
 . rename_i T ho;exact vz6 (fun ti hti=>wld (fun d J' hd _ hr=>z6h ho hd hti hr) (by simp))
 . rename_i T x ho
   split
   . rename_i hs hcs;exact wld (fun d J' hd _ hr=>zej ho hd hcs hr) (by simp)
   . trivial
 . rename_i T n ps ho
   split
   . exact xbj
   . rename_i n;refine vz6 (fun ti hti=>?_)
     split
     . rename_i e es eb ik hsh;refine vz6 (fun te hte=>?_)
       split
       . rename_i c bs hl;have harr:=xna hl
         split
         . split
           . rename_i d hd;exact vnm (parts:=ps.toList) (by rw [ho]) hd hti hsh hte hl
           . trivial
         . refine wld (fun d J' hd he hr=>?_) (vei harr)
           have hg:∀ b∈bs,gB J' b=gB J b:=fun b hb=>x40 he (harr b hb)
           have:=zru (parts:=ps.toList) (nb:=nb) (by rw [ho]) hd hti hsh hte (yqw (I':=I) rfl hl hg) hr
           rw [zii hg] at this;exact this
       . trivial
     . trivial
 . rename_i T ho;exact wld (fun d J' hd _ hr=>y69 ho hd hr) (by simp)
 . rename_i f fs cs ho
   split
   . rename_i hfs
     have hfs':fs=#[]:=by rw [<-Array.toArray_toList (xs:=fs),hfs]
     subst hfs'
     split
     . split<;>trivial
     . split
       . rename_i hnt;exact wld (fun d J' hd _ hr=>ys4 (xs:=cs.toList) (by rw [ho]) hd hnt hr) (by simp)
       . trivial
   . trivial
 . rename_i S D x ho;unfold vj1
   split
   . rename_i e hS hD
     split
     . rename_i he
       split
       . rename_i l bs hb
         split
         . rename_i d hd;exact zcf ho hd hS he hD hb
         . trivial
       . trivial
     . trivial
   . rename_i t hS hD
     split
     . rename_i j b off T n hj hb
       split
       . rename_i hsz;exact zgs (fun v d e hd=>by cases e;exact zw8 ho hd hS hD hj (by simpa using hsz) hb)
       . trivial
     . trivial
   . rename_i u hS hD
     split
     . rename_i j b off T n hj hb
       split
       . rename_i hl;exact zgs (fun v d e hd=>by cases e;exact xyx ho hd hS hD hj hl hb)
       . trivial
     . trivial
   . exact xbj
 . rename_i c ho;obtain ⟨ce,args,ats⟩:=c;dsimp only
   split
   . rename_i x;unfold wds
     have hG:∀ f caps rd rh,vlf Γ P o I J nb (wds.callG Γ (wew lit fn) I J o args.toList f caps rd rh):=fun f caps rd rh=>by
      unfold wds.callG
      split
      . trivial
      . split<;>trivial
     split
     . rename_i f
       split
       . rename_i hne
         split
         . rename_i y hy
           have:=vbv hy
           subst this;exact zgs (fun v d e hd=>by cases e;exact zde ho hd hne)
         . trivial
       . exact hG _ _ _ _
     . split
       . split<;>trivial
       . split
         . exact hG _ _ _ _
         . trivial
     . trivial
   . rename_i b
     split
     . split
       . rename_i x T hx hT;have h1:=vbv hx;have h2:=v02 hT;subst h1;subst h2
         split
         . refine vz6 (fun ti hti=>?_)
           split
           . rename_i rh n hl;exact zgs (fun v d e hd=>by cases e;exact xlk ho hd hti hl)
           . trivial
         . exact xbj
       . trivial
     . split
       . rename_i x y T U hx hT;have h1:=xmc hx;have h2:=vh8 hT;subst h1;subst h2
         split
         . rename_i hTU;subst hTU;refine vz6 (fun ti hti=>?_)
           split
           . rename_i e es eb ik hsh;unfold opH.appO
             split
             . rename_i ob cc k TT cy bs hD hS
               split
               . rename_i c' hj
                 split
                 . rename_i hob;have harr:=v61 hS
                   have harrD:∀ b,ob=some b->y10 (gB J b)=true:=fun b e1=>by subst e1;exact wh2 hD
                   refine wld (fun d J' hd he hr=>?_) (fun p hp=>?_)
                   . have hg:∀ b∈bs,gB J' b=gB J b:=fun b hb=>x40 he (harr b hb)
                     have hA:wd0 J' nb e es eb ik (opdS Γ I x) (opdS Γ I y)=some (ob.toList++bs,frzE J' bs++(x03 ob++[(nb,.arr c' k (appT TT e))]),.one (.sl nb es 0 c'.cnt)):=by
                      unfold wd0;rw [v0c hD (fun b e1=>x40 he (harrD b e1)),x45 hS hg];simp only [hj,hob,if_true]
                     have:=w0n ho hd hti hsh hA hr
                     rw [zii hg,<-List.append_assoc] at this;exact this
                   . rcases List.mem_append.1 hp with hp | hp
                     . exact vei harr p hp
                     . cases ob with
                       | none=>cases hp
                       | some b=>
                        simp only [x03,List.mem_singleton] at hp;subst hp;exact xei (harrD b rfl)
                 . trivial
               . trivial
             . trivial
           . trivial
         . trivial
       . trivial
     . split
       . rename_i x hx;have h1:=vbv hx;subst h1;exact zgs (fun v d e hd=>z4z ho hd e)
       . trivial
     . split
       . rename_i x y pt it d hx hT hd;have h1:=xmc hx;have h2:=vh8 hT;subst h1;subst h2
         split
         . rename_i b l hu;exact s_us ho hd hu
         . trivial
       . trivial
     . split
       . rename_i x y T U d hx hT hd;have h1:=xmc hx;have h2:=vh8 hT;subst h1;subst h2
         split
         . rename_i hTU;subst hTU;refine vz6 (fun ti hti=>?_)
           split
           . rename_i e es eb ik hsh
             split
             . rename_i b z m rb hc;exact x1i ho hd hti hsh hc
             . trivial
           . trivial
         . trivial
       . trivial
     . exact xbj
     . exact xbj
     . trivial
   . trivial
 . exact ynj
end Go.Hp
