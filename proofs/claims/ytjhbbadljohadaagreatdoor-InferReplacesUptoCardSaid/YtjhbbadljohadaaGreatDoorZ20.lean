/- The proof, part Z20: Hm, Hn. -/
import Derived.Test.YtjhbbadljohadaaGreatDoorZ19
namespace Go.Hp
open Go Go.RowKit Go.Slot
variable {P:Program} {Γ:List (Nat×List Cell)}
def partH (off:Nat) (tf:TI):SV→Option SV
 | .agg hs=>loadHC tf (hs.drop off)
 | _=>none
theorem run_partH {T:TypeId} {tf:TI} (hok:TIok P T tf) {η:List SB} {ρ:Nat→Value} {M:Nat→Nat→Prop} {w:World} {vs:List Value} {hs:List HC} (hr:HRL η ρ M w vs hs) {off:Nat} {x:SV} (h:loadHC tf (hs.drop off)=some x) :
 ∃ v,(part T vs.toArray off).run P w=.ok v w∧SVR η ρ M w v x:=by
 obtain ⟨_,j,_,_,hj,_,hjs,_,_,_,_,_⟩:=hok.ex
 have hr':=hr.drop off
 unfold loadHC at h
 split at h
 · rename_i hm
   split at h
   · rename_i hle
     cases h
     refine ⟨.agg ((vs.drop off).take tf.size).toArray,?_,_,rfl,hr'.take _⟩
     simp [part,hok.run_agg hm,run_sizeOf' hj,hjs,List.extract_eq_take_drop]
   · cases h
 · rename_i hm
   split at h
   · rename_i c cs' hcs
     cases h
     rw [hcs] at hr'
     cases hv:vs.drop off with
     | nil=>rw [hv] at hr';exact hr'.elim
     | cons v0 vs'=>
      rw [hv] at hr'
      have hg:vs[off]? = some v0:=by
       have:=congrArg (fun l=>l[0]?) hv
       simpa using this
      exact ⟨v0,by simp [part,hok.run_agg hm,hg],hr'.1⟩
   · cases h
 · cases h
theorem s_field {o:Oper} {σ:List SV} {η:List SB} {T ft:TypeId} {x:Operand} {f d off sz:Nat} {fs:List (Nat×Nat×TypeId)} (ho:o.op=.field T x f) (hdst:o.dst=some d) {ti tf:TI} (hti:mkTI P T=some ti) (hs:ti.sh=.struct fs) (hf:fs[f]? = some (off,sz,ft)) (htf:mkTI P ft=some tf)
 {v:SV} (h:partH off tf (opdS Γ σ x)=some v):HStep Γ P o σ η (d::orr x) [] [(d,v)] []:=by
 refine HStep.pure hdst (fun E ρ σ' η' a w hag hah hI=>?_)
 have hx:=hI.opd x
 rw [hag.opd (fun t ht=>by simp [ht])] at hx
 obtain ⟨dd,i,z,hd,hi',hz,_,_,_,_,_,hsh⟩:=(mkTI_ok hti).ex
 obtain ⟨fl,rfl,rfl,_⟩:=shOf_struct (hsh.symm.trans hs)
 rw [List.getElem?_map] at hf
 obtain ⟨fd,hfd,hfe⟩:=Option.map_eq_some_iff.1 hf
 cases hfe
 have hfa:fl[f]? = some fd:=by simpa using hfd
 unfold partH at h
 split at h
 · rename_i hs' e
   rw [e] at hx
   obtain ⟨vs,hv,hr⟩:=hx
   obtain ⟨u,h1,h2⟩:=run_partH (mkTI_ok htf) hr h
   exact ⟨u,by simp [execOp,ho,Instr.field,asAgg,hv,run_underlying' hd,hfa,h1],h2⟩
 · cases h
theorem s_aidx {o:Oper} {σ:List SV} {η:List SB} {T e:TypeId} {x y:Operand} {d n es:Nat} {k:IntKind} {ix:Int} (ho:o.op=.index T x y) (hdst:o.dst=some d) {ti te:TI} (hti:mkTI P T=some ti) (hs:ti.sh=.array n e es) (hte:mkTI P e=some te)
 (hy:opdS Γ σ y=.one (.dat (.raw (.int k ix)))) (h0:0≤ix∧ix<n) (hes:es=te.size) {v:SV} (h:partH (ix.toNat*es) te (opdS Γ σ x)=some v):HStep Γ P o σ η (d::(orr x++orr y)) [] [(d,v)] []:=by
 refine HStep.pure hdst (fun E ρ σ' η' a w hag hah hI=>?_)
 have hx:=hI.opd x
 have hyr:=hI.opd y
 rw [hag.opd (fun t ht=>by simp [ht])] at hx hyr
 rw [hy] at hyr
 have ey:a.eval y=.int k ix:=RdC.raw_inv hyr
 obtain ⟨dd,i,z,hd,hi',hz,_,_,_,_,_,hsh⟩:=(mkTI_ok hti).ex
 obtain ⟨rfl,_⟩:=shOf_array (hsh.symm.trans hs)
 have hok:=mkTI_ok hte
 obtain ⟨_,j,_,_,hj,_,hjs,_,_,_,_,_⟩:=hok.ex
 unfold partH at h
 split at h
 · rename_i hs' ex
   rw [ex] at hx
   obtain ⟨vs,hv,hr⟩:=hx
   obtain ⟨u,h1,h2⟩:=run_partH hok hr h
   exact ⟨u,by simp [execOp,ho,Instr.index,asIntOf,hv,ey,run_underlying' hd,h0.1,h0.2,run_sizeOf' hj,hjs,←hes,h1],h2⟩
 · cases h
inductive HO where
 | eff (rd rh:List Nat) (eff:List (Nat×SV)) (heff:List (Nat×SB)) (new:Option SB)
 | callD (f:FuncId) (l:List AV) (rd rh bs:List Nat)
 | callF (p:(Nat→Nat→Prop)→World→Value→Prop) (l:List AV) (rd bs:List Nat)
 | callH (f:FuncId) (l:List SV) (rd:List Nat)
 | mk (f:FuncId) (caps:List AV) (rd bs:List Nat)
 | look (r:Option SV) (zero:SV) (ok:Bool) (rd rh:List Nat)
 | bad
def withT (P:Program) (t:TypeId) (k:TI→HO):HO:=match mkTI P t with
 | some ti=>k ti
 | none=>.bad
def vO (o:Oper) (rd rh:List Nat):Option SV→HO
 | some x=>match o.dst with
  | some d=>.eff (d::rd) rh [(d,x)] [] none
  | none=>.bad
 | none=>.bad
def nO (o:Oper) (rd rh:List Nat) (x:SV) (heff:List (Nat×SB)) (b:SB):HO:=match o.dst with
 | some d=>.eff (d::rd) rh [(d,x)] heff (some b)
 | none=>.bad
def isNil {α:Type}:List α→Bool
 | []=>true
 | _=>false
def oldR (d nb:Nat):OR→HO
 | .eff rd tk [(d',av)]=>if isNil tk&&d'==d then match av2 nb av with
  | some (x,ob)=>.eff rd [] [(d,x)] [] ob
  | none=>.bad
  else .bad
 | _=>.bad
def oldO (P:Program) (σ:List SV) (nb:Nat) (o:Oper):HO:=match o.dst with
 | some d=>if valOp o.op=true∧d<σ.length then oldR d nb (opA0 P (σ.map vw) o) else .bad
 | none=>.bad
def sidxS:SV→SV→Option SV
 | .one (.dat (.raw (.string s))),.one (.dat (.raw (.int _ i)))=>if 0≤i∧i<s.size then some (.one (.dat (.raw (.int .u8 (byteAt s i.toNat))))) else none
 | _,_=>none
def intS:SV→Option Int
 | .one (.dat (.raw (.int _ i)))=>some i
 | _=>none
inductive CK where
 | agg
 | ptr
 | other
def ckH:SV→SV→CK
 | .agg _,_=>.agg
 | .one (.ptr _ _),_=>.ptr
 | .one (.pel _ _ _ _),_=>.ptr
 | .elt _,_=>.ptr
 | .one (.dat (.raw (.pointer _))),_=>.ptr
 | _,_=>.other
def isSlH:SV→Bool
 | .one (.sl _ _ _ _)=>true
 | _=>false
def isRefH:SV→Bool
 | .one (.sl _ _ _ _)=>true
 | .one (.mp _)=>true
 | _=>false
def lookO (_o:Oper) (ok:Bool) (rd rh:List Nat):Option (Option SV)→Option SV→HO
 | some r,some z=>.look r z ok rd rh
 | _,_=>.bad
def opP (P:Program) (Γ:List (Nat×List Cell)) (σ:List SV) (η:List SB) (nb:Nat) (o:Oper):HO:=
 match o.op with
 | .move x=>vO o (orr x) [] (some (opdS Γ σ x))
 | .assign x=>vO o (orr x) [] (some (opdS Γ σ x))
 | .pick c x y=>match pickH (opdS Γ σ c) (opdS Γ σ x) (opdS Γ σ y) with
  | some v=>vO o (orr c++orr x++orr y) [] (some v)
  | none=>oldO P σ nb o
 | .load T x=>withT P T fun ti=>match seeH η (opdS Γ σ x) with
  | some (rh,hs)=>vO o (orr x) rh (loadHC ti hs)
  | none=>.bad
 | .store T x y=>match o.dst with
  | none=>withT P T fun ti=>match cellsH (opdS Γ σ y) with
   | some us=>if us.length=ti.size then match storeH η ti.size (opdS Γ σ x) us with
    | some (b,z)=>.eff (orr x++orr y) [b] [] [(b,z)] none
    | none=>.bad
    else .bad
   | none=>.bad
  | some _=>.bad
 | .fieldAddr S x f=>withT P S fun ti=>match ti.sh with
  | .struct fs=>match fs[f]? with
   | some (off,_,_)=>vO o (orr x) [] (fieldAddrH (opdS Γ σ x) off)
   | none=>.bad
  | _=>.bad
 | .indexAddr T x y=>withT P T fun ti=>match indexAddrH ti.sh (opdS Γ σ x) (opdS Γ σ y) with
  | some v=>vO o (orr x++orr y) [] (some v)
  | none=>oldO P σ nb o
 | .extract x n=>vO o (orr x) [] (extractH (opdS Γ σ x) n)
 | .nilCheck x=>if ptrH (opdS Γ σ x)=true then vO o (orr x) [] (some (opdS Γ σ x)) else .bad
 | .binOp op T x y _=>match ckH (opdS Γ σ x) (opdS Γ σ y) with
  | .agg=>vO o (orr x++orr y) [] (aggEqH P T op (opdS Γ σ x) (opdS Γ σ y))
  | .ptr=>match ptrElem P T with
   | some t=>match P.info? t with
    | some _=>vO o (orr x++orr y) [] (ptrEqH op (opdS Γ σ x) (opdS Γ σ y))
    | none=>.bad
   | none=>.bad
  | .other=>oldO P σ nb o
 | .unOp _ _ _=>oldO P σ nb o
 | .makeSlice _ _ _=>oldO P σ nb o
 | .slice T x lo hi mx=>match isSlH (opdS Γ σ x) with
  | true=>match mx with
   | none=>withT P T fun ti=>vO o (orr x++orrO lo++orrO hi) [] (sliceH Γ σ ti.sh (opdS Γ σ x) lo hi)
   | some _=>.bad
  | false=>oldO P σ nb o
 | .build T ps=>withT P T fun ti=>if arrOk ti=true∧ti.sh.agg=true then vO o (orrs ps.toList) [] ((fillH (placeOf ti.sh) (ti.zc.map .dat) (partsH Γ σ ps.toList)).map .agg) else .bad
 | .field T x f=>withT P T fun ti=>match ti.sh with
  | .struct fs=>match fs[f]? with
   | some (off,_,ft)=>withT P ft fun tf=>vO o (orr x) [] (partH off tf (opdS Γ σ x))
   | none=>.bad
  | _=>.bad
 | .index T x y=>withT P T fun ti=>match ti.sh with
  | .array n e es=>withT P e fun te=>match intS (opdS Γ σ y) with
   | some ix=>if (0≤ix∧ix<n)∧es=te.size then vO o (orr x++orr y) [] (partH (ix.toNat*es) te (opdS Γ σ x)) else .bad
   | none=>.bad
  | .string=>vO o (orr x++orr y) [] (sidxS (opdS Γ σ x) (opdS Γ σ y))
  | _=>.bad
 | .lookup T x y ok=>withT P T fun ti=>match ti.sh with
  | .map kt et=>withT P kt fun tk=>match mapAt η (opdS Γ σ x),keyV (opdS Γ σ y) with
   | some (b,es),some k=>if keyOk tk.sh k=true then lookO o ok (dstRd o++(orr x++orr y)) [b] (findM es k) (zeroSV P et) else .bad
   | _,_=>.bad
  | _=>.bad
 | .mapUpdate T x y z=>match o.dst with
  | none=>withT P T fun ti=>match ti.sh with
   | .map kt _=>withT P kt fun tk=>match mapAt η (opdS Γ σ x),keyV (opdS Γ σ y) with
    | some (b,es),some k=>if keyOk tk.sh k=true∧noTup (opdS Γ σ z)=true then match updM es k (opdS Γ σ z) with
     | some es'=>.eff (orr x++orr y++orr z) [b] [] [(b,.map es')] none
     | none=>.bad
     else .bad
    | _,_=>.bad
   | _=>.bad
  | some _=>.bad
 | _=>.bad
def convO (P:Program) (Γ:List (Nat×List Cell)) (σ:List SV) (η:List SB) (nb:Nat) (o:Oper) (S D:TypeId) (x:Operand):HO:=match P.underlying S,P.underlying D with
 | some (.slice e),some .string=>match P.underlying e with
  | some (.int .u8)=>match bytesH η (opdS Γ σ x) with
   | some (l,bs)=>match o.dst with
    | some d=>.eff (d::orr x) bs [(d,.one (.dat (.raw (.string (strOfNums l)))))] (frzE η bs) none
    | none=>.bad
   | none=>.bad
  | _=>.bad
 | some (.pointer t),some .unsafePointer=>match P.info? t,boxAt η (opdS Γ σ x) with
  | some j,some (b,off,_,_)=>if j.size != 0 then vO o (orr x) [b] (some (.one (.ptr b off))) else .bad
  | _,_=>.bad
 | some .unsafePointer,some (.pointer u)=>match P.info? u,boxAt η (opdS Γ σ x) with
  | some _,some (b,off,T,n)=>if liesAt P P.depth T (n / P.cellsOf T) off u 1 then vO o (orr x) [b] (some (.one (.ptr b off))) else .bad
  | _,_=>.bad
 | _,_=>oldO P σ nb o
def callO (P:Program) (Γ:List (Nat×List Cell)) (σ:List SV) (η:List SB) (o:Oper) (x:Operand) (xs:List Operand):HO:=match x with
 | .func f=>if isNoEsc P f=true then match xs with
  | [y]=>vO o (orr y) [] (some (opdS Γ σ y))
  | _=>.bad
  else callG f [] [] []
 | .tmp t=>match gtS σ t with
  | .one (.dat (.fnp p))=>match argsD η (argsH Γ σ xs) with
   | some (l,bs)=>.callF p l (dstRd o++t::orrL xs) bs
   | none=>.bad
  | _=>match calleeH Γ σ η (.tmp t) with
   | some (f,caps,rd,rh)=>callG f caps rd rh
   | none=>.bad
 | _=>.bad
where callG (f:FuncId) (caps:List SV) (rd rh:List Nat):HO:=match argsD η (argsH Γ σ xs++caps) with
 | some (l,bs)=>.callD f l (dstRd o++rd++orrL xs) rh bs
 | none=>match noTups (argsH Γ σ xs) with
  | true=>.callH f (argsH Γ σ xs++caps) (dstRd o++rd++orrL xs)
  | false=>.bad
def opH (P:Program) (Γ:List (Nat×List Cell)) (lit fn:Bool) (σ:List SV) (η:List SB) (nb:Nat) (o:Oper):HO:=
 match o.op with
 | .alloc T=>withT P T fun ti=>nO o [] [] (.one (.ptr nb 0)) [] (.box (ti.zc.map .dat) (some T))
 | .box T x=>match cellsH (opdS Γ σ x) with
  | some hs=>nO o (orr x) [] (.one (.ptr nb 0)) [] (.box hs (some T))
  | none=>.bad
 | .buildSlice T n ps=>match n with
  | 0=>oldO P σ nb o
  | n + 1 => withT P T fun ti => match ti.sh with
   | .slice e es _ ik=>withT P e fun te=>match litH Γ σ η es ik te.zc (n+1) ps.toList with
    | some (c,bs)=>match lit with
     | true=>match o.dst with
      | some d=>.eff (d::orrs ps.toList) bs [(d,.one (.dat c))] (frzE η bs) none
      | none=>.bad
     | false=>nO o (orrs ps.toList) bs (.one (.sl nb es 0 (n+1))) (frzE η bs) (.arr c 0 (some e))
    | none=>.bad
   | _=>.bad
 | .makeMap _ none=>nO o [] [] (.one (.mp nb)) [] (.map [])
 | .makeFunc (.func f) fs cs=>match fs.toList with
  | []=>match fn with
   | true=>match argsD η (argsH Γ σ cs.toList),o.dst with
    | some (l,bs),some d=>.mk f l (d::orrL cs.toList) bs
    | _,_=>.bad
   | false=>match noTups (argsH Γ σ cs.toList) with
    | true=>nO o (orrL cs.toList) [] (.one (.fnr nb)) [] (.clo f (argsH Γ σ cs.toList))
    | false=>.bad
  | _=>.bad
 | .convert S D x=>convO P Γ σ η nb o S D x
 | .call c => match c.callee with
  | .value x=>callO P Γ σ η o x c.args.toList
  | .builtin b=>match b with
   | .len=>match c.args.toList,c.argTypes.toList with
    | [x],[T]=>match isRefH (opdS Γ σ x) with
     | true=>withT P T fun ti=>match lenH η ti.sh (opdS Γ σ x) with
      | some (rh,n)=>vO o (orr x) rh (some (.one (.dat (.raw (.int .i64 (n:Int))))))
      | none=>.bad
     | false=>oldO P σ nb o
    | _,_=>.bad
   | .append=>match c.args.toList,c.argTypes.toList with
    | [x,y],[T,U]=>if T=U then withT P T fun ti=>match ti.sh with
     | .slice e es eb ik=>appO (opdS Γ σ x) (opdS Γ σ y) (orr x++orr y) e es eb ik
     | _=>.bad
     else .bad
    | _,_=>.bad
   | .unsafeSliceData=>match c.args.toList with
    | [x]=>vO o (orr x) [] (usdH (opdS Γ σ x))
    | _=>.bad
   | .unsafeString=>match c.args.toList,c.argTypes.toList,o.dst with
    | [x,y],[pt,_],some d=>match usH P η pt (opdS Γ σ x) (opdS Γ σ y) with
     | some (b,l)=>.eff (d::(orr x++orr y)) [b] [(d,.one (.dat (.raw (.string (strOfNums l)))))] [(b,.dead)] none
     | none=>.bad
    | _,_,_=>.bad
   | .max=>oldO P σ nb o
   | .min=>oldO P σ nb o
   | _=>.bad
  | _=>.bad
 | _=>opP P Γ σ η nb o
where appO (x y:SV) (rd:List Nat) (e:TypeId) (es eb:Nat) (ik:Option IntKind):HO:=match dstH η e es ik x,srcH η y with
 | some (ob,c,k,T),some (cy,bs)=>match joinC es eb ik c cy with
  | some c'=>if bs.all (fun i=>ob != some i) then nO o rd (ob.toList++bs) (.one (.sl nb es 0 c'.cnt)) (frzE η bs++killE ob) (.arr c' k (appT T e)) else .bad
  | none=>.bad
 | _,_=>.bad
end Go.Hp

namespace Go.Hp
open Go Go.RowKit Go.Slot
variable {P:Program} {Γ:List (Nat×List Cell)}
theorem gB_app {η l:List SB} {b:Nat} (h:b<η.length):gB (η++l) b=gB η b:=by
 unfold gB;rw [List.getElem?_append_left h]
theorem isArr_lt {η:List SB} {b:Nat} (h:isArr (gB η b)=true):b<η.length:=by
 rcases Nat.lt_or_ge b η.length with h1 | h1
 · exact h1
 · unfold gB at h;rw [List.getElem?_eq_none h1] at h;cases h
theorem appL_push:∀(heff:List (Nat×SB)) (η:List SB) (x:SB),(∀ p∈heff,p.1<η.length)→appL (heff++[(η.length,x)]) (η++[.fresh])=appL heff η++[x]
 | [],η,x,_=>by simp [appL]
 | (i,y)::r,η,x,h=>by
  have hi:i<η.length:=h (i,y) (by simp)
  simp only [List.cons_append,appL]
  rw [List.set_append_left _ _ hi]
  have:=appL_push r (η.set i y) x (fun p hp=>by rw [List.length_set];exact h p (by simp [hp]))
  rw [List.length_set] at this
  exact this
theorem roomB_push (η:List SB):roomB (η++[.fresh]) η.length=true:=by simp [roomB]
theorem PStep.new {o:Oper} {σ:List SV} {η:List SB} {rd rh:List Nat} {eff:List (Nat×SV)} {heff:List (Nat×SB)} {x:SB} (h:HStep Γ P o σ (η++[.fresh]) rd rh eff (heff++[(η.length,x)])) (hl:∀ p∈heff,p.1<η.length) :
 PStep Γ P o σ η (appL eff σ) (appL heff η++[x]):=by
 have:=h.px
 rw [appL_push heff η x hl] at this
 exact this
def Sound (Γ:List (Nat×List Cell)) (P:Program) (o:Oper) (σ:List SV) (η:List SB) (nb:Nat) (rd rh:List Nat) (eff:List (Nat×SV)) (heff:List (Nat×SB)):Option SB→Prop
 | none=>HStep Γ P o σ η rd rh eff heff
 | some x=>(roomB η nb=true→HStep Γ P o σ η rd (nb::rh) eff (heff++[(nb,x)]))∧(nb=η.length→PStep Γ P o σ η (appL eff σ) (appL heff η++[x]))
def SoundO (Γ:List (Nat×List Cell)) (P:Program) (o:Oper) (σ:List SV) (η:List SB) (nb:Nat):HO→Prop
 | .eff rd rh eff heff new=>Sound Γ P o σ η nb rd rh eff heff new
 | _=>True
theorem sound_withT {o:Oper} {σ:List SV} {η:List SB} {nb:Nat} {t:TypeId} {k:TI→HO} (h:∀ ti,mkTI P t=some ti→SoundO Γ P o σ η nb (k ti)):SoundO Γ P o σ η nb (withT P t k):=by
 unfold withT
 split
 · rename_i ti hti;exact h ti hti
 · trivial
theorem sound_vO {o:Oper} {σ:List SV} {η:List SB} {nb:Nat} {rd rh:List Nat} {x:Option SV} (h:∀ v d,x=some v→o.dst=some d→HStep Γ P o σ η (d::rd) rh [(d,v)] []):SoundO Γ P o σ η nb (vO o rd rh x):=by
 unfold vO
 split
 · split
   · rename_i d hd;exact h _ d rfl hd
   · trivial
 · trivial
theorem sound_nO {o:Oper} {σ:List SV} {η:List SB} {nb:Nat} {rd rh:List Nat} {x:SV} {heff:List (Nat×SB)} {b:SB} (h:∀ d η',o.dst=some d→(η'=η∨η'=η++[.fresh])→roomB η' nb=true→HStep Γ P o σ η' (d::rd) (nb::rh) [(d,x)] (heff++[(nb,b)]))
 (hl:∀ p∈heff,p.1<η.length):SoundO Γ P o σ η nb (nO o rd rh x heff b):=by
 unfold nO
 split
 · rename_i d hd
   refine ⟨fun hr=>h d η hd (.inl rfl) hr,fun e=>?_⟩
   subst e
   exact PStep.new (h d (η++[.fresh]) hd (.inr rfl) (roomB_push η)) hl
 · trivial
theorem isNil_eq {α:Type} {l:List α} (h:isNil l=true):l=[]:=by cases l<;>first | rfl | cases h
theorem sound_old {o:Oper} {σ:List SV} {η:List SB} {nb:Nat}:SoundO Γ P o σ η nb (oldO P σ nb o):=by
 unfold oldO
 split
 case h_2=>trivial
 rename_i d hd
 split
 case isFalse=>trivial
 rename_i hc
 unfold oldR
 split
 case h_2=>trivial
 rename_i rd tk d' av heq
 split
 case isFalse=>trivial
 rename_i hcc
 simp only [Bool.and_eq_true,beq_iff_eq] at hcc
 obtain ⟨htk,rfl⟩:=hcc
 have htk:=isNil_eq htk
 subst htk
 split
 case h_2=>trivial
 rename_i x ob h2
 have hst:=(opA0_eff heq).1
 cases ob with
 | none=>exact s_old hc.1 hd hst hc.2 h2 rfl
 | some b=>
  refine ⟨fun hr=>s_old hc.1 hd hst hc.2 h2 hr,fun e=>?_⟩
  subst e
  have:=s_old (Γ:=Γ) (η:=η++[.fresh]) (nb:=η.length) hc.1 hd hst hc.2 h2 (show roomO (η++[.fresh]) η.length (some b)=true from roomB_push η)
  exact PStep.new (heff:=[]) this (by simp)
theorem s_sidx {o:Oper} {σ:List SV} {η:List SB} {T:TypeId} {x y:Operand} {d:Nat} (ho:o.op=.index T x y) (hdst:o.dst=some d) {ti:TI} (hti:mkTI P T=some ti) (hs:ti.sh=.string) {v:SV} (h:sidxS (opdS Γ σ x) (opdS Γ σ y)=some v) :
 HStep Γ P o σ η (d::(orr x++orr y)) [] [(d,v)] []:=by
 refine HStep.pure hdst (fun E ρ σ' η' a w hag hah hI=>?_)
 have hx:=hI.opd x
 have hy:=hI.opd y
 rw [hag.opd (fun t ht=>by simp [ht])] at hx hy
 obtain ⟨dd,i,z,hd,_,_,_,_,_,_,_,hsh⟩:=(mkTI_ok hti).ex
 have hT:=shOf_string (hsh.symm.trans hs)
 subst hT
 unfold sidxS at h
 split at h
 · rename_i s k ix ex ey
   split at h
   · rename_i hi
     cases h
     rw [ex] at hx
     rw [ey] at hy
     have ex:a.eval x=.string s:=RdC.raw_inv hx
     have ey:a.eval y=.int k ix:=RdC.raw_inv hy
     refine ⟨_,?_,RdC.raw rfl⟩
     have hsz:ix.toNat<s.size:=by omega
     have hg:s[ix.toNat]? = some s[ix.toNat]:=by simp [hsz]
     have hb:byteAt s ix.toNat=(s[ix.toNat]).toNat:=by
      unfold byteAt
      have:s.data[ix.toNat]? = some s[ix.toNat]:=by
       rw [Array.getElem?_eq_getElem (by simpa using hsz)];rfl
      rw [this];rfl
     rw [hb]
     simp [execOp,ho,Instr.index,asIntOf,ex,ey,run_underlying' hd,hi.1,hg]
   · cases h
 · cases h
theorem intS_eq {x:SV} {i:Int} (h:intS x=some i):∃ k,x=.one (.dat (.raw (.int k i))):=by
 unfold intS at h
 split at h
 · cases h;exact ⟨_,rfl⟩
 · cases h
theorem sound_opP {o:Oper} {σ:List SV} {η:List SB} {nb:Nat}:SoundO Γ P o σ η nb (opP P Γ σ η nb o):=by
 unfold opP
 split
 · rename_i x ho;exact sound_vO (fun v d e hd=>by cases e;exact s_move (.inl ho) hd)
 · rename_i x ho;exact sound_vO (fun v d e hd=>by cases e;exact s_move (.inr ho) hd)
 · rename_i c x y ho
   split
   · rename_i v hv;exact sound_vO (fun v' d e hd=>by cases e;exact s_pick ho hd hv)
   · exact sound_old
 · rename_i T x ho
   refine sound_withT (fun ti hti=>?_)
   split
   · rename_i rh hs hsee;exact sound_vO (fun v d e hd=>s_load ho hd hti hsee e)
   · trivial
 · rename_i T x y ho
   split
   · rename_i hd
     refine sound_withT (fun ti hti=>?_)
     split
     · rename_i us hu
       split
       · rename_i hl
         split
         · rename_i b z hst;exact s_store ho hd hti hu hl hst
         · trivial
       · trivial
     · trivial
   · trivial
 · rename_i S x f ho
   refine sound_withT (fun ti hti=>?_)
   split
   · rename_i fs hs
     split
     · rename_i off sz ft hf;exact sound_vO (fun v d e hd=>s_fieldAddr ho hd hti hs hf e)
     · trivial
   · trivial
 · rename_i T x y ho
   refine sound_withT (fun ti hti=>?_)
   split
   · rename_i v hv;exact sound_vO (fun v' d e hd=>by cases e;exact s_indexAddr ho hd hti hv)
   · exact sound_old
 · rename_i x n ho;exact sound_vO (fun v d e hd=>s_extract ho hd e)
 · rename_i x ho
   split
   · rename_i hp;exact sound_vO (fun v d e hd=>by cases e;exact s_nilCheck ho hd hp)
   · trivial
 · rename_i op T x y U ho
   split
   · exact sound_vO (fun v d e hd=>s_aggEq ho hd e)
   · split
     · rename_i t ht
       split
       · rename_i j hj;exact sound_vO (fun v d e hd=>s_ptrEq ho hd (ptrElem_eq ht) hj e)
       · trivial
     · trivial
   · exact sound_old
 · exact sound_old
 · exact sound_old
 · rename_i T x lo hi mx ho
   split
   · split
     · exact sound_withT (fun ti hti=>sound_vO (fun v d e hd=>s_slice ho hd hti e))
     · trivial
   · exact sound_old
 · rename_i T ps ho
   refine sound_withT (fun ti hti=>?_)
   split
   · rename_i hc
     refine sound_vO (fun v d e hd=>?_)
     obtain ⟨hs,hf,rfl⟩:=Option.map_eq_some_iff.1 e
     exact s_build (parts:=ps.toList) (by rw [ho]) hd hti hc.1 hc.2 hf
   · trivial
 · rename_i T x f ho
   refine sound_withT (fun ti hti=>?_)
   split
   · rename_i fs hs
     split
     · rename_i off sz ft hf;exact sound_withT (fun tf htf=>sound_vO (fun v d e hd=>s_field ho hd hti hs hf htf e))
     · trivial
   · trivial
 · rename_i T x y ho
   refine sound_withT (fun ti hti=>?_)
   split
   · rename_i n e es hs
     refine sound_withT (fun te hte=>?_)
     split
     · rename_i ix hix
       split
       · rename_i hc
         obtain ⟨k,hk⟩:=intS_eq hix
         exact sound_vO (fun v d e hd=>s_aidx ho hd hti hs hte hk hc.1 hc.2 e)
       · trivial
     · trivial
   · rename_i hs;exact sound_vO (fun v d e hd=>s_sidx ho hd hti hs e)
   · trivial
 · rename_i T x y ok ho
   refine sound_withT (fun ti hti=>?_)
   split
   · refine sound_withT (fun tk htk=>?_)
     split
     · split
       · unfold lookO
         split<;>trivial
       · trivial
     · trivial
   · trivial
 · rename_i T x y z ho
   split
   · rename_i hd
     refine sound_withT (fun ti hti=>?_)
     split
     · rename_i kt et hs
       refine sound_withT (fun tk htk=>?_)
       split
       · rename_i b es k hm hk
         split
         · rename_i hc
           split
           · rename_i es' hu;exact s_mapUpdate (.inl ho) hd hti hs htk hm hk hc.1 hc.2 hu
           · trivial
         · trivial
       · trivial
     · trivial
   · trivial
 · trivial
theorem frzE_lt {η:List SB} {bs:List Nat} (h:∀ b∈bs,isArr (gB η b)=true):∀ p∈frzE η bs,p.1<η.length:=fun p hp=>by
 obtain ⟨b,hb,rfl⟩:=List.mem_map.1 hp
 exact isArr_lt (h b hb)
theorem litH_arr {σ : List SV} {η : List SB} {es n : Nat} {ik : Option IntKind} {zc : List Cell} {parts : List (Nat × Operand)} {c : Cell} {bs : List Nat} (h : litH Γ σ η es ik zc n parts = some (c, bs)) : ∀ b ∈ bs, isArr (gB η b) = true := by
 unfold litH at h
 split at h
 · split at h
   · split at h
     · rename_i cs bs' hd
       obtain ⟨c',_,he⟩:=Option.map_eq_some_iff.1 h
       cases he
       exact toDatL_arr hd
     · cases h
   · cases h
 · cases h
theorem toOne {x:Operand} {xs:Array Operand} (h:xs.toList=[x]):xs=#[x]:=by rw [←Array.toArray_toList (xs:=xs),h]
theorem toTwo {x y:Operand} {xs:Array Operand} (h:xs.toList=[x,y]):xs=#[x,y]:=by rw [←Array.toArray_toList (xs:=xs),h]
theorem toOneT {x:TypeId} {xs:Array TypeId} (h:xs.toList=[x]):xs=#[x]:=by rw [←Array.toArray_toList (xs:=xs),h]
theorem toTwoT {x y:TypeId} {xs:Array TypeId} (h:xs.toList=[x,y]):xs=#[x,y]:=by rw [←Array.toArray_toList (xs:=xs),h]
theorem dstH_isArr {η:List SB} {e:TypeId} {es:Nat} {ik:Option IntKind} {x:SV} {b:Nat} {c:Cell} {k:Nat} {T:Option TypeId} (h:dstH η e es ik x=some (some b,c,k,T)):isArr (gB η b)=true:=by
 unfold dstH at h
 split at h
 · split at h
   · rename_i hb
     split at h
     · cases h;rw [hb];rfl
     · cases h
   · cases h
 · split at h<;>cases h
 · cases h
theorem dstH_congr {η η' : List SB} {e : TypeId} {es : Nat} {ik : Option IntKind} {x : SV} {ob : Option Nat} {c : Cell} {k : Nat} {T : Option TypeId} (h : dstH η e es ik x = some (ob, c, k, T)) (ha : ∀ b, ob = some b → gB η' b = gB η b) : dstH η' e es ik x = some (ob, c, k, T) := by
 unfold dstH at h ⊢
 split at h
 · rename_i b es' n
   have e1:gB η' b=gB η b:=by
    split at h
    · split at h
      · cases h;exact ha b rfl
      · cases h
    · cases h
   simp only [e1];exact h
 · exact h
 · cases h
theorem srcH_congr {η η':List SB} {x:SV} {c:Cell} {bs:List Nat} (h:srcH η x=some (c,bs)) (ha:∀ b∈bs,gB η' b=gB η b):srcH η' x=some (c,bs):=by
 unfold srcH at h ⊢
 split at h
 · exact toDat_congr h ha
 · cases h
theorem srcH_arr {η:List SB} {x:SV} {c:Cell} {bs:List Nat} (h:srcH η x=some (c,bs)):∀ b∈bs,isArr (gB η b)=true:=by
 unfold srcH at h
 split at h
 · exact toDat_arr h
 · cases h
theorem gB_or {η η':List SB} (he:η'=η∨η'=η++[.fresh]) {b:Nat} (hb:isArr (gB η b)=true):gB η' b=gB η b:=by
 rcases he with rfl | rfl
 · rfl
 · exact gB_app (isArr_lt hb)
theorem sound_opH {lit fn:Bool} {o:Oper} {σ:List SV} {η:List SB} {nb:Nat}:SoundO Γ P o σ η nb (opH P Γ lit fn σ η nb o):=by
 unfold opH
 split
 · rename_i T ho
   exact sound_withT (fun ti hti=>sound_nO (fun d η' hd _ hr=>s_alloc ho hd hti hr) (by simp))
 · rename_i T x ho
   split
   · rename_i hs hcs;exact sound_nO (fun d η' hd _ hr=>s_box ho hd hcs hr) (by simp)
   · trivial
 · rename_i T n ps ho
   split
   · exact sound_old
   · rename_i n
     refine sound_withT (fun ti hti=>?_)
     split
     · rename_i e es eb ik hsh
       refine sound_withT (fun te hte=>?_)
       split
       · rename_i c bs hl
         have harr:=litH_arr hl
         split
         · split
           · rename_i d hd;exact s_litD (parts:=ps.toList) (by rw [ho]) hd hti hsh hte hl
           · trivial
         · refine sound_nO (fun d η' hd he hr=>?_) (frzE_lt harr)
           have hg:∀ b∈bs,gB η' b=gB η b:=fun b hb=>gB_or he (harr b hb)
           have:=s_lit (parts:=ps.toList) (nb:=nb) (by rw [ho]) hd hti hsh hte (litH_congr (σ':=σ) rfl hl hg) hr
           rw [frzE_congr hg] at this
           exact this
       · trivial
     · trivial
 · rename_i T ho;exact sound_nO (fun d η' hd _ hr=>s_makeMap ho hd hr) (by simp)
 · rename_i f fs cs ho
   split
   · rename_i hfs
     have hfs':fs=#[]:=by rw [←Array.toArray_toList (xs:=fs),hfs]
     subst hfs'
     split
     · split<;>trivial
     · split
       · rename_i hnt;exact sound_nO (fun d η' hd _ hr=>s_clo (xs:=cs.toList) (by rw [ho]) hd hnt hr) (by simp)
       · trivial
   · trivial
 · rename_i S D x ho
   unfold convO
   split
   · rename_i e hS hD
     split
     · rename_i he
       split
       · rename_i l bs hb
         split
         · rename_i d hd;exact s_bytesStr ho hd hS he hD hb
         · trivial
       · trivial
     · trivial
   · rename_i t hS hD
     split
     · rename_i j b off T n hj hb
       split
       · rename_i hsz;exact sound_vO (fun v d e hd=>by cases e;exact s_toUnsafe ho hd hS hD hj (by simpa using hsz) hb)
       · trivial
     · trivial
   · rename_i u hS hD
     split
     · rename_i j b off T n hj hb
       split
       · rename_i hl;exact sound_vO (fun v d e hd=>by cases e;exact s_fromUnsafe ho hd hS hD hj hl hb)
       · trivial
     · trivial
   · exact sound_old
 · rename_i c ho
   obtain ⟨ce,args,ats⟩:=c
   dsimp only
   split
   · rename_i x
     unfold callO
     have hG:∀ f caps rd rh,SoundO Γ P o σ η nb (callO.callG Γ σ η o args.toList f caps rd rh):=fun f caps rd rh=>by
      unfold callO.callG
      split
      · trivial
      · split<;>trivial
     split
     · rename_i f
       split
       · rename_i hne
         split
         · rename_i y hy
           have:=toOne hy
           subst this
           exact sound_vO (fun v d e hd=>by cases e;exact s_noEsc ho hd hne)
         · trivial
       · exact hG _ _ _ _
     · split
       · split<;>trivial
       · split
         · exact hG _ _ _ _
         · trivial
     · trivial
   · rename_i b
     split
     · split
       · rename_i x T hx hT
         have h1:=toOne hx
         have h2:=toOneT hT
         subst h1;subst h2
         split
         · refine sound_withT (fun ti hti=>?_)
           split
           · rename_i rh n hl;exact sound_vO (fun v d e hd=>by cases e;exact s_len ho hd hti hl)
           · trivial
         · exact sound_old
       · trivial
     · split
       · rename_i x y T U hx hT
         have h1:=toTwo hx
         have h2:=toTwoT hT
         subst h1;subst h2
         split
         · rename_i hTU
           subst hTU
           refine sound_withT (fun ti hti=>?_)
           split
           · rename_i e es eb ik hsh
             unfold opH.appO
             split
             · rename_i ob cc k TT cy bs hD hS
               split
               · rename_i c' hj
                 split
                 · rename_i hob
                   have harr:=srcH_arr hS
                   have harrD:∀ b,ob=some b→isArr (gB η b)=true:=fun b e1=>by subst e1;exact dstH_isArr hD
                   refine sound_nO (fun d η' hd he hr=>?_) (fun p hp=>?_)
                   · have hg:∀ b∈bs,gB η' b=gB η b:=fun b hb=>gB_or he (harr b hb)
                     have hA:appendH η' nb e es eb ik (opdS Γ σ x) (opdS Γ σ y)=some (ob.toList++bs,frzE η' bs++(killE ob++[(nb,.arr c' k (appT TT e))]),.one (.sl nb es 0 c'.cnt)):=by
                      unfold appendH
                      rw [dstH_congr hD (fun b e1=>gB_or he (harrD b e1)),srcH_congr hS hg]
                      simp only [hj,hob,if_true]
                     have:=s_append ho hd hti hsh hA hr
                     rw [frzE_congr hg,←List.append_assoc] at this
                     exact this
                   · rcases List.mem_append.1 hp with hp | hp
                     · exact frzE_lt harr p hp
                     · cases ob with
                       | none=>cases hp
                       | some b=>
                        simp only [killE,List.mem_singleton] at hp
                        subst hp
                        exact isArr_lt (harrD b rfl)
                 · trivial
               · trivial
             · trivial
           · trivial
         · trivial
       · trivial
     · split
       · rename_i x hx
         have h1:=toOne hx
         subst h1
         exact sound_vO (fun v d e hd=>s_usd ho hd e)
       · trivial
     · split
       · rename_i x y pt it d hx hT hd
         have h1:=toTwo hx
         have h2:=toTwoT hT
         subst h1;subst h2
         split
         · rename_i b l hu;exact s_us ho hd hu
         · trivial
       · trivial
     · exact sound_old
     · exact sound_old
     · trivial
   · trivial
 · exact sound_opP
end Go.Hp
