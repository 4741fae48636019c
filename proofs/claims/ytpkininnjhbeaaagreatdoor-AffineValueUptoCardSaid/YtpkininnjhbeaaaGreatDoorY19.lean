import Derived.Test.YtpkininnjhbeaaaGreatDoorY17
import Derived.Test.YtpkininnjhbeaaaGreatDoorY18
namespace Go.Hp
open Go Go.RowKit Go.Slot
variable {P:Program} {Γ:List (Nat×List Cell)}
variable {T:TypeId} {x:Operand} {v:Value} {w:World}
def v6u:SV->SV->Option (Value×Value)
 | .one (.dat (.raw a)),.one (.dat (.raw b))=>some (a,b)
 | _,_=>none
def rawS:SV->Option Value
 | .one (.dat (.raw a))=>some a
 | _=>none
theorem zz1 {o:Oper} {I:List SV} {J:List SB} {op:BinOp} {U:TypeId} {y:Operand} {d:Nat} (ho:o.op=.binOp op T x y U) (hdst:o.dst=some d) {p q:Value} (hx:v6u (opdS Γ I x) (opdS Γ I y)=some (p,q)) (hab:abin op p q=some v) :
 vbd Γ P o I J (d::(orr x++orr y)) [] [(d,.one (.dat (.raw v)))] []:=by
 have hxy:opdS Γ I x=.one (.dat (.raw p))/\opdS Γ I y=.one (.dat (.raw q)):=by
  unfold v6u at hx;split at hx
  . rename_i a b h1 h2;cases hx;exact ⟨h1,h2⟩
  . cases hx
 refine vbd.pure hdst (fun E ρ I' J' a w hag hah hI=>⟨v,?_,RdC.raw (xy5 hab)⟩);have sx:=hI.opd x;have sy:=hI.opd y;rw [hag.opd (fun t ht=>by simp [ht]),hxy.1] at sx;rw [hag.opd (fun t ht=>by simp [ht]),hxy.2] at sy;have ex:a.eval x=p:=RdC.x18 sx;have ey:a.eval y=q:=RdC.x18 sy;simp [execOp,ho,ex,ey,xn9 hab,vau hab]
theorem s_un {o:Oper} {I:List SV} {J:List SB} {op:UnOp} {d:Nat} (ho:o.op=.unOp op T x) (hdst:o.dst=some d) {p:Value} (hx:rawS (opdS Γ I x)=some p) (hab:aun op p=some v) :
 vbd Γ P o I J (d::orr x) [] [(d,.one (.dat (.raw v)))] []:=by
 have hxx:opdS Γ I x=.one (.dat (.raw p)):=by
  unfold rawS at hx;split at hx
  . rename_i a h1;cases hx;exact h1
  . cases hx
 have hone:v.oneCell'=true:=by unfold aun at hab;split at hab<;>first | (cases hab;rfl) | cases hab
 refine vbd.pure hdst (fun E ρ I' J' a w hag hah hI=>⟨v,?_,RdC.raw hone⟩);have sx:=hI.opd x;rw [hag.opd (fun t ht=>by simp [ht]),hxx] at sx;have ex:a.eval x=p:=RdC.x18 sx;unfold aun at hab;split at hab
 . cases hab;simp [execOp,ho,ex,Op.unary,Op.intArith]
 . cases hab;simp [execOp,ho,ex,Op.unary]
 . cases hab
theorem v8u {o:Oper} {I:List SV} {J:List SB} {d:Nat} (ho:o.op=.call { callee:=.builtin .len,args:=#[x],argTypes:=#[T] }) (hdst:o.dst=some d) {ti:TI} (hti:mkTI P T=some ti) {c:Cell} {n:Nat}
 (hx:opdS Γ I x=.one (.dat c)) (hok:zps ti c=true) (hl:lenC c=some n):vbd Γ P o I J (d::orr x) [] [(d,.one (.dat (.raw (.int .i64 (n:Int)))))] []:=by
 refine vbd.pure hdst (fun E ρ I' J' a w hag hah hI=>⟨_,?_,RdC.raw rfl⟩);have sx:=hI.opd x;rw [hag.opd (fun t ht=>by simp [ht]),hx] at sx;have hti':=wgk hti;have hrd:RdT (MX E.Mo ρ J') w (fun _=>⟨Go.undef,0⟩) (a.eval x) c:=RdT.of sx
 have key:(Builtin.len_ #[T] o.type #[a.eval x]).run P w=.ok (.int .i64 n) w:=by
  rcases hrd.len hl with ⟨ad,cap,hv,hns⟩ | ⟨s,rfl,hv,rfl⟩
  . rw [hv]
    have:∃ e es eb ik,ti.sh=.slice e es eb ik:=by
     unfold zps at hok;split at hok
     . exact absurd rfl (hns _)
     . split at hok
       . rename_i h;exact ⟨_,_,_,_,h⟩
       . cases hok
    obtain ⟨e,es,eb,ik,hsh⟩:=this;exact Slot.run_len_slice hti' hsh _ _ _ _ w
  . rw [hv]
    have hsh:ti.sh=.string:=by
     simp only [zps] at hok;split at hok
     . assumption
     . cases hok
    obtain ⟨dd,i,z,hd,hi,hz,_,_,_,_,_,hsh'⟩:=hti'.ex
    have:=wbh (hsh'.symm.trans hsh)
    subst this;simp [Builtin.len_,w9c hd,goInt]
 rw [zs6 ho,show (#[x]:Array Operand).map a.eval=#[a.eval x] from by simp]
 have:∀ cs,(builtin .len #[T] o.type cs #[a.eval x]).run P w=.ok (.value (.int .i64 n)) w:=fun cs=>by
  simp only [builtin,Sem.run_bind,key];rfl
 exact this _
section
variable (P:Program) (Γ:List (Nat×List Cell)) (lit fn:Bool) (I:List SV) (J:List SB) (nb:Nat) (o:Oper)
def zqg (x:Operand):HO:=vO o (orr x) [] (some (opdS Γ I x))
def xzg (c x y:Operand):HO:=match vby (opdS Γ I c) (opdS Γ I x) (opdS Γ I y) with
 | some v=>vO o (orr c++orr x++orr y) [] (some v)
 | none=>oldO P I nb o
def fBin (op:BinOp) (x y:Operand):HO:=match v6u (opdS Γ I x) (opdS Γ I y) with
 | some (p,q)=>match abin op p q with
  | some v=>vO o (orr x++orr y) [] (some (.one (.dat (.raw v))))
  | none=>opP P Γ I J nb o
 | none=>opP P Γ I J nb o
def fUn (op:UnOp) (x:Operand):HO:=match rawS (opdS Γ I x) with
 | some p=>match aun op p with
  | some v=>vO o (orr x) [] (some (.one (.dat (.raw v))))
  | none=>opP P Γ I J nb o
 | none=>opP P Γ I J nb o
def wfd (T:TypeId) (x:Operand):HO:=vem P T fun ti=>match seeH J (opdS Γ I x) with
 | some (rh,hs)=>vO o (orr x) rh (yi8 ti hs)
 | none=>.bad
def v47 (T:TypeId) (x y:Operand):HO:=match o.dst with
 | none=>vem P T fun ti=>match vg7 (opdS Γ I y) with
  | some us=>if us.length=ti.size then match x71 J ti.size (opdS Γ I x) us with
   | some (b,z)=>.eff (orr x++orr y) [b] [] [(b,z)] none
   | none=>.bad
   else .bad
  | none=>.bad
 | some _=>.bad
def xws (S:TypeId) (x:Operand) (f:Nat):HO:=vem P S fun ti=>match ti.sh with
 | .struct fs=>match fs[f]? with
  | some (off,_,_)=>vO o (orr x) [] (vlp (opdS Γ I x) off)
  | none=>.bad
 | _=>.bad
def wr0 (T:TypeId) (x y:Operand):HO:=vem P T fun ti=>match vui ti.sh (opdS Γ I x) (opdS Γ I y) with
 | some v=>vO o (orr x++orr y) [] (some v)
 | none=>oldO P I nb o
def zl3 (T:TypeId) (x:Operand) (f:Nat):HO:=vem P T fun ti=>match ti.sh with
 | .struct fs=>match fs[f]? with
  | some (off,_,ft)=>vem P ft fun tf=>vO o (orr x) [] (wco off tf (opdS Γ I x))
  | none=>.bad
 | _=>.bad
def vj7 (T:TypeId) (x y:Operand):HO:=vem P T fun ti=>match ti.sh with
 | .array n e es=>vem P e fun te=>match intS (opdS Γ I y) with
  | some ix=>if (0<=ix/\ix<n)/\es=te.size then vO o (orr x++orr y) [] (wco (ix.toNat*es) te (opdS Γ I x)) else .bad
  | none=>.bad
 | .string=>vO o (orr x++orr y) [] (x72 (opdS Γ I x) (opdS Γ I y))
 | _=>.bad
def fLen (x:Operand) (T:TypeId):HO:=match opdS Γ I x,mkTI P T with
 | .one (.dat c),some ti=>match zps ti c,lenC c with
  | true,some n=>vO o (orr x) [] (some (.one (.dat (.raw (.int .i64 (n:Int))))))
  | _,_=>opH P Γ lit fn I J nb o
 | _,_=>opH P Γ lit fn I J nb o
def y57 (c:Call):HO:=match c.callee with
 | .value x=>wds P Γ (wew lit fn) I J o x c.args.toList
 | .builtin .len=>match c.args.toList,c.argTypes.toList with
  | [x],[T]=>fLen P Γ lit fn I J nb o x T
  | _,_=>opH P Γ lit fn I J nb o
 | .builtin _=>opH P Γ lit fn I J nb o
 | _=>.bad
def zth (x:Operand) (n:Nat):HO:=vO o (orr x) [] (ydz (opdS Γ I x) n)
def fNil (x:Operand):HO:=if ptrH (opdS Γ I x)=true then vO o (orr x) [] (some (opdS Γ I x)) else .bad
def vf9 (T:TypeId) (ps:Array (Nat×Operand)):HO:=vem P T fun ti=>if v27 ti=true/\ti.sh.agg=true then vO o (orrs ps.toList) [] ((y31 (placeOf ti.sh) (ti.zc.map .dat) (x3f Γ I ps.toList)).map .agg) else .bad
def vte (T:TypeId):HO:=vem P T fun ti=>nO o [] [] (.one (.ptr nb 0)) [] (.box (ti.zc.map .dat) (some T))
def fBox (T:TypeId) (x:Operand):HO:=match vg7 (opdS Γ I x) with
 | some hs=>nO o (orr x) [] (.one (.ptr nb 0)) [] (.box hs (some T))
 | none=>.bad
def opF:HO:=match o.op with
 | .move x=>zqg Γ I o x
 | .assign x=>zqg Γ I o x
 | .pick c x y=>xzg P Γ I nb o c x y
 | .binOp op _ x y _=>fBin P Γ I J nb o op x y
 | .unOp op _ x=>fUn P Γ I J nb o op x
 | .load T x=>wfd P Γ I J o T x
 | .store T x y=>v47 P Γ I J o T x y
 | .fieldAddr S x f=>xws P Γ I o S x f
 | .indexAddr T x y=>wr0 P Γ I nb o T x y
 | .field T x f=>zl3 P Γ I o T x f
 | .index T x y=>vj7 P Γ I o T x y
 | .extract x n=>zth Γ I o x n
 | .nilCheck x=>fNil Γ I o x
 | .build T ps=>vf9 P Γ I o T ps
 | .alloc T=>vte P nb o T
 | .box T x=>fBox Γ I nb o T x
 | .call c=>y57 P Γ lit fn I J nb o c
 | _=>opH P Γ lit fn I J nb o
end
theorem va4 {lit fn:Bool} {I:List SV} {J:List SB} {nb:Nat} {o:Oper}:opF P Γ lit fn I J nb o=opH P Γ lit fn I J nb o\/(∃ rd rh e h new,opF P Γ lit fn I J nb o=.eff rd rh e h new/\Sound Γ P o I J nb rd rh e h new):=by
 have hv:∀{rd:List Nat} {v:SV},(∀ d,o.dst=some d->vbd Γ P o I J (d::rd) [] [(d,v)] [])->vO o rd [] (some v)=.bad\/∃ rd' rh e h new,vO o rd [] (some v)=.eff rd' rh e h new/\Sound Γ P o I J nb rd' rh e h new:=by
  intro rd v h;unfold vO
  cases hd:o.dst with
  | none=>exact .inl rfl
  | some d=>exact .inr ⟨_,_,_,_,_,rfl,h d hd⟩
 unfold opF
 split
 case h_4 op T x y U ho=>
  unfold fBin
  have e:opH P Γ lit fn I J nb o=opP P Γ I J nb o:=by unfold opH;rw [ho]
  split
  . rename_i p q hpq
    split
    . rename_i v hab
      cases hd:o.dst with
      | none=>
       left
       have:opP P Γ I J nb o=.bad:=by
        unfold opP;rw [ho];simp only [vO,oldO,hd]
        repeat' split
        all_goals first | rfl | simp_all
       rw [e,this];unfold vO;rw [hd]
      | some d=>
       right
       refine ⟨_,_,_,_,_,by unfold vO;rw [hd],?_⟩;exact zz1 ho hd hpq hab
    . exact .inl e.symm
  . exact .inl e.symm
 case h_5 op T x ho=>
  unfold fUn
  have e:opH P Γ lit fn I J nb o=opP P Γ I J nb o:=by unfold opH;rw [ho]
  split
  . rename_i p hp
    split
    . rename_i v hab
      cases hd:o.dst with
      | none=>
       left
       have:opP P Γ I J nb o=.bad:=by
        unfold opP;rw [ho];simp only;unfold oldO;rw [hd]
       rw [e,this];unfold vO;rw [hd]
      | some d=>
       right
       refine ⟨_,_,_,_,_,by unfold vO;rw [hd],?_⟩;exact s_un ho hd hp hab
    . exact .inl e.symm
  . exact .inl e.symm
 case h_17 c ho=>
  unfold y57
  split
  . rename_i x hc;left;unfold opH;rw [ho];simp only [hc]
  . rename_i hc
    split
    . rename_i x T ha ht;unfold fLen
      split
      . rename_i cc ti hx hti
        split
        . rename_i n hok hl
          have ho':o.op=.call { callee:=.builtin .len,args:=#[x],argTypes:=#[T] }:=by
           rw [ho];obtain ⟨cal,args,tys⟩:=c;simp only at hc ha ht;rw [hc,vbv ha,v02 ht]
          cases hd:o.dst with
          | none=>
           left
           have:opH P Γ lit fn I J nb o=.bad:=by
            unfold opH;rw [ho'];simp only [hx,z00,oldO,hd]
           rw [this];unfold vO;rw [hd]
          | some d=>
           right
           refine ⟨_,_,_,_,_,by unfold vO;rw [hd],?_⟩;exact v8u ho' hd hti hx hok hl
        . exact .inl rfl
      . exact .inl rfl
    . exact .inl rfl
  . exact .inl rfl
  . rename_i h1 h2 h3
    left;unfold opH;rw [ho]
    cases hcc:c.callee with
    | value x=>exact absurd hcc (h1 x)
    | builtin b=>exact absurd hcc (h3 b)
    | _=>simp only [hcc]
 all_goals first
  | exact .inl rfl
  | (rename_i ho;left;unfold opH;rw [ho];simp only;unfold opP;rw [ho];rfl)
  | (rename_i ho;left;unfold opH;rw [ho];rfl)
theorem SRL.of {J:List SB} {ρ:Nat->Value} {M:Nat->Nat->Prop}:∀{l:List AV} {r:List SV} {vs:List Value},vug l=some r->RdBL M w vs l->SRL J ρ M w vs r:=ypo
theorem xga {lit fn:Bool} {I:List SV} {J:List SB} {nb:Nat} {o:Oper} {f:FuncId} {l:List AV} {rd rh bs:List Nat} (h:opH P Γ lit fn I J nb o=.callD f l rd rh bs) {sl:List SV} (hl:vug l=some sl) {J':List SB} {res:SV} (hc:xpp Γ P f (appL (frzE J bs) J) sl J' res) :
 vjm Γ P o I J (appL (v9n o res) I) J':=by
 obtain ⟨x,xs,ts,ho⟩:=ypv h (.inl ⟨_,_,_,_,_,rfl⟩);rw [vyw ho] at h
 have ho':o.op=.call { callee:=.value x,args:=xs.toList.toArray,argTypes:=ts }:=by rw [ho]
 have hG:∀{f':FuncId} {caps:List SV} {rd' rh':List Nat},zxi Γ I J x=some (f',caps,rd',rh')->wds.callG Γ (wew lit fn) I J o xs.toList f' caps rd' rh'=.callD f l rd rh bs->vjm Γ P o I J (appL (v9n o res) I) J':=fun {f' caps rd' rh'} hcal hg=>by
  unfold wds.callG at hg;split at hg
  . rename_i l' bs' ha;have ha:=vjw ha
    cases hg;have harr:=yig ha;intro E ρ a w hI K Q hK;have hnt:=w9u ha
    have hnt1:voj (wy6 Γ I xs.toList)=true:=by
     unfold voj at hnt ⊢;rw [List.all_append,Bool.and_eq_true] at hnt;exact hnt.1
    obtain ⟨cv,hcv,hcr⟩:=wf3 hI hcal;have hsr:=(xw8 hI xs.toList hnt1).append hcr;obtain ⟨hw1,_,hfz⟩:=Went.frz bs J hI.inv rfl harr (fun _=>.inl rfl);have hrb:=zlh hw1.inv ha hfz (hsr.mv hw1.mv);have hcalls:=hc.2 _ ρ w _ hw1.inv (SRL.of hl hrb);unfold Oper.wp;rw [z3e ho' hcv hc.1 w];show Calls P f _ w _
    have e1:xs.toList.toArray.map a.eval++cv.toArray=(xs.toList.map a.eval++cv).toArray:=by simp
    rw [e1];refine hcalls.mono ?_;rintro e w' ⟨v,ρ',rfl,hw,hv⟩;exact hK _ _ ρ' (((hI.go hw1).go hw).dst hv)
  . split at hg<;>cases hg
 unfold wds at h;split at h
 . split at h
   . split at h
     . unfold vO at h;repeat' split at h
       all_goals cases h
     . cases h
   . exact hG rfl h
 . rename_i t;split at h
   . split at h<;>cases h
   . split at h
     . rename_i f' caps rd' rh' hcal;exact hG hcal h
     . cases h
 . cases h
theorem SVR.refs {J:List SB} {ρ:Nat->Value} {M:Nat->Nat->Prop} {w:World} {v:Value} {x:SV} (h:SVR J ρ M w v x):∀ b∈wj3 x,okB J b:=fun b hb=>by
 cases x with
 | tup l=>
  obtain ⟨vs,_,h⟩:=h;rw [Hp.wnl,h.wnl] at hb;exact h.refs b hb
 | one h'=>exact SVR0.refs (x:=.one h') h b hb
 | agg l=>exact SVR0.refs (x:=.agg l) h b hb
 | _=>cases hb
theorem RI.zlp {E:HEnv} {J:List SB} {ρ:Nat->Value} {I:List SV} {a:Act} (h:RI Γ E ρ I (J++[.fresh]) a w):RI Γ E ρ I J a w:=by
 have hget:∀(i:Nat) (x:SB),J[i]? = some x->(J++[SB.fresh])[i]? = some x:=fun i x hi=>by rw [List.getElem?_append_left (List.getElem?_eq_some_iff.1 hi).1];exact hi
 have hok:∀ b,okB (J++[.fresh]) b->okB J b:=fun b ⟨x,hx,hf⟩=>by
  rw [List.getElem?_append] at hx;split at hx
  . exact ⟨x,hx,hf⟩
  . rename_i hlt
    cases hn:b-J.length with
    | zero=>rw [hn] at hx;simp at hx;exact absurd hx.symm hf
    | succ n=>rw [hn] at hx;simp at hx
 have hM:∀ b o,MX E.Mo ρ J b o->MX E.Mo ρ (J++[.fresh]) b o:=by
  rintro b o (hm | ⟨i,x,hi,hx⟩)
  . exact .inl hm
  . exact .inr ⟨i,x,hget i x hi,hx⟩
 have hw:=h.went
 refine ⟨h.hd,h.hs,fun i x hi=>(h.slot i x hi).at hM (fun b hb=>⟨hok b ((h.slot i x hi).refs b hb),rfl⟩),fun b hb=>hok b (hw.ok b hb),hw.rho,hw.keep.trans (wf2.shrink w hM),hw.grow,
  ⟨hw.inv.bnd,fun i x hi=>(hw.inv.blk i x (hget i x hi)).at hM (fun b hb=>⟨hok b ((hw.inv.blk i x (hget i x hi)).refs b hb),rfl⟩),fun i j x y hi hj=>hw.inv.inj i j x y (hget i x hi) (hget j y hj),fun i x hi=>hw.inv.sep i x (hget i x hi),hw.inv.glob.keep (wf2.shrink w hM)⟩,
  hw.size,hw.os,hw.tape,hw.output,hw.frame,fun k ⟨i,x,hi,hx⟩=>hw.fresh k ⟨i,x,hget i x hi,hx⟩⟩
theorem StH.zlp {e:List SB} {I:List SV} {J:List SB}:StH Γ e I (J++[.fresh]) I J:=fun _ ρ _ _ _ h=>⟨ρ,h.zlp⟩
inductive GR where
 | plain
 | when (d:Nat) (c b:Bool)
 | skip (d:Nat)
 | bad
def xsn (ops:List Oper) (I:List SV) (o:Oper):GR:=match o.guard with
 | none=>.plain
 | some (j,b)=>match (ops[j]?).bind (·.dst) with
  | some d=>match gtS I d with
   | .one (.dat (.raw (.bool c)))=>.when d c b
   | .undef=>.skip d
   | _=>.bad
  | none=>.bad
theorem zla {ops:Array Oper} {I:List SV} {o:Oper}:(xsn ops.toList I o=.plain->o.guard=none)/\(∀ d c b,xsn ops.toList I o=.when d c b->∃ j,o.guard=some (j,b)/\(ops[j]?).bind (·.dst)=some d/\gtS I d=.one (.dat (.raw (.bool c))))/\
 (∀ d,xsn ops.toList I o=.skip d->∃ j b,o.guard=some (j,b)/\(ops[j]?).bind (·.dst)=some d/\gtS I d=.undef):=by
 unfold xsn
 cases hg:o.guard with
 | none=>exact ⟨fun _=>rfl,fun d c b h=>(by cases h),fun d h=>(by cases h)⟩
 | some p=>
  obtain ⟨j,b⟩:=p;simp only [Array.getElem?_toList]
  cases hd:(ops[j]?).bind (·.dst) with
  | none=>exact ⟨fun h=>(by cases h),fun d c b h=>(by cases h),fun d h=>(by cases h)⟩
  | some d=>
   simp only []
   split
   . rename_i c hc;refine ⟨fun h=>(by cases h),fun d' c' b' h=>?_,fun d h=>(by cases h)⟩
     cases h;exact ⟨j,rfl,hd,hc⟩
   . rename_i hc;refine ⟨fun h=>(by cases h),fun d' c' b' h=>(by cases h),fun d' h=>?_⟩
     cases h;exact ⟨j,b,rfl,hd,hc⟩
   . exact ⟨fun h=>(by cases h),fun d c b h=>(by cases h),fun d h=>(by cases h)⟩
section
variable {β:Type}
def frcL {α:Type}:List α->(List α->β)->β
 | [],k=>k []
 | x::l,k=>frcL l fun l=>k (x::l)
def frcN:Nat->(Nat->β)->β
 | 0,k=>k 0
 | n+1,k=>k (n+1)
def frcI:Int->(Int->β)->β
 | .ofNat n,k=>frcN n fun n=>k (.ofNat n)
 | .negSucc n,k=>frcN n fun n=>k (.negSucc n)
def w0q:ByteArray->(ByteArray->β)->β
 | ⟨⟨l⟩⟩,k=>frcL l fun l=>k ⟨⟨l⟩⟩
def frcV:Value->(Value->β)->β
 | .bool true,k=>k (.bool true)
 | .bool false,k=>k (.bool false)
 | .int kd n,k=>frcI n fun n=>k (.int kd n)
 | .string s,k=>w0q s fun s=>k (.string s)
 | .slice a n c,k=>k (.slice a n c)
 | .pointer a,k=>k (.pointer a)
 | v,k=>k v
def yji:List Int->(List Int->β)->β
 | [],k=>k []
 | x::l,k=>frcI x fun x=>yji l fun l=>k (x::l)
def frcC:Cell->(Cell->β)->β
 | .raw v,k=>frcV v fun v=>k (.raw v)
 | .ints kd l,k=>yji l fun l=>k (.ints kd l)
 | .sl n l,k=>frcL l fun l=>k (.sl n l)
 | c,k=>k c
def frcH:HC->(HC->β)->β
 | .dat c,k=>frcC c fun c=>k (.dat c)
 | .ptr b o,k=>frcN o fun o=>k (.ptr b o)
 | .sl b es lo n,k=>frcN lo fun lo=>frcN n fun n=>k (.sl b es lo n)
 | h,k=>k h
def ylm:List HC->(List HC->β)->β
 | [],k=>k []
 | x::l,k=>frcH x fun x=>ylm l fun l=>k (x::l)
def frcS:SV->(SV->β)->β
 | .one h,k=>frcH h fun h=>k (.one h)
 | .agg l,k=>ylm l fun l=>k (.agg l)
 | .tup l,k=>frcL l fun l=>k (.tup l)
 | .undef,k=>k .undef
 | x,k=>k x
def weo:List SV->(List SV->β)->β
 | [],k=>k []
 | x::l,k=>frcS x fun x=>weo l fun l=>k (x::l)
def frcE:List (Nat×SV)->(List (Nat×SV)->β)->β
 | [],k=>k []
 | (d,x)::l,k=>frcS x fun x=>frcE l fun l=>k ((d,x)::l)
def frcB:SB->(SB->β)->β
 | .box l T,k=>ylm l fun l=>k (.box l T)
 | .arr c n T,k=>frcC c fun c=>frcN n fun n=>k (.arr c n T)
 | .map es,k=>frcL es fun es=>k (.map es)
 | b,k=>k b
def vrq:List (Nat×SB)->(List (Nat×SB)->β)->β
 | [],k=>k []
 | (d,x)::l,k=>frcB x fun x=>vrq l fun l=>k ((d,x)::l)
theorem wwf {α:Type}:∀(l:List α) (k:List α->β),frcL l k=k l
 | [],_=>rfl
 | _::l,_=>wwf l _
theorem y9b (n:Nat) (k:Nat->β):frcN n k=k n:=by cases n<;>rfl
theorem zfs (n:Int) (k:Int->β):frcI n k=k n:=by cases n<;>exact y9b _ _
theorem yne (s:ByteArray) (k:ByteArray->β):w0q s k=k s:=by obtain ⟨⟨l⟩⟩:=s;exact wwf _ _
theorem ypl (v:Value) (k:Value->β):frcV v k=k v:=by
 cases v with
 | bool b=>cases b<;>rfl
 | int kd n=>exact zfs _ _
 | string s=>show w0q s (fun s=>k (.string s))=_;exact yne _ _
 | _=>rfl
theorem zxk:∀(l:List Int) (k:List Int->β),yji l k=k l
 | [],_=>rfl
 | _::l,_=>(zfs _ _).trans (zxk l _)
theorem ziq (c:Cell) (k:Cell->β):frcC c k=k c:=by
 cases c with
 | raw v=>exact ypl _ _
 | ints kd l=>exact zxk _ _
 | sl n l=>exact wwf _ _
 | _=>rfl
theorem wli (h:HC) (k:HC->β):frcH h k=k h:=by
 cases h with
 | dat c=>exact ziq _ _
 | ptr b o=>exact y9b _ _
 | sl b es lo n=>exact (y9b _ _).trans (y9b _ _)
 | _=>rfl
theorem y5r:∀(l:List HC) (k:List HC->β),ylm l k=k l
 | [],_=>rfl
 | _::l,_=>(wli _ _).trans (y5r l _)
theorem wbt (x:SV) (k:SV->β):frcS x k=k x:=by
 cases x with
 | one h=>exact wli _ _
 | agg l=>exact y5r _ _
 | tup l=>exact wwf _ _
 | _=>rfl
theorem x04:∀(l:List SV) (k:List SV->β),weo l k=k l
 | [],_=>rfl
 | _::l,_=>(wbt _ _).trans (x04 l _)
theorem wpe:∀(l:List (Nat×SV)) (k:List (Nat×SV)->β),frcE l k=k l
 | [],_=>rfl
 | (_,_)::l,_=>(wbt _ _).trans (wpe l _)
theorem yqs (x:SB) (k:SB->β):frcB x k=k x:=by
 cases x with
 | box l T=>exact y5r _ _
 | arr c n T=>exact (ziq _ _).trans (y9b _ _)
 | map es=>exact wwf _ _
 | _=>rfl
theorem xvv:∀(l:List (Nat×SB)) (k:List (Nat×SB)->β),vrq l k=k l
 | [],_=>rfl
 | (_,_)::l,_=>(yqs _ _).trans (xvv l _)
end
def yil (ops:List Oper):Option Nat->Bool
 | none=>false
 | some d=>ops.any fun o=>match o.op with
  | .call c=>match c.callee with
   | .builtin .append=>match c.args.toList with
    | [_,.tmp t]=>t==d
    | _=>false
   | _=>false
  | _=>false
section
variable (cD:FuncId->List AV->Option AV) (cH:FuncId->List SB->List SV->Option (List SB×SV×List Nat))
def evDo (o:Oper) (I:List SV) (J:List SB):HO->Option (List SV×List SB×List Nat)
 | .eff _ _ e h none=>frcE e fun e=>vrq h fun h=>some (appL e I,appL h J,h.map (·.1))
 | .eff _ _ e h (some x)=>frcE e fun e=>vrq h fun h=>frcB x fun x=>some (appL e I,appL h J++[x],h.map (·.1))
 | .callD f l _ _ bs=>match cD f l with
  | some res=>match resS J.length res with
   | some (y,none)=>frcS y fun y=>some (appL (v9n o y) I,appL (frzE J bs) J,bs)
   | some (y,some x)=>frcS y fun y=>frcB x fun x=>some (appL (v9n o y) I,appL (frzE J bs) J++[x],bs)
   | none=>none
  | none=>match vug l with
   | some sl=>match cH f (appL (frzE J bs) J) sl with
    | some (J',res,ch)=>frcS res fun res=>frcL J' fun J'=>some (appL (v9n o res) I,J',bs++ch)
    | none=>none
   | none=>none
 | .callH f l _=>match cH f J l with
  | some (J',res,ch)=>frcS res fun res=>frcL J' fun J'=>some (appL (v9n o res) I,J',ch)
  | none=>none
 | .look r z ok _ _=>match o.dst with
  | some _=>frcS (vi3 ok r z) fun y=>some (appL (v9n o y) I,J,[])
  | none=>none
 | _=>none
def evGd (P:Program) (Γ:List (Nat×List Cell)) (ops:List Oper) (o:Oper) (I:List SV) (J:List SB):GR->Option (List SV×List SB×List Nat)
 | .plain=>evDo cD cH o I J (opF P Γ (yil ops o.dst) false I J J.length o)
 | .when _ c b=>if c=b then evDo cD cH o I J (opF P Γ (yil ops o.dst) false I J J.length o) else some (appL (v9n o .undef) I,J,[])
 | .skip _=>some (appL (v9n o .undef) I,J,[])
 | .bad=>none
def vnr (P:Program) (Γ:List (Nat×List Cell)) (ops:List Oper):List Oper->List SV->List SB->List Nat->Option (List SV×List SB×List Nat)
 | [],I,J,wl=>some (I,J,wl)
 | o::r,I,J,wl=>match evGd cD cH P Γ ops o I J (xsn ops I o) with
  | some (I',J',ws)=>frcL I' fun I'=>frcL J' fun J'=>vnr P Γ ops r I' J' (ws++wl)
  | none=>none
def opRd:Op->List Nat
 | .move x=>orr x
 | .assign x=>orr x
 | .pick c x y=>orr c++orr x++orr y
 | .binOp _ _ x y _=>orr x++orr y
 | .unOp _ _ x=>orr x
 | .load _ x=>orr x
 | .fieldAddr _ x _=>orr x
 | .indexAddr _ x y=>orr x++orr y
 | .field _ x _=>orr x
 | .index _ x y=>orr x++orr y
 | .extract x _=>orr x
 | .nilCheck x=>orr x
 | .build _ ps=>orrs ps.toList
 | .slice _ x lo hi _=>orr x++orrO lo++orrO hi
 | .convert _ _ x=>orr x
 | .lookup _ x y _=>orr x++orr y
 | .call c=>(match c.callee with
  | .value (.tmp t)=>[t]
  | _=>[])++orrL c.args.toList
 | _=>[]
def sRd (o:Oper):List Nat:=xl0 o++opRd o.op
def gRd (ops:List Oper) (o:Oper):List Nat:=match o.guard with
 | none=>[]
 | some (j,_)=>match (ops[j]?).bind (·.dst) with
  | some d=>[d]
  | none=>[]
def sHR (ops:List Oper) (o:Oper):HR:=⟨gRd ops o++sRd o,[],v9n o .any,[]⟩
def inRd (l r:List Nat):Bool:=l.all fun x=>r.contains x
def vv0 (o:Oper) (I:List SV) (J:List SB):HO->Option (List SV×List SB×List Nat)
 | .eff rd _ [(d,x)] [] none=>if inRd rd (sRd o)=true/\o.dst=some d then frcS x fun x=>some (I.set d x,J,[]) else none
 | .callD f l rd _ []=>match cD f l,o.dst with
  | some res,some d=>if inRd rd (sRd o)=true then match resS J.length res with
   | some (y,none)=>frcS y fun y=>some (I.set d y,J,[])
   | _=>none
   else none
  | _,_=>none
 | _=>none
def vdj (P:Program) (Γ:List (Nat×List Cell)) (ops:List Oper) (o:Oper) (I:List SV) (J:List SB):GR->Option (List SV×List SB×List Nat)
 | .plain=>vv0 cD o I J (opF P Γ (yil ops o.dst) false I J J.length o)
 | .when _ c b=>if c=b then vv0 cD o I J (opF P Γ (yil ops o.dst) false I J J.length o) else some (appL (v9n o .undef) I,J,[])
 | .skip _=>some (appL (v9n o .undef) I,J,[])
 | .bad=>none
def x5a (P:Program) (Γ:List (Nat×List Cell)) (ops:List Oper):List Oper->List SV->List SB->List Nat->Option (List SV×List SB×List Nat)
 | [],I,J,wl=>some (I,J,wl)
 | o::r,I,J,wl=>match vdj cD P Γ ops o I J (xsn ops I o) with
  | some (I',J',ws)=>x5a P Γ ops r I' J' (ws++wl)
  | none=>none
def wbq (o:Oper):Bool:=match o.op with
 | .alloc _=>false
 | .box _ _=>false
 | .store _ _ _=>false
 | .buildSlice _ _ _=>false
 | .makeMap _ _=>false
 | .makeFunc _ _ _=>false
 | .mapUpdate _ _ _ _=>false
 | .call c=>match c.callee with
  | .value _=>true
  | .builtin b=>match b with
   | .len=>true
   | _=>false
  | _=>false
 | _=>true
def mkM:List Nat->Nat
 | []=>0
 | i::l=>Nat.lor (Nat.pow 2 i) (mkM l)
def getM:List Nat->Nat->Nat
 | [],_=>0
 | x::_,0=>x
 | _::l,i+1=>getM l i
def vo3 (acc:List Nat):List Nat->Nat
 | []=>0
 | d::l=>Nat.lor (Nat.lor (Nat.pow 2 d) (getM acc d)) (vo3 acc l)
def befM:List Oper->List Nat->List Nat
 | [],acc=>acc
 | o::r,acc=>frcN (vo3 acc (direct o)) fun m=>befM r (acc++[m])
def apM:Nat->Nat->Nat->Nat->List (Nat×Nat)->Bool
 | _,_,_,_,[]=>true
 | b,r,w,i,(r',w')::l=>(Nat.beq (Nat.land (Nat.shiftRight b i) 1) 1||(Nat.beq (Nat.land w' r) 0&&Nat.beq (Nat.land w r') 0))&&apM b r w (i+1) l
def indM:List Nat->List (Nat×Nat)->List (Nat×Nat)->Bool
 | [],_,[]=>true
 | b::bs,before,(r,w)::l=>apM b r w 0 before&&indM bs (before++[(r,w)]) l
 | _,_,_=>false
def frcM:List HR->(List (Nat×Nat)->Bool)->Bool
 | [],k=>k []
 | s::l,k=>frcN (mkM s.rd) fun r=>frcN (mkM s.ws) fun w=>frcM l fun l=>k ((r,w)::l)
def w4a (l:List Oper) (recs:List HR):Bool:=
 wl7 0 l&&(recs.all fun s=>(s.ws.all fun x=>s.rd.contains x)&&isNil s.heff)&&frcM recs fun rs=>indM (befM l []) [] rs
def stOk (ops:List Oper):Bool:=ops.all wbq&&w4a ops (ops.map (sHR ops))
def wki (P:Program) (Γ:List (Nat×List Cell)) (ops:List Oper) (I:List SV) (J:List SB) (wl:List Nat):Option (List SV×List SB×List Nat):=match stOk ops with
 | true=>x5a cD P Γ ops ops I J wl
 | false=>none
def v41 (o:Oper) (nb:Nat) (J:List SB):HO->Option HR
 | .eff rd rh e h none=>some ⟨rd,rh,e,h⟩
 | .eff rd rh e h (some x)=>if y4f J nb=true then some ⟨rd,nb::rh,e,h++[(nb,x)]⟩ else none
 | .callD f l rd rh bs=>match cD f l with
  | some res=>match resS nb res with
   | some (y,none)=>some ⟨rd,rh++bs,v9n o y,frzE J bs⟩
   | some (y,some x)=>if y4f J nb=true then some ⟨rd,nb::(rh++bs),v9n o y,frzE J bs++[(nb,x)]⟩ else none
   | none=>none
  | none=>none
 | .callH f l rd=>match cH f J l with
  | some (J',res,ch)=>if J'.length=J.length then some ⟨rd,List.range J.length,v9n o res,ch.map fun i=>(i,gB J' i)⟩ else none
  | none=>none
 | .look r z ok rd rh=>match o.dst with
  | some _=>some ⟨rd,rh,v9n o (vi3 ok r z),[]⟩
  | none=>none
 | _=>none
def onD (d:Nat) (s:HR):HR:=⟨d::s.rd,s.rh,s.eff,s.heff⟩
def ycz (P:Program) (Γ:List (Nat×List Cell)) (ops:List Oper) (nb:Nat) (o:Oper) (I:List SV) (J:List SB):GR->Option HR
 | .plain=>v41 cD cH o nb J (opF P Γ (yil ops o.dst) false I J nb o)
 | .when d c b=>if c=b then (v41 cD cH o nb J (opF P Γ (yil ops o.dst) false I J nb o)).map (onD d) else some ⟨d::xl0 o,[],v9n o .undef,[]⟩
 | .skip d=>some ⟨d::xl0 o,[],v9n o .undef,[]⟩
 | .bad=>none
def zce (P:Program) (Γ:List (Nat×List Cell)) (ops:List Oper) (nb:Nat):List Oper->List HR->List SV->List SB->List Nat->Option (List SV×List SB×List Nat)
 | [],acc,I,J,wl=>if wcl ops acc=true then some (I,J,wl) else none
 | o::r,acc,I,J,wl=>match ycz cD cH P Γ ops nb o I J (xsn ops I o) with
  | some s=>frcE s.eff fun e=>vrq s.heff fun h=>frcL (appL e I) fun I=>frcL (appL h J) fun J=>zce P Γ ops nb r (acc++[s]) I J (s.heff.map (·.1)++wl)
  | none=>none
def xyn (n:Nat) (J:List SB):List SB:=match J.drop n with
 | [.fresh]=>J.take n
 | _=>J
def yw6 (body:List SV->List SB->List Nat->Option (Exit×List SV×List SB×List Nat)):Nat->List SV->List SB->List Nat->Option (Exit×List SV×List SB×List Nat)
 | 0,_,_,_=>none
 | n+1,I,J,wl=>match body I J wl with
  | some (.normal,I',J',wl')=>yw6 body n I' J' wl'
  | r=>r
def x7o (P:Program) (Γ:List (Nat×List Cell)) (N:Nat):Code->List SV->List SB->List Nat->Option (Exit×List SV×List SB×List Nat)
 | .skip,I,J,wl=>some (.normal,I,J,wl)
 | .region _ ops false,I,J,wl=>match vnr cD cH P Γ ops.toList ops.toList I J wl with
  | some (s,h,wl)=>some (.normal,s,h,wl)
  | none=>none
 | .region _ ops true,I,J,wl=>if P.follows .mixedOrders=true then (match wki cD P Γ ops.toList I J wl with
  | some (s,h,wl)=>some (.normal,s,h,wl)
  | none=>match zce cD cH P Γ ops.toList J.length ops.toList [] I (J++[.fresh]) wl with
   | some (s,h,wl)=>some (.normal,s,xyn J.length h,wl)
   | none=>none) else none
 | .seq x y,I,J,wl=>match x7o P Γ N x I J wl with
  | some (.normal,s,h,wl)=>x7o P Γ N y s h wl
  | r=>r
 | .cond c x y,I,J,wl=>match opdS Γ I c with
  | .one (.dat (.raw (.bool true)))=>x7o P Γ N x I J wl
  | .one (.dat (.raw (.bool false)))=>x7o P Γ N y I J wl
  | _=>none
 | .block id x,I,J,wl=>match x7o P Γ N x I J wl with
  | some (.exit j,s,h,wl)=>if j=id then some (.normal,s,h,wl) else some (.exit j,s,h,wl)
  | r=>r
 | .loop x,I,J,wl=>yw6 (x7o P Γ N x) N I J wl
 | .exit id,I,J,wl=>some (.exit id,I,J,wl)
 | .ret,I,J,wl=>some (.ret,I,J,wl)
 | .label _,I,J,wl=>some (.normal,I,J,wl)
 | .scope x,I,J,wl=>match x7o P Γ N x I J wl with
  | some (.goto _,_,_,_)=>none
  | r=>r
 | _,_,_,_=>none
end
def wb8 (cD:FuncId->List AV->Option AV) (cH:FuncId->List SB->List SV->Option (List SB×SV×List Nat)) (P:Program) (Γ:List (Nat×List Cell)) (N:Nat) (f:FuncId) (l:List SV) (J:List SB):Option (SV×List SB×List Nat):=match P.funcs[f]? with
 | some fn=>match fn.body,fn.name == "runtime.NumGoroutine" with
  | some c,false=>match weo (l++List.replicate (fn.ntmps-l.length) .undef) fun I=>x7o cD cH P Γ N c I J [] with
   | some (.ret,I,h,wl)=>(wan P I h fn.results.toList).map fun x=>(x,h,wl)
   | some (.normal,I,h,wl)=>(wan P I h fn.results.toList).map fun x=>(x,h,wl)
   | _=>none
  | _,_=>none
 | none=>none
def ltB (m:Nat) (l:List Nat):Bool:=l.all fun b=>decide (b<m)
def vn6 (n:Nat) (x:SV) (J:List SB):List SB×SV:=match xu5 J x with
 | some (av,bs)=>match bs.all (fun b=>decide (n<=b)),resS 0 av with
  | true,some (y,none)=>(appL (frzE J bs) J,y)
  | _,_=>(J,x)
 | none=>(J,x)
def zo2 (n:Nat) (r:List SB×SV):List SB×SV:=if (ltB n (wj3 r.2)&&(r.1.take n).all (fun b=>ltB n (vb5 b)))=true then (r.1.take n,r.2) else r
mutual
def evD (P : Program) (Γ : List (Nat × List Cell)) (known : FuncId → List AV → Option AV) (N : Nat) : Nat → FuncId → List AV → Option AV
 | 0,_,_=>none
 | n + 1, f, l => match known f l with
  | some r=>some r
  | none=>match vug l with
   | some sl=>match wb8 (evD P Γ known N n) (evH P Γ known N n) P Γ N f sl [] with
    | some (x,J,_)=>(xu5 J x).map (·.1)
    | none=>none
   | none=>none
def evH (P:Program) (Γ:List (Nat×List Cell)) (known:FuncId->List AV->Option AV) (N:Nat):Nat->FuncId->List SB->List SV->Option (List SB×SV×List Nat)
 | 0,_,_,_=>none
 | n+1,f,J,l=>match wb8 (evD P Γ known N n) (evH P Γ known N n) P Γ N f l J with
  | some (x,h,wl)=>match zo2 J.length (vn6 J.length x h) with
   | (h',y)=>some (h',y,wl.filter (fun i=>decide (i<J.length)))
  | none=>none
end
end Go.Hp
