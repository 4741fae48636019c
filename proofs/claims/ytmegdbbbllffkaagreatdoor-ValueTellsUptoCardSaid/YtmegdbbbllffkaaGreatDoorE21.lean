/- The proof, part E21: Hk, Hs. -/
import Derived.Test.YtmegdbbbllffkaaGreatDoorE18
import Derived.Test.YtmegdbbbllffkaaGreatDoorE20
namespace Go.Hp
open Go Go.RowKit Go.Slot
variable {P:Program} {Γ:List (Nat×List Cell)}
variable {T:TypeId} {x:Operand} {v:Value} {w:World}
def w4j:SV->SV->Option (Value×Value)
 | .one (.dat (.raw a)),.one (.dat (.raw b))=>some (a,b)
 | _,_=>none
def rawS:SV->Option Value
 | .one (.dat (.raw a))=>some a
 | _=>none
theorem w5q {o:Oper} {I:List SV} {J:List SB} {op:BinOp} {U:TypeId} {y:Operand} {d:Nat} (ho:o.op=.binOp op T x y U) (hdst:o.dst=some d) {p q:Value} (hx:w4j (opdS Γ I x) (opdS Γ I y)=some (p,q)) (hab:abin op p q=some v) :
 yvu Γ P o I J (d::(orr x++orr y)) [] [(d,.one (.dat (.raw v)))] []:=by
 have hxy:opdS Γ I x=.one (.dat (.raw p))/\opdS Γ I y=.one (.dat (.raw q)):=by
  unfold w4j at hx;split at hx
  . rename_i a b h1 h2;cases hx;exact ⟨h1,h2⟩
  . cases hx
 refine yvu.pure hdst (fun E ρ I' J' a w hag hah hI=>⟨v,?_,RdC.raw (v4y hab)⟩);have sx:=hI.opd x;have sy:=hI.opd y;rw [hag.opd (fun t ht=>by simp [ht]),hxy.1] at sx;rw [hag.opd (fun t ht=>by simp [ht]),hxy.2] at sy;have ex:a.eval x=p:=RdC.zb5 sx;have ey:a.eval y=q:=RdC.zb5 sy;simp [execOp,ho,ex,ey,y46 hab,zn9 hab]
theorem s_un {o:Oper} {I:List SV} {J:List SB} {op:UnOp} {d:Nat} (ho:o.op=.unOp op T x) (hdst:o.dst=some d) {p:Value} (hx:rawS (opdS Γ I x)=some p) (hab:aun op p=some v) :
 yvu Γ P o I J (d::orr x) [] [(d,.one (.dat (.raw v)))] []:=by
 have hxx:opdS Γ I x=.one (.dat (.raw p)):=by
  unfold rawS at hx;split at hx
  . rename_i a h1;cases hx;exact h1
  . cases hx
 have hone:v.oneCell'=true:=by unfold aun at hab;split at hab<;>first | (cases hab;rfl) | cases hab
 refine yvu.pure hdst (fun E ρ I' J' a w hag hah hI=>⟨v,?_,RdC.raw hone⟩);have sx:=hI.opd x;rw [hag.opd (fun t ht=>by simp [ht]),hxx] at sx;have ex:a.eval x=p:=RdC.zb5 sx;unfold aun at hab;split at hab
 . cases hab;simp [execOp,ho,ex,Op.unary,Op.intArith]
 . cases hab;simp [execOp,ho,ex,Op.unary]
 . cases hab
theorem ws1 {o:Oper} {I:List SV} {J:List SB} {d:Nat} (ho:o.op=.call { callee:=.builtin .len,args:=#[x],argTypes:=#[T] }) (hdst:o.dst=some d) {ti:TI} (hti:mkTI P T=some ti) {c:Cell} {n:Nat}
 (hx:opdS Γ I x=.one (.dat c)) (hok:y3p ti c=true) (hl:lenC c=some n):yvu Γ P o I J (d::orr x) [] [(d,.one (.dat (.raw (.int .i64 (n:Int)))))] []:=by
 refine yvu.pure hdst (fun E ρ I' J' a w hag hah hI=>⟨_,?_,RdC.raw rfl⟩);have sx:=hI.opd x;rw [hag.opd (fun t ht=>by simp [ht]),hx] at sx;have hti':=vnz hti;have hrd:RdT (MX E.Mo ρ J') w (fun _=>⟨Go.undef,0⟩) (a.eval x) c:=RdT.of sx
 have key:(Builtin.len_ #[T] o.type #[a.eval x]).run P w=.ok (.int .i64 n) w:=by
  rcases hrd.len hl with ⟨ad,cap,hv,hns⟩ | ⟨s,rfl,hv,rfl⟩
  . rw [hv]
    have:∃ e es eb ik,ti.sh=.slice e es eb ik:=by
     unfold y3p at hok;split at hok
     . exact absurd rfl (hns _)
     . split at hok
       . rename_i h;exact ⟨_,_,_,_,h⟩
       . cases hok
    obtain ⟨e,es,eb,ik,hsh⟩:=this;exact Slot.run_len_slice hti' hsh _ _ _ _ w
  . rw [hv]
    have hsh:ti.sh=.string:=by
     simp only [y3p] at hok;split at hok
     . assumption
     . cases hok
    obtain ⟨dd,i,z,hd,hi,hz,_,_,_,_,_,hsh'⟩:=hti'.ex
    have:=zms (hsh'.symm.trans hsh)
    subst this;simp [Builtin.len_,voj hd,goInt]
 rw [x6y ho,show (#[x]:Array Operand).map a.eval=#[a.eval x] from by simp]
 have:∀ cs,(builtin .len #[T] o.type cs #[a.eval x]).run P w=.ok (.value (.int .i64 n)) w:=fun cs=>by
  simp only [builtin,Sem.run_bind,key];rfl
 exact this _
section
variable (P:Program) (Γ:List (Nat×List Cell)) (lit fn:Bool) (I:List SV) (J:List SB) (nb:Nat) (o:Oper)
def yiv (x:Operand):HO:=vO o (orr x) [] (some (opdS Γ I x))
def y9n (c x y:Operand):HO:=match y8q (opdS Γ I c) (opdS Γ I x) (opdS Γ I y) with
 | some v=>vO o (orr c++orr x++orr y) [] (some v)
 | none=>oldO P I nb o
def fBin (op:BinOp) (x y:Operand):HO:=match w4j (opdS Γ I x) (opdS Γ I y) with
 | some (p,q)=>match abin op p q with
  | some v=>vO o (orr x++orr y) [] (some (.one (.dat (.raw v))))
  | none=>opP P Γ I J nb o
 | none=>opP P Γ I J nb o
def fUn (op:UnOp) (x:Operand):HO:=match rawS (opdS Γ I x) with
 | some p=>match aun op p with
  | some v=>vO o (orr x) [] (some (.one (.dat (.raw v))))
  | none=>opP P Γ I J nb o
 | none=>opP P Γ I J nb o
def vza (T:TypeId) (x:Operand):HO:=x40 P T fun ti=>match seeH J (opdS Γ I x) with
 | some (rh,hs)=>vO o (orr x) rh (y05 ti hs)
 | none=>.bad
def wgc (T:TypeId) (x y:Operand):HO:=match o.dst with
 | none=>x40 P T fun ti=>match ymo (opdS Γ I y) with
  | some us=>if us.length=ti.size then match ztk J ti.size (opdS Γ I x) us with
   | some (b,z)=>.eff (orr x++orr y) [b] [] [(b,z)] none
   | none=>.bad
   else .bad
  | none=>.bad
 | some _=>.bad
def yg6 (S:TypeId) (x:Operand) (f:Nat):HO:=x40 P S fun ti=>match ti.sh with
 | .struct fs=>match fs[f]? with
  | some (off,_,_)=>vO o (orr x) [] (ywi (opdS Γ I x) off)
  | none=>.bad
 | _=>.bad
def v04 (T:TypeId) (x y:Operand):HO:=x40 P T fun ti=>match z9d ti.sh (opdS Γ I x) (opdS Γ I y) with
 | some v=>vO o (orr x++orr y) [] (some v)
 | none=>oldO P I nb o
def vms (T:TypeId) (x:Operand) (f:Nat):HO:=x40 P T fun ti=>match ti.sh with
 | .struct fs=>match fs[f]? with
  | some (off,_,ft)=>x40 P ft fun tf=>vO o (orr x) [] (yk3 off tf (opdS Γ I x))
  | none=>.bad
 | _=>.bad
def zr9 (T:TypeId) (x y:Operand):HO:=x40 P T fun ti=>match ti.sh with
 | .array n e es=>x40 P e fun te=>match intS (opdS Γ I y) with
  | some ix=>if (0<=ix/\ix<n)/\es=te.size then vO o (orr x++orr y) [] (yk3 (ix.toNat*es) te (opdS Γ I x)) else .bad
  | none=>.bad
 | .string=>vO o (orr x++orr y) [] (zrb (opdS Γ I x) (opdS Γ I y))
 | _=>.bad
def fLen (x:Operand) (T:TypeId):HO:=match opdS Γ I x,mkTI P T with
 | .one (.dat c),some ti=>match y3p ti c,lenC c with
  | true,some n=>vO o (orr x) [] (some (.one (.dat (.raw (.int .i64 (n:Int))))))
  | _,_=>opH P Γ lit fn I J nb o
 | _,_=>opH P Γ lit fn I J nb o
def zw2 (c:Call):HO:=match c.callee with
 | .value x=>zbg P Γ I J o x c.args.toList
 | .builtin .len=>match c.args.toList,c.argTypes.toList with
  | [x],[T]=>fLen P Γ lit fn I J nb o x T
  | _,_=>opH P Γ lit fn I J nb o
 | .builtin _=>opH P Γ lit fn I J nb o
 | _=>.bad
def wwh (x:Operand) (n:Nat):HO:=vO o (orr x) [] (w9o (opdS Γ I x) n)
def fNil (x:Operand):HO:=if ptrH (opdS Γ I x)=true then vO o (orr x) [] (some (opdS Γ I x)) else .bad
def vw7 (T:TypeId) (ps:Array (Nat×Operand)):HO:=x40 P T fun ti=>if xjd ti=true/\ti.sh.agg=true then vO o (orrs ps.toList) [] ((xl4 (placeOf ti.sh) (ti.zc.map .dat) (vmp Γ I ps.toList)).map .agg) else .bad
def www (T:TypeId):HO:=x40 P T fun ti=>nO o [] [] (.one (.ptr nb 0)) [] (.box (ti.zc.map .dat) (some T))
def fBox (T:TypeId) (x:Operand):HO:=match ymo (opdS Γ I x) with
 | some hs=>nO o (orr x) [] (.one (.ptr nb 0)) [] (.box hs (some T))
 | none=>.bad
def opF:HO:=match o.op with
 | .move x=>yiv Γ I o x
 | .assign x=>yiv Γ I o x
 | .pick c x y=>y9n P Γ I nb o c x y
 | .binOp op _ x y _=>fBin P Γ I J nb o op x y
 | .unOp op _ x=>fUn P Γ I J nb o op x
 | .load T x=>vza P Γ I J o T x
 | .store T x y=>wgc P Γ I J o T x y
 | .fieldAddr S x f=>yg6 P Γ I o S x f
 | .indexAddr T x y=>v04 P Γ I nb o T x y
 | .field T x f=>vms P Γ I o T x f
 | .index T x y=>zr9 P Γ I o T x y
 | .extract x n=>wwh Γ I o x n
 | .nilCheck x=>fNil Γ I o x
 | .build T ps=>vw7 P Γ I o T ps
 | .alloc T=>www P nb o T
 | .box T x=>fBox Γ I nb o T x
 | .call c=>zw2 P Γ lit fn I J nb o c
 | _=>opH P Γ lit fn I J nb o
end
theorem zoz {lit fn:Bool} {I:List SV} {J:List SB} {nb:Nat} {o:Oper}:opF P Γ lit fn I J nb o=opH P Γ lit fn I J nb o\/(∃ rd rh e h new,opF P Γ lit fn I J nb o=.eff rd rh e h new/\Sound Γ P o I J nb rd rh e h new):=by
 have hv:∀{rd:List Nat} {v:SV},(∀ d,o.dst=some d->yvu Γ P o I J (d::rd) [] [(d,v)] [])->vO o rd [] (some v)=.bad\/∃ rd' rh e h new,vO o rd [] (some v)=.eff rd' rh e h new/\Sound Γ P o I J nb rd' rh e h new:=by
  intro rd v h;unfold vO
  cases hd:o.dst with
  | none=>exact .inl rfl
  | some d=>exact .inr ⟨_,_,_,_,_,rfl,h d hd⟩
 unfold opF
 split
 case h_4 op T x y U ho=>
  unfold fBin
  have e:opH P Γ lit fn I J nb o=opP P Γ I J nb o:=by unfold opH;rw [ho]
  split
  . rename_i p q hpq
    split
    . rename_i v hab
      cases hd:o.dst with
      | none=>
       left
       have:opP P Γ I J nb o=.bad:=by
        unfold opP;rw [ho];simp only [vO,oldO,hd]
        repeat' split
        all_goals first | rfl | simp_all
       rw [e,this];unfold vO;rw [hd]
      | some d=>
       right
       refine ⟨_,_,_,_,_,by unfold vO;rw [hd],?_⟩;exact w5q ho hd hpq hab
    . exact .inl e.symm
  . exact .inl e.symm
 case h_5 op T x ho=>
  unfold fUn
  have e:opH P Γ lit fn I J nb o=opP P Γ I J nb o:=by unfold opH;rw [ho]
  split
  . rename_i p hp
    split
    . rename_i v hab
      cases hd:o.dst with
      | none=>
       left
       have:opP P Γ I J nb o=.bad:=by
        unfold opP;rw [ho];simp only;unfold oldO;rw [hd]
       rw [e,this];unfold vO;rw [hd]
      | some d=>
       right
       refine ⟨_,_,_,_,_,by unfold vO;rw [hd],?_⟩;exact s_un ho hd hp hab
    . exact .inl e.symm
  . exact .inl e.symm
 case h_17 c ho=>
  unfold zw2
  split
  . rename_i x hc;left;unfold opH;rw [ho];simp only [hc]
  . rename_i hc
    split
    . rename_i x T ha ht;unfold fLen
      split
      . rename_i cc ti hx hti
        split
        . rename_i n hok hl
          have ho':o.op=.call { callee:=.builtin .len,args:=#[x],argTypes:=#[T] }:=by
           rw [ho];obtain ⟨cal,args,tys⟩:=c;simp only at hc ha ht;rw [hc,yw4 ha,ww6 ht]
          cases hd:o.dst with
          | none=>
           left
           have:opH P Γ lit fn I J nb o=.bad:=by
            unfold opH;rw [ho'];simp only [hx,xzp,oldO,hd]
           rw [this];unfold vO;rw [hd]
          | some d=>
           right
           refine ⟨_,_,_,_,_,by unfold vO;rw [hd],?_⟩;exact ws1 ho' hd hti hx hok hl
        . exact .inl rfl
      . exact .inl rfl
    . exact .inl rfl
  . exact .inl rfl
  . rename_i h1 h2 h3
    left;unfold opH;rw [ho]
    cases hcc:c.callee with
    | value x=>exact absurd hcc (h1 x)
    | builtin b=>exact absurd hcc (h3 b)
    | _=>simp only [hcc]
 all_goals first
  | exact .inl rfl
  | (rename_i ho;left;unfold opH;rw [ho];simp only;unfold opP;rw [ho];rfl)
  | (rename_i ho;left;unfold opH;rw [ho];rfl)
theorem SRL.of {J:List SB} {ρ:Nat->Value} {M:Nat->Nat->Prop}:∀{l:List AV} {r:List SV} {vs:List Value},zsa l=some r->RdBL M w vs l->SRL J ρ M w vs r:=v9u
theorem v4k {lit fn:Bool} {I:List SV} {J:List SB} {nb:Nat} {o:Oper} {f:FuncId} {l:List AV} {rd rh bs:List Nat} (h:opH P Γ lit fn I J nb o=.callD f l rd rh bs) {sl:List SV} (hl:zsa l=some sl) {J':List SB} {res:SV} (hc:vfe Γ P f (appL (frzE J bs) J) sl J' res) :
 wfn Γ P o I J (appL (ylm o res) I) J':=by
 obtain ⟨x,xs,ts,ho⟩:=vz0 h (.inl ⟨_,_,_,_,_,rfl⟩);rw [x5a ho] at h
 have ho':o.op=.call { callee:=.value x,args:=xs.toList.toArray,argTypes:=ts }:=by rw [ho]
 have hG:∀{f':FuncId} {caps:List SV} {rd' rh':List Nat},wq8 Γ I J x=some (f',caps,rd',rh')->zbg.callG Γ I J o xs.toList f' caps rd' rh'=.callD f l rd rh bs->wfn Γ P o I J (appL (ylm o res) I) J':=fun {f' caps rd' rh'} hcal hg=>by
  unfold zbg.callG at hg;split at hg
  . rename_i l' bs' ha
    cases hg;have harr:=vw0 ha;intro E ρ a w hI K Q hK;have hnt:=z0h ha
    have hnt1:vtv (wb2 Γ I xs.toList)=true:=by
     unfold vtv at hnt ⊢;rw [List.all_append,Bool.and_eq_true] at hnt;exact hnt.1
    obtain ⟨cv,hcv,hcr⟩:=yht hI hcal;have hsr:=(wmx hI xs.toList hnt1).append hcr;obtain ⟨hw1,_,hfz⟩:=Went.frz bs J hI.inv rfl harr (fun _=>.inl rfl);have hrb:=xp6 hw1.inv ha hfz (hsr.mv hw1.mv);have hcalls:=hc.2 _ ρ w _ hw1.inv (SRL.of hl hrb);unfold Oper.wp;rw [vkn ho' hcv hc.1 w];show Calls P f _ w _
    have e1:xs.toList.toArray.map a.eval++cv.toArray=(xs.toList.map a.eval++cv).toArray:=by simp
    rw [e1];refine hcalls.mono ?_;rintro e w' ⟨v,ρ',rfl,hw,hv⟩;exact hK _ _ ρ' (((hI.go hw1).go hw).dst hv)
  . split at hg<;>cases hg
 unfold zbg at h;split at h
 . split at h
   . split at h
     . unfold vO at h;repeat' split at h
       all_goals cases h
     . cases h
   . exact hG rfl h
 . rename_i t;split at h
   . split at h<;>cases h
   . split at h
     . rename_i f' caps rd' rh' hcal;exact hG hcal h
     . cases h
 . cases h
theorem SVR.refs {J:List SB} {ρ:Nat->Value} {M:Nat->Nat->Prop} {w:World} {v:Value} {x:SV} (h:SVR J ρ M w v x):∀ b∈vp6 x,okB J b:=fun b hb=>by
 cases x with
 | tup l=>
  obtain ⟨vs,_,h⟩:=h;rw [Hp.z0k,h.z0k] at hb;exact h.refs b hb
 | one h'=>exact SVR0.refs (x:=.one h') h b hb
 | agg l=>exact SVR0.refs (x:=.agg l) h b hb
 | _=>cases hb
theorem RI.zjc {E:HEnv} {J:List SB} {ρ:Nat->Value} {I:List SV} {a:Act} (h:RI Γ E ρ I (J++[.fresh]) a w):RI Γ E ρ I J a w:=by
 have hget:∀(i:Nat) (x:SB),J[i]? = some x->(J++[SB.fresh])[i]? = some x:=fun i x hi=>by rw [List.getElem?_append_left (List.getElem?_eq_some_iff.1 hi).1];exact hi
 have hok:∀ b,okB (J++[.fresh]) b->okB J b:=fun b ⟨x,hx,hf⟩=>by
  rw [List.getElem?_append] at hx;split at hx
  . exact ⟨x,hx,hf⟩
  . rename_i hlt
    cases hn:b-J.length with
    | zero=>rw [hn] at hx;simp at hx;exact absurd hx.symm hf
    | succ n=>rw [hn] at hx;simp at hx
 have hM:∀ b o,MX E.Mo ρ J b o->MX E.Mo ρ (J++[.fresh]) b o:=by
  rintro b o (hm | ⟨i,x,hi,hx⟩)
  . exact .inl hm
  . exact .inr ⟨i,x,hget i x hi,hx⟩
 have hw:=h.went
 refine ⟨h.hd,h.hs,fun i x hi=>(h.slot i x hi).at hM (fun b hb=>⟨hok b ((h.slot i x hi).refs b hb),rfl⟩),fun b hb=>hok b (hw.ok b hb),hw.rho,hw.keep.trans (ya3.shrink w hM),hw.grow,
  ⟨hw.inv.bnd,fun i x hi=>(hw.inv.blk i x (hget i x hi)).at hM (fun b hb=>⟨hok b ((hw.inv.blk i x (hget i x hi)).refs b hb),rfl⟩),fun i j x y hi hj=>hw.inv.inj i j x y (hget i x hi) (hget j y hj),fun i x hi=>hw.inv.sep i x (hget i x hi),hw.inv.glob.keep (ya3.shrink w hM)⟩,
  hw.size,hw.os,hw.tape,hw.output,hw.frame,fun k ⟨i,x,hi,hx⟩=>hw.fresh k ⟨i,x,hget i x hi,hx⟩⟩
theorem StH.zjc {e:List SB} {I:List SV} {J:List SB}:StH Γ e I (J++[.fresh]) I J:=fun _ ρ _ _ _ h=>⟨ρ,h.zjc⟩
inductive GR where
 | plain
 | when (d:Nat) (c b:Bool)
 | skip (d:Nat)
 | bad
def znr (ops:List Oper) (I:List SV) (o:Oper):GR:=match o.guard with
 | none=>.plain
 | some (j,b)=>match (ops[j]?).bind (·.dst) with
  | some d=>match gtS I d with
   | .one (.dat (.raw (.bool c)))=>.when d c b
   | .undef=>.skip d
   | _=>.bad
  | none=>.bad
theorem wy8 {ops:Array Oper} {I:List SV} {o:Oper}:(znr ops.toList I o=.plain->o.guard=none)/\(∀ d c b,znr ops.toList I o=.when d c b->∃ j,o.guard=some (j,b)/\(ops[j]?).bind (·.dst)=some d/\gtS I d=.one (.dat (.raw (.bool c))))/\
 (∀ d,znr ops.toList I o=.skip d->∃ j b,o.guard=some (j,b)/\(ops[j]?).bind (·.dst)=some d/\gtS I d=.undef):=by
 unfold znr
 cases hg:o.guard with
 | none=>exact ⟨fun _=>rfl,fun d c b h=>(by cases h),fun d h=>(by cases h)⟩
 | some p=>
  obtain ⟨j,b⟩:=p;simp only [Array.getElem?_toList]
  cases hd:(ops[j]?).bind (·.dst) with
  | none=>exact ⟨fun h=>(by cases h),fun d c b h=>(by cases h),fun d h=>(by cases h)⟩
  | some d=>
   simp only []
   split
   . rename_i c hc;refine ⟨fun h=>(by cases h),fun d' c' b' h=>?_,fun d h=>(by cases h)⟩
     cases h;exact ⟨j,rfl,hd,hc⟩
   . rename_i hc;refine ⟨fun h=>(by cases h),fun d' c' b' h=>(by cases h),fun d' h=>?_⟩
     cases h;exact ⟨j,b,rfl,hd,hc⟩
   . exact ⟨fun h=>(by cases h),fun d c b h=>(by cases h),fun d h=>(by cases h)⟩
section
variable {β:Type}
def frcL {α:Type}:List α->(List α->β)->β
 | [],k=>k []
 | x::l,k=>frcL l fun l=>k (x::l)
def frcN:Nat->(Nat->β)->β
 | 0,k=>k 0
 | n+1,k=>k (n+1)
def frcI:Int->(Int->β)->β
 | .ofNat n,k=>frcN n fun n=>k (.ofNat n)
 | .negSucc n,k=>frcN n fun n=>k (.negSucc n)
def wnf:ByteArray->(ByteArray->β)->β
 | ⟨⟨l⟩⟩,k=>frcL l fun l=>k ⟨⟨l⟩⟩
def frcV:Value->(Value->β)->β
 | .bool true,k=>k (.bool true)
 | .bool false,k=>k (.bool false)
 | .int kd n,k=>frcI n fun n=>k (.int kd n)
 | .string s,k=>wnf s fun s=>k (.string s)
 | .slice a n c,k=>k (.slice a n c)
 | .pointer a,k=>k (.pointer a)
 | v,k=>k v
def zkq:List Int->(List Int->β)->β
 | [],k=>k []
 | x::l,k=>frcI x fun x=>zkq l fun l=>k (x::l)
def frcC:Cell->(Cell->β)->β
 | .raw v,k=>frcV v fun v=>k (.raw v)
 | .ints kd l,k=>zkq l fun l=>k (.ints kd l)
 | .sl n l,k=>frcL l fun l=>k (.sl n l)
 | c,k=>k c
def frcH:HC->(HC->β)->β
 | .dat c,k=>frcC c fun c=>k (.dat c)
 | .ptr b o,k=>frcN o fun o=>k (.ptr b o)
 | .sl b es lo n,k=>frcN lo fun lo=>frcN n fun n=>k (.sl b es lo n)
 | h,k=>k h
def xpn:List HC->(List HC->β)->β
 | [],k=>k []
 | x::l,k=>frcH x fun x=>xpn l fun l=>k (x::l)
def frcS:SV->(SV->β)->β
 | .one h,k=>frcH h fun h=>k (.one h)
 | .agg l,k=>xpn l fun l=>k (.agg l)
 | .tup l,k=>frcL l fun l=>k (.tup l)
 | .undef,k=>k .undef
 | x,k=>k x
def vvy:List SV->(List SV->β)->β
 | [],k=>k []
 | x::l,k=>frcS x fun x=>vvy l fun l=>k (x::l)
def frcE:List (Nat×SV)->(List (Nat×SV)->β)->β
 | [],k=>k []
 | (d,x)::l,k=>frcS x fun x=>frcE l fun l=>k ((d,x)::l)
def frcB:SB->(SB->β)->β
 | .box l T,k=>xpn l fun l=>k (.box l T)
 | .arr c n T,k=>frcC c fun c=>frcN n fun n=>k (.arr c n T)
 | .map es,k=>frcL es fun es=>k (.map es)
 | b,k=>k b
def zq4:List (Nat×SB)->(List (Nat×SB)->β)->β
 | [],k=>k []
 | (d,x)::l,k=>frcB x fun x=>zq4 l fun l=>k ((d,x)::l)
theorem zsp {α:Type}:∀(l:List α) (k:List α->β),frcL l k=k l
 | [],_=>rfl
 | _::l,_=>zsp l _
theorem xbt (n:Nat) (k:Nat->β):frcN n k=k n:=by cases n<;>rfl
theorem y9e (n:Int) (k:Int->β):frcI n k=k n:=by cases n<;>exact xbt _ _
theorem v01 (s:ByteArray) (k:ByteArray->β):wnf s k=k s:=by obtain ⟨⟨l⟩⟩:=s;exact zsp _ _
theorem yye (v:Value) (k:Value->β):frcV v k=k v:=by
 cases v with
 | bool b=>cases b<;>rfl
 | int kd n=>exact y9e _ _
 | string s=>show wnf s (fun s=>k (.string s))=_;exact v01 _ _
 | _=>rfl
theorem xxv:∀(l:List Int) (k:List Int->β),zkq l k=k l
 | [],_=>rfl
 | _::l,_=>(y9e _ _).trans (xxv l _)
theorem xiz (c:Cell) (k:Cell->β):frcC c k=k c:=by
 cases c with
 | raw v=>exact yye _ _
 | ints kd l=>exact xxv _ _
 | sl n l=>exact zsp _ _
 | _=>rfl
theorem v4h (h:HC) (k:HC->β):frcH h k=k h:=by
 cases h with
 | dat c=>exact xiz _ _
 | ptr b o=>exact xbt _ _
 | sl b es lo n=>exact (xbt _ _).trans (xbt _ _)
 | _=>rfl
theorem zj5:∀(l:List HC) (k:List HC->β),xpn l k=k l
 | [],_=>rfl
 | _::l,_=>(v4h _ _).trans (zj5 l _)
theorem yb8 (x:SV) (k:SV->β):frcS x k=k x:=by
 cases x with
 | one h=>exact v4h _ _
 | agg l=>exact zj5 _ _
 | tup l=>exact zsp _ _
 | _=>rfl
theorem x65:∀(l:List SV) (k:List SV->β),vvy l k=k l
 | [],_=>rfl
 | _::l,_=>(yb8 _ _).trans (x65 l _)
theorem vid:∀(l:List (Nat×SV)) (k:List (Nat×SV)->β),frcE l k=k l
 | [],_=>rfl
 | (_,_)::l,_=>(yb8 _ _).trans (vid l _)
theorem x5x (x:SB) (k:SB->β):frcB x k=k x:=by
 cases x with
 | box l T=>exact zj5 _ _
 | arr c n T=>exact (xiz _ _).trans (xbt _ _)
 | map es=>exact zsp _ _
 | _=>rfl
theorem we7:∀(l:List (Nat×SB)) (k:List (Nat×SB)->β),zq4 l k=k l
 | [],_=>rfl
 | (_,_)::l,_=>(x5x _ _).trans (we7 l _)
end
def y3w (ops:List Oper):Option Nat->Bool
 | none=>false
 | some d=>ops.any fun o=>match o.op with
  | .call c=>match c.callee with
   | .builtin .append=>match c.args.toList with
    | [_,.tmp t]=>t==d
    | _=>false
   | _=>false
  | _=>false
section
variable (cD:FuncId->List AV->Option AV) (cH:FuncId->List SB->List SV->Option (List SB×SV×List Nat))
def evDo (o:Oper) (I:List SV) (J:List SB):HO->Option (List SV×List SB×List Nat)
 | .eff _ _ e h none=>frcE e fun e=>zq4 h fun h=>some (appL e I,appL h J,h.map (·.1))
 | .eff _ _ e h (some x)=>frcE e fun e=>zq4 h fun h=>frcB x fun x=>some (appL e I,appL h J++[x],h.map (·.1))
 | .callD f l _ _ bs=>match cD f l with
  | some res=>match resS J.length res with
   | some (y,none)=>frcS y fun y=>some (appL (ylm o y) I,appL (frzE J bs) J,bs)
   | some (y,some x)=>frcS y fun y=>frcB x fun x=>some (appL (ylm o y) I,appL (frzE J bs) J++[x],bs)
   | none=>none
  | none=>match zsa l with
   | some sl=>match cH f (appL (frzE J bs) J) sl with
    | some (J',res,ch)=>frcS res fun res=>frcL J' fun J'=>some (appL (ylm o res) I,J',bs++ch)
    | none=>none
   | none=>none
 | .callH f l _=>match cH f J l with
  | some (J',res,ch)=>frcS res fun res=>frcL J' fun J'=>some (appL (ylm o res) I,J',ch)
  | none=>none
 | .look r z ok _ _=>match o.dst with
  | some _=>frcS (woh ok r z) fun y=>some (appL (ylm o y) I,J,[])
  | none=>none
 | _=>none
def evGd (P:Program) (Γ:List (Nat×List Cell)) (ops:List Oper) (o:Oper) (I:List SV) (J:List SB):GR->Option (List SV×List SB×List Nat)
 | .plain=>evDo cD cH o I J (opF P Γ (y3w ops o.dst) false I J J.length o)
 | .when _ c b=>if c=b then evDo cD cH o I J (opF P Γ (y3w ops o.dst) false I J J.length o) else some (appL (ylm o .undef) I,J,[])
 | .skip _=>some (appL (ylm o .undef) I,J,[])
 | .bad=>none
def wik (P:Program) (Γ:List (Nat×List Cell)) (ops:List Oper):List Oper->List SV->List SB->List Nat->Option (List SV×List SB×List Nat)
 | [],I,J,wl=>some (I,J,wl)
 | o::r,I,J,wl=>match evGd cD cH P Γ ops o I J (znr ops I o) with
  | some (I',J',ws)=>frcL I' fun I'=>frcL J' fun J'=>wik P Γ ops r I' J' (ws++wl)
  | none=>none
def opRd:Op->List Nat
 | .move x=>orr x
 | .assign x=>orr x
 | .pick c x y=>orr c++orr x++orr y
 | .binOp _ _ x y _=>orr x++orr y
 | .unOp _ _ x=>orr x
 | .load _ x=>orr x
 | .fieldAddr _ x _=>orr x
 | .indexAddr _ x y=>orr x++orr y
 | .field _ x _=>orr x
 | .index _ x y=>orr x++orr y
 | .extract x _=>orr x
 | .nilCheck x=>orr x
 | .build _ ps=>orrs ps.toList
 | .slice _ x lo hi _=>orr x++orrO lo++orrO hi
 | .convert _ _ x=>orr x
 | .lookup _ x y _=>orr x++orr y
 | .call c=>(match c.callee with
  | .value (.tmp t)=>[t]
  | _=>[])++orrL c.args.toList
 | _=>[]
def sRd (o:Oper):List Nat:=v9o o++opRd o.op
def gRd (ops:List Oper) (o:Oper):List Nat:=match o.guard with
 | none=>[]
 | some (j,_)=>match (ops[j]?).bind (·.dst) with
  | some d=>[d]
  | none=>[]
def sHR (ops:List Oper) (o:Oper):HR:=⟨gRd ops o++sRd o,[],ylm o .any,[]⟩
def inRd (l r:List Nat):Bool:=l.all fun x=>r.contains x
def wh3 (o:Oper) (I:List SV) (J:List SB):HO->Option (List SV×List SB×List Nat)
 | .eff rd _ [(d,x)] [] none=>if inRd rd (sRd o)=true/\o.dst=some d then frcS x fun x=>some (I.set d x,J,[]) else none
 | .callD f l rd _ []=>match cD f l,o.dst with
  | some res,some d=>if inRd rd (sRd o)=true then match resS J.length res with
   | some (y,none)=>frcS y fun y=>some (I.set d y,J,[])
   | _=>none
   else none
  | _,_=>none
 | _=>none
def vhm (P:Program) (Γ:List (Nat×List Cell)) (ops:List Oper) (o:Oper) (I:List SV) (J:List SB):GR->Option (List SV×List SB×List Nat)
 | .plain=>wh3 cD o I J (opF P Γ (y3w ops o.dst) false I J J.length o)
 | .when _ c b=>if c=b then wh3 cD o I J (opF P Γ (y3w ops o.dst) false I J J.length o) else some (appL (ylm o .undef) I,J,[])
 | .skip _=>some (appL (ylm o .undef) I,J,[])
 | .bad=>none
def vsc (P:Program) (Γ:List (Nat×List Cell)) (ops:List Oper):List Oper->List SV->List SB->List Nat->Option (List SV×List SB×List Nat)
 | [],I,J,wl=>some (I,J,wl)
 | o::r,I,J,wl=>match vhm cD P Γ ops o I J (znr ops I o) with
  | some (I',J',ws)=>vsc P Γ ops r I' J' (ws++wl)
  | none=>none
def va6 (o:Oper):Bool:=match o.op with
 | .alloc _=>false
 | .box _ _=>false
 | .store _ _ _=>false
 | .buildSlice _ _ _=>false
 | .makeMap _ _=>false
 | .makeFunc _ _ _=>false
 | .mapUpdate _ _ _ _=>false
 | .call c=>match c.callee with
  | .value _=>true
  | .builtin b=>match b with
   | .len=>true
   | _=>false
  | _=>false
 | _=>true
def mkM:List Nat->Nat
 | []=>0
 | i::l=>Nat.lor (Nat.pow 2 i) (mkM l)
def getM:List Nat->Nat->Nat
 | [],_=>0
 | x::_,0=>x
 | _::l,i+1=>getM l i
def y80 (acc:List Nat):List Nat->Nat
 | []=>0
 | d::l=>Nat.lor (Nat.lor (Nat.pow 2 d) (getM acc d)) (y80 acc l)
def befM:List Oper->List Nat->List Nat
 | [],acc=>acc
 | o::r,acc=>frcN (y80 acc (direct o)) fun m=>befM r (acc++[m])
def apM:Nat->Nat->Nat->Nat->List (Nat×Nat)->Bool
 | _,_,_,_,[]=>true
 | b,r,w,i,(r',w')::l=>(Nat.beq (Nat.land (Nat.shiftRight b i) 1) 1||(Nat.beq (Nat.land w' r) 0&&Nat.beq (Nat.land w r') 0))&&apM b r w (i+1) l
def indM:List Nat->List (Nat×Nat)->List (Nat×Nat)->Bool
 | [],_,[]=>true
 | b::bs,before,(r,w)::l=>apM b r w 0 before&&indM bs (before++[(r,w)]) l
 | _,_,_=>false
def frcM:List HR->(List (Nat×Nat)->Bool)->Bool
 | [],k=>k []
 | s::l,k=>frcN (mkM s.rd) fun r=>frcN (mkM s.ws) fun w=>frcM l fun l=>k ((r,w)::l)
def vca (l:List Oper) (recs:List HR):Bool:=
 vwa 0 l&&(recs.all fun s=>(s.ws.all fun x=>s.rd.contains x)&&isNil s.heff)&&frcM recs fun rs=>indM (befM l []) [] rs
def stOk (ops:List Oper):Bool:=ops.all va6&&vca ops (ops.map (sHR ops))
def vzu (P:Program) (Γ:List (Nat×List Cell)) (ops:List Oper) (I:List SV) (J:List SB) (wl:List Nat):Option (List SV×List SB×List Nat):=match stOk ops with
 | true=>vsc cD P Γ ops ops I J wl
 | false=>none
def w3h (o:Oper) (nb:Nat) (J:List SB):HO->Option HR
 | .eff rd rh e h none=>some ⟨rd,rh,e,h⟩
 | .eff rd rh e h (some x)=>if xvh J nb=true then some ⟨rd,nb::rh,e,h++[(nb,x)]⟩ else none
 | .callD f l rd rh bs=>match cD f l with
  | some res=>match resS nb res with
   | some (y,none)=>some ⟨rd,rh++bs,ylm o y,frzE J bs⟩
   | some (y,some x)=>if xvh J nb=true then some ⟨rd,nb::(rh++bs),ylm o y,frzE J bs++[(nb,x)]⟩ else none
   | none=>none
  | none=>none
 | .callH f l rd=>match cH f J l with
  | some (J',res,ch)=>if J'.length=J.length then some ⟨rd,List.range J.length,ylm o res,ch.map fun i=>(i,gB J' i)⟩ else none
  | none=>none
 | .look r z ok rd rh=>match o.dst with
  | some _=>some ⟨rd,rh,ylm o (woh ok r z),[]⟩
  | none=>none
 | _=>none
def onD (d:Nat) (s:HR):HR:=⟨d::s.rd,s.rh,s.eff,s.heff⟩
def ws8 (P:Program) (Γ:List (Nat×List Cell)) (ops:List Oper) (nb:Nat) (o:Oper) (I:List SV) (J:List SB):GR->Option HR
 | .plain=>w3h cD cH o nb J (opF P Γ (y3w ops o.dst) false I J nb o)
 | .when d c b=>if c=b then (w3h cD cH o nb J (opF P Γ (y3w ops o.dst) false I J nb o)).map (onD d) else some ⟨d::v9o o,[],ylm o .undef,[]⟩
 | .skip d=>some ⟨d::v9o o,[],ylm o .undef,[]⟩
 | .bad=>none
def xkb (P:Program) (Γ:List (Nat×List Cell)) (ops:List Oper) (nb:Nat):List Oper->List HR->List SV->List SB->List Nat->Option (List SV×List SB×List Nat)
 | [],acc,I,J,wl=>if wfm ops acc=true then some (I,J,wl) else none
 | o::r,acc,I,J,wl=>match ws8 cD cH P Γ ops nb o I J (znr ops I o) with
  | some s=>frcE s.eff fun e=>zq4 s.heff fun h=>frcL (appL e I) fun I=>frcL (appL h J) fun J=>xkb P Γ ops nb r (acc++[s]) I J (s.heff.map (·.1)++wl)
  | none=>none
def vo2 (n:Nat) (J:List SB):List SB:=match J.drop n with
 | [.fresh]=>J.take n
 | _=>J
def y7c (body:List SV->List SB->List Nat->Option (Exit×List SV×List SB×List Nat)):Nat->List SV->List SB->List Nat->Option (Exit×List SV×List SB×List Nat)
 | 0,_,_,_=>none
 | n+1,I,J,wl=>match body I J wl with
  | some (.normal,I',J',wl')=>y7c body n I' J' wl'
  | r=>r
def wgq (P:Program) (Γ:List (Nat×List Cell)) (N:Nat):Code->List SV->List SB->List Nat->Option (Exit×List SV×List SB×List Nat)
 | .skip,I,J,wl=>some (.normal,I,J,wl)
 | .region _ ops false,I,J,wl=>match wik cD cH P Γ ops.toList ops.toList I J wl with
  | some (s,h,wl)=>some (.normal,s,h,wl)
  | none=>none
 | .region _ ops true,I,J,wl=>if P.follows .mixedOrders=true then (match vzu cD P Γ ops.toList I J wl with
  | some (s,h,wl)=>some (.normal,s,h,wl)
  | none=>match xkb cD cH P Γ ops.toList J.length ops.toList [] I (J++[.fresh]) wl with
   | some (s,h,wl)=>some (.normal,s,vo2 J.length h,wl)
   | none=>none) else none
 | .seq x y,I,J,wl=>match wgq P Γ N x I J wl with
  | some (.normal,s,h,wl)=>wgq P Γ N y s h wl
  | r=>r
 | .cond c x y,I,J,wl=>match opdS Γ I c with
  | .one (.dat (.raw (.bool true)))=>wgq P Γ N x I J wl
  | .one (.dat (.raw (.bool false)))=>wgq P Γ N y I J wl
  | _=>none
 | .block id x,I,J,wl=>match wgq P Γ N x I J wl with
  | some (.exit j,s,h,wl)=>if j=id then some (.normal,s,h,wl) else some (.exit j,s,h,wl)
  | r=>r
 | .loop x,I,J,wl=>y7c (wgq P Γ N x) N I J wl
 | .exit id,I,J,wl=>some (.exit id,I,J,wl)
 | .ret,I,J,wl=>some (.ret,I,J,wl)
 | .label _,I,J,wl=>some (.normal,I,J,wl)
 | .scope x,I,J,wl=>match wgq P Γ N x I J wl with
  | some (.goto _,_,_,_)=>none
  | r=>r
 | _,_,_,_=>none
end
def yiz (cD:FuncId->List AV->Option AV) (cH:FuncId->List SB->List SV->Option (List SB×SV×List Nat)) (P:Program) (Γ:List (Nat×List Cell)) (N:Nat) (f:FuncId) (l:List SV) (J:List SB):Option (SV×List SB×List Nat):=match P.funcs[f]? with
 | some fn=>match fn.body,fn.name == "runtime.NumGoroutine" with
  | some c,false=>match vvy (l++List.replicate (fn.ntmps-l.length) .undef) fun I=>wgq cD cH P Γ N c I J [] with
   | some (.ret,I,h,wl)=>(zf4 P I h fn.results.toList).map fun x=>(x,h,wl)
   | some (.normal,I,h,wl)=>(zf4 P I h fn.results.toList).map fun x=>(x,h,wl)
   | _=>none
  | _,_=>none
 | none=>none
def ltB (m:Nat) (l:List Nat):Bool:=l.all fun b=>decide (b<m)
def wje (n:Nat) (x:SV) (J:List SB):List SB×SV:=match wle J x with
 | some (av,bs)=>match bs.all (fun b=>decide (n<=b)),resS 0 av with
  | true,some (y,none)=>(appL (frzE J bs) J,y)
  | _,_=>(J,x)
 | none=>(J,x)
def y6o (n:Nat) (r:List SB×SV):List SB×SV:=if (ltB n (vp6 r.2)&&(r.1.take n).all (fun b=>ltB n (z0y b)))=true then (r.1.take n,r.2) else r
mutual
def evD (P : Program) (Γ : List (Nat × List Cell)) (known : FuncId → List AV → Option AV) (N : Nat) : Nat → FuncId → List AV → Option AV
 | 0,_,_=>none
 | n + 1, f, l => match known f l with
  | some r=>some r
  | none=>match zsa l with
   | some sl=>match yiz (evD P Γ known N n) (evH P Γ known N n) P Γ N f sl [] with
    | some (x,J,_)=>(wle J x).map (·.1)
    | none=>none
   | none=>none
def evH (P:Program) (Γ:List (Nat×List Cell)) (known:FuncId->List AV->Option AV) (N:Nat):Nat->FuncId->List SB->List SV->Option (List SB×SV×List Nat)
 | 0,_,_,_=>none
 | n+1,f,J,l=>match yiz (evD P Γ known N n) (evH P Γ known N n) P Γ N f l J with
  | some (x,h,wl)=>match y6o J.length (wje J.length x h) with
   | (h',y)=>some (h',y,wl.filter (fun i=>decide (i<J.length)))
  | none=>none
end
end Go.Hp
