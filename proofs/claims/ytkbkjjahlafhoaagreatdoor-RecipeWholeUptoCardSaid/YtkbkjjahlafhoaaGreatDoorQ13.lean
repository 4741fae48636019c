/- The proof, part Q13: Hk, H1, Hx. -/
import Derived.Test.YtkbkjjahlafhoaaGreatDoorQ10
import Derived.Test.YtkbkjjahlafhoaaGreatDoorQ12
import Derived.Scope
namespace Go.Hp
open Go Go.RowKit Go.Slot
variable {P:Program} {Γ:List (Nat×List Cell)}
variable {T:TypeId} {x:Operand} {d i j:Nat} {v:Value} {c:Code} {ρ:Nat->Value} {w:World} {rd rh:List Nat} {e:List SB} {r:Nat->Nat} {Q:Exit->List SV->List SB->Prop}
def wj1:SV->SV->Option (Value×Value)
 | .one (.dat (.raw a)),.one (.dat (.raw b))=>some (a,b)
 | _,_=>none
def rawS:SV->Option Value
 | .one (.dat (.raw a))=>some a
 | _=>none
theorem v4u {o:Oper} {J:List SV} {η:List SB} {op:BinOp} {U:TypeId} {y:Operand} (ho:o.op=.binOp op T x y U) (hdst:o.dst=some d) {p q:Value} (hx:wj1 (opdS Γ J x) (opdS Γ J y)=some (p,q)) (hab:abin op p q=some v) :
 x6g Γ P o J η (d::(orr x++orr y)) [] [(d,.one (.dat (.raw v)))] []:=by
 have hxy:opdS Γ J x=.one (.dat (.raw p))/\opdS Γ J y=.one (.dat (.raw q)):=by
  unfold wj1 at hx;split at hx
  . rename_i a b h1 h2;cases hx;exact ⟨h1,h2⟩
  . cases hx
 refine x6g.pure hdst (fun E ρ J' η' a w hag hah hI=>⟨v,?_,RdC.raw (zwi hab)⟩);have sx:=hI.opd x;have sy:=hI.opd y;rw [hag.opd (fun t ht=>by simp [ht]),hxy.1] at sx;rw [hag.opd (fun t ht=>by simp [ht]),hxy.2] at sy;have ex:a.eval x=p:=RdC.v7q sx;have ey:a.eval y=q:=RdC.v7q sy;simp [execOp,ho,ex,ey,xc0 hab,xbk hab]
theorem s_un {o:Oper} {J:List SV} {η:List SB} {op:UnOp} (ho:o.op=.unOp op T x) (hdst:o.dst=some d) {p:Value} (hx:rawS (opdS Γ J x)=some p) (hab:aun op p=some v) :
 x6g Γ P o J η (d::orr x) [] [(d,.one (.dat (.raw v)))] []:=by
 have hxx:opdS Γ J x=.one (.dat (.raw p)):=by
  unfold rawS at hx;split at hx
  . rename_i a h1;cases hx;exact h1
  . cases hx
 have hone:v.oneCell'=true:=by unfold aun at hab;split at hab<;>first | (cases hab;rfl) | cases hab
 refine x6g.pure hdst (fun E ρ J' η' a w hag hah hI=>⟨v,?_,RdC.raw hone⟩);have sx:=hI.opd x;rw [hag.opd (fun t ht=>by simp [ht]),hxx] at sx;have ex:a.eval x=p:=RdC.v7q sx;unfold aun at hab;split at hab
 . cases hab;simp [execOp,ho,ex,Op.unary,Op.intArith]
 . cases hab;simp [execOp,ho,ex,Op.unary]
 . cases hab
theorem ykz {o:Oper} {J:List SV} {η:List SB} (ho:o.op=.call { callee:=.builtin .len,args:=#[x],argTypes:=#[T] }) (hdst:o.dst=some d) {ti:TI} (hti:mkTI P T=some ti) {c:Cell} {n:Nat}
 (hx:opdS Γ J x=.one (.dat c)) (hok:wi2 ti c=true) (hl:lenC c=some n):x6g Γ P o J η (d::orr x) [] [(d,.one (.dat (.raw (.int .i64 (n:Int)))))] []:=by
 refine x6g.pure hdst (fun E ρ J' η' a w hag hah hI=>⟨_,?_,RdC.raw rfl⟩);have sx:=hI.opd x;rw [hag.opd (fun t ht=>by simp [ht]),hx] at sx;have hti':=xat hti;have hrd:RdT (MX E.Mo ρ η') w (fun _=>⟨Go.undef,0⟩) (a.eval x) c:=RdT.of sx
 have key:(Builtin.len_ #[T] o.type #[a.eval x]).run P w=.ok (.int .i64 n) w:=by
  rcases hrd.len hl with ⟨ad,cap,hv,hns⟩ | ⟨s,rfl,hv,rfl⟩
  . rw [hv]
    have:∃ e es eb ik,ti.sh=.slice e es eb ik:=by
     unfold wi2 at hok;split at hok
     . exact absurd rfl (hns _)
     . split at hok
       . rename_i h;exact ⟨_,_,_,_,h⟩
       . cases hok
    obtain ⟨e,es,eb,ik,hsh⟩:=this;exact Slot.run_len_slice hti' hsh _ _ _ _ w
  . rw [hv]
    have hsh:ti.sh=.string:=by
     simp only [wi2] at hok;split at hok
     . assumption
     . cases hok
    obtain ⟨dd,i,z,hd,hi,hz,_,_,_,_,_,hsh'⟩:=hti'.ex
    have:=vgt (hsh'.symm.trans hsh)
    subst this;simp [Builtin.len_,y9m hd,goInt]
 rw [vli ho,show (#[x]:Array Operand).map a.eval=#[a.eval x] from by simp]
 have:∀ cs,(builtin .len #[T] o.type cs #[a.eval x]).run P w=.ok (.value (.int .i64 n)) w:=fun cs=>by
  simp only [builtin,Sem.run_bind,key];rfl
 exact this _
section
variable (P:Program) (Γ:List (Nat×List Cell)) (lit fn:Bool) (J:List SV) (η:List SB) (nb:Nat) (o:Oper)
def x44 (x:Operand):HO:=vO o (orr x) [] (some (opdS Γ J x))
def vhf (c x y:Operand):HO:=match z0q (opdS Γ J c) (opdS Γ J x) (opdS Γ J y) with
 | some v=>vO o (orr c++orr x++orr y) [] (some v)
 | none=>oldO P J nb o
def fBin (op:BinOp) (x y:Operand):HO:=match wj1 (opdS Γ J x) (opdS Γ J y) with
 | some (p,q)=>match abin op p q with
  | some v=>vO o (orr x++orr y) [] (some (.one (.dat (.raw v))))
  | none=>opP P Γ J η nb o
 | none=>opP P Γ J η nb o
def fUn (op:UnOp) (x:Operand):HO:=match rawS (opdS Γ J x) with
 | some p=>match aun op p with
  | some v=>vO o (orr x) [] (some (.one (.dat (.raw v))))
  | none=>opP P Γ J η nb o
 | none=>opP P Γ J η nb o
def xkx (T:TypeId) (x:Operand):HO:=w3q P T fun ti=>match seeH η (opdS Γ J x) with
 | some (rh,hs)=>vO o (orr x) rh (wc3 ti hs)
 | none=>.bad
def vy0 (T:TypeId) (x y:Operand):HO:=match o.dst with
 | none=>w3q P T fun ti=>match xb6 (opdS Γ J y) with
  | some us=>if us.length=ti.size then match zj0 η ti.size (opdS Γ J x) us with
   | some (b,z)=>.eff (orr x++orr y) [b] [] [(b,z)] none
   | none=>.bad
   else .bad
  | none=>.bad
 | some _=>.bad
def vdl (S:TypeId) (x:Operand) (f:Nat):HO:=w3q P S fun ti=>match ti.sh with
 | .struct fs=>match fs[f]? with
  | some (off,_,_)=>vO o (orr x) [] (z9y (opdS Γ J x) off)
  | none=>.bad
 | _=>.bad
def w6m (T:TypeId) (x y:Operand):HO:=w3q P T fun ti=>match vpm ti.sh (opdS Γ J x) (opdS Γ J y) with
 | some v=>vO o (orr x++orr y) [] (some v)
 | none=>oldO P J nb o
def xa7 (T:TypeId) (x:Operand) (f:Nat):HO:=w3q P T fun ti=>match ti.sh with
 | .struct fs=>match fs[f]? with
  | some (off,_,ft)=>w3q P ft fun tf=>vO o (orr x) [] (xya off tf (opdS Γ J x))
  | none=>.bad
 | _=>.bad
def xyd (T:TypeId) (x y:Operand):HO:=w3q P T fun ti=>match ti.sh with
 | .array n e es=>w3q P e fun te=>match intS (opdS Γ J y) with
  | some ix=>if (0<=ix/\ix<n)/\es=te.size then vO o (orr x++orr y) [] (xya (ix.toNat*es) te (opdS Γ J x)) else .bad
  | none=>.bad
 | .string=>vO o (orr x++orr y) [] (x96 (opdS Γ J x) (opdS Γ J y))
 | _=>.bad
def fLen (x:Operand) (T:TypeId):HO:=match opdS Γ J x,mkTI P T with
 | .one (.dat c),some ti=>match wi2 ti c,lenC c with
  | true,some n=>vO o (orr x) [] (some (.one (.dat (.raw (.int .i64 (n:Int))))))
  | _,_=>opH P Γ lit fn J η nb o
 | _,_=>opH P Γ lit fn J η nb o
def v90 (c:Call):HO:=match c.callee with
 | .value x=>wz2 P Γ (ys6 lit fn) J η o x c.args.toList
 | .builtin .len=>match c.args.toList,c.argTypes.toList with
  | [x],[T]=>fLen P Γ lit fn J η nb o x T
  | _,_=>opH P Γ lit fn J η nb o
 | .builtin _=>opH P Γ lit fn J η nb o
 | _=>.bad
def ws6 (x:Operand) (n:Nat):HO:=vO o (orr x) [] (wza (opdS Γ J x) n)
def fNil (x:Operand):HO:=if ptrH (opdS Γ J x)=true then vO o (orr x) [] (some (opdS Γ J x)) else .bad
def wqd (T:TypeId) (ps:Array (Nat×Operand)):HO:=w3q P T fun ti=>if z01 ti=true/\ti.sh.agg=true then vO o (orrs ps.toList) [] ((zyg (placeOf ti.sh) (ti.zc.map .dat) (zrj Γ J ps.toList)).map .agg) else .bad
def wlj (T:TypeId):HO:=w3q P T fun ti=>nO o [] [] (.one (.ptr nb 0)) [] (.box (ti.zc.map .dat) (some T))
def fBox (T:TypeId) (x:Operand):HO:=match xb6 (opdS Γ J x) with
 | some hs=>nO o (orr x) [] (.one (.ptr nb 0)) [] (.box hs (some T))
 | none=>.bad
def opF:HO:=match o.op with
 | .move x=>x44 Γ J o x
 | .assign x=>x44 Γ J o x
 | .pick c x y=>vhf P Γ J nb o c x y
 | .binOp op _ x y _=>fBin P Γ J η nb o op x y
 | .unOp op _ x=>fUn P Γ J η nb o op x
 | .load T x=>xkx P Γ J η o T x
 | .store T x y=>vy0 P Γ J η o T x y
 | .fieldAddr S x f=>vdl P Γ J o S x f
 | .indexAddr T x y=>w6m P Γ J nb o T x y
 | .field T x f=>xa7 P Γ J o T x f
 | .index T x y=>xyd P Γ J o T x y
 | .extract x n=>ws6 Γ J o x n
 | .nilCheck x=>fNil Γ J o x
 | .build T ps=>wqd P Γ J o T ps
 | .alloc T=>wlj P nb o T
 | .box T x=>fBox Γ J nb o T x
 | .call c=>v90 P Γ lit fn J η nb o c
 | _=>opH P Γ lit fn J η nb o
end
theorem za0 {lit fn:Bool} {J:List SV} {η:List SB} {nb:Nat} {o:Oper}:opF P Γ lit fn J η nb o=opH P Γ lit fn J η nb o\/(∃ rd rh e h new,opF P Γ lit fn J η nb o=.eff rd rh e h new/\Sound Γ P o J η nb rd rh e h new):=by
 have hv:∀{rd:List Nat} {v:SV},(∀ d,o.dst=some d->x6g Γ P o J η (d::rd) [] [(d,v)] [])->vO o rd [] (some v)=.bad\/∃ rd' rh e h new,vO o rd [] (some v)=.eff rd' rh e h new/\Sound Γ P o J η nb rd' rh e h new:=by
  intro rd v h;unfold vO
  cases hd:o.dst with
  | none=>exact .inl rfl
  | some d=>exact .inr ⟨_,_,_,_,_,rfl,h d hd⟩
 unfold opF
 split
 case h_4 op T x y U ho=>
  unfold fBin
  have e:opH P Γ lit fn J η nb o=opP P Γ J η nb o:=by unfold opH;rw [ho]
  split
  . rename_i p q hpq
    split
    . rename_i v hab
      cases hd:o.dst with
      | none=>
       left
       have:opP P Γ J η nb o=.bad:=by
        unfold opP;rw [ho];simp only [vO,oldO,hd]
        repeat' split
        all_goals first | rfl | simp_all
       rw [e,this];unfold vO;rw [hd]
      | some d=>
       right
       refine ⟨_,_,_,_,_,by unfold vO;rw [hd],?_⟩;exact v4u ho hd hpq hab
    . exact .inl e.symm
  . exact .inl e.symm
 case h_5 op T x ho=>
  unfold fUn
  have e:opH P Γ lit fn J η nb o=opP P Γ J η nb o:=by unfold opH;rw [ho]
  split
  . rename_i p hp
    split
    . rename_i v hab
      cases hd:o.dst with
      | none=>
       left
       have:opP P Γ J η nb o=.bad:=by
        unfold opP;rw [ho];simp only;unfold oldO;rw [hd]
       rw [e,this];unfold vO;rw [hd]
      | some d=>
       right
       refine ⟨_,_,_,_,_,by unfold vO;rw [hd],?_⟩;exact s_un ho hd hp hab
    . exact .inl e.symm
  . exact .inl e.symm
 case h_17 c ho=>
  unfold v90
  split
  . rename_i x hc;left;unfold opH;rw [ho];simp only [hc]
  . rename_i hc
    split
    . rename_i x T ha ht;unfold fLen
      split
      . rename_i cc ti hx hti
        split
        . rename_i n hok hl
          have ho':o.op=.call { callee:=.builtin .len,args:=#[x],argTypes:=#[T] }:=by
           rw [ho];obtain ⟨cal,args,tys⟩:=c;simp only at hc ha ht;rw [hc,whg ha,xhr ht]
          cases hd:o.dst with
          | none=>
           left
           have:opH P Γ lit fn J η nb o=.bad:=by
            unfold opH;rw [ho'];simp only [hx,zv7,oldO,hd]
           rw [this];unfold vO;rw [hd]
          | some d=>
           right
           refine ⟨_,_,_,_,_,by unfold vO;rw [hd],?_⟩;exact ykz ho' hd hti hx hok hl
        . exact .inl rfl
      . exact .inl rfl
    . exact .inl rfl
  . exact .inl rfl
  . rename_i h1 h2 h3
    left;unfold opH;rw [ho]
    cases hcc:c.callee with
    | value x=>exact absurd hcc (h1 x)
    | builtin b=>exact absurd hcc (h3 b)
    | _=>simp only [hcc]
 all_goals first
  | exact .inl rfl
  | (rename_i ho;left;unfold opH;rw [ho];simp only;unfold opP;rw [ho];rfl)
  | (rename_i ho;left;unfold opH;rw [ho];rfl)
theorem SRL.of {η:List SB} {M:Nat->Nat->Prop}:∀{l:List AV} {r:List SV} {vs:List Value},xo6 l=some r->RdBL M w vs l->SRL η ρ M w vs r:=xp5
theorem vtc {lit fn:Bool} {J:List SV} {η:List SB} {nb:Nat} {o:Oper} {f:FuncId} {l:List AV} {bs:List Nat} (h:opH P Γ lit fn J η nb o=.callD f l rd rh bs) {sl:List SV} (hl:xo6 l=some sl) {η':List SB} {res:SV} (hc:xbh Γ P f (appL (frzE η bs) η) sl η' res) :
 yao Γ P o J η (appL (yoh o res) J) η':=by
 obtain ⟨x,xs,ts,ho⟩:=zqt h (.inl ⟨_,_,_,_,_,rfl⟩);rw [xr8 ho] at h
 have ho':o.op=.call { callee:=.value x,args:=xs.toList.toArray,argTypes:=ts }:=by rw [ho]
 have hG:∀{f':FuncId} {caps:List SV} {rd' rh':List Nat},z8h Γ J η x=some (f',caps,rd',rh')->wz2.callG Γ (ys6 lit fn) J η o xs.toList f' caps rd' rh'=.callD f l rd rh bs->yao Γ P o J η (appL (yoh o res) J) η':=fun {f' caps rd' rh'} hcal hg=>by
  unfold wz2.callG at hg;split at hg
  . rename_i l' bs' ha;have ha:=zfb ha
    cases hg;have harr:=y8d ha;intro E ρ a w hI K Q hK;have hnt:=zs2 ha
    have hnt1:zt0 (vnq Γ J xs.toList)=true:=by
     unfold zt0 at hnt ⊢;rw [List.all_append,Bool.and_eq_true] at hnt;exact hnt.1
    obtain ⟨cv,hcv,hcr⟩:=yty hI hcal;have hsr:=(xxh hI xs.toList hnt1).append hcr;obtain ⟨hw1,_,hfz⟩:=Went.frz bs η hI.inv rfl harr (fun _=>.inl rfl);have hrb:=yt1 hw1.inv ha hfz (hsr.mv hw1.mv);have hcalls:=hc.2 _ ρ w _ hw1.inv (SRL.of hl hrb);unfold Oper.wp;rw [x0k ho' hcv hc.1 w];show Calls P f _ w _
    have e1:xs.toList.toArray.map a.eval++cv.toArray=(xs.toList.map a.eval++cv).toArray:=by simp
    rw [e1];refine hcalls.mono ?_;rintro e w' ⟨v,ρ',rfl,hw,hv⟩;exact hK _ _ ρ' (((hI.go hw1).go hw).dst hv)
  . split at hg<;>cases hg
 unfold wz2 at h;split at h
 . split at h
   . split at h
     . unfold vO at h;repeat' split at h
       all_goals cases h
     . cases h
   . exact hG rfl h
 . rename_i t;split at h
   . split at h<;>cases h
   . split at h
     . rename_i f' caps rd' rh' hcal;exact hG hcal h
     . cases h
 . cases h
theorem SVR.refs {η:List SB} {ρ:Nat->Value} {M:Nat->Nat->Prop} {w:World} {v:Value} {x:SV} (h:SVR η ρ M w v x):∀ b∈x3b x,okB η b:=fun b hb=>by
 cases x with
 | tup l=>
  obtain ⟨vs,_,h⟩:=h;rw [Hp.z6w,h.z6w] at hb;exact h.refs b hb
 | one h'=>exact SVR0.refs (x:=.one h') h b hb
 | agg l=>exact SVR0.refs (x:=.agg l) h b hb
 | _=>cases hb
theorem RI.wh5 {E:HEnv} {η:List SB} {J:List SV} {a:Act} (h:RI Γ E ρ J (η++[.fresh]) a w):RI Γ E ρ J η a w:=by
 have hget:∀(i:Nat) (x:SB),η[i]? = some x->(η++[SB.fresh])[i]? = some x:=fun i x hi=>by rw [List.getElem?_append_left (List.getElem?_eq_some_iff.1 hi).1];exact hi
 have hok:∀ b,okB (η++[.fresh]) b->okB η b:=fun b ⟨x,hx,hf⟩=>by
  rw [List.getElem?_append] at hx;split at hx
  . exact ⟨x,hx,hf⟩
  . rename_i hlt
    cases hn:b-η.length with
    | zero=>rw [hn] at hx;simp at hx;exact absurd hx.symm hf
    | succ n=>rw [hn] at hx;simp at hx
 have hM:∀ b o,MX E.Mo ρ η b o->MX E.Mo ρ (η++[.fresh]) b o:=by
  rintro b o (hm | ⟨i,x,hi,hx⟩)
  . exact .inl hm
  . exact .inr ⟨i,x,hget i x hi,hx⟩
 have hw:=h.went
 refine ⟨h.hd,h.hs,fun i x hi=>(h.slot i x hi).at hM (fun b hb=>⟨hok b ((h.slot i x hi).refs b hb),rfl⟩),fun b hb=>hok b (hw.ok b hb),hw.rho,hw.keep.trans (ydx.shrink w hM),hw.grow,
  ⟨hw.inv.bnd,fun i x hi=>(hw.inv.blk i x (hget i x hi)).at hM (fun b hb=>⟨hok b ((hw.inv.blk i x (hget i x hi)).refs b hb),rfl⟩),fun i j x y hi hj=>hw.inv.inj i j x y (hget i x hi) (hget j y hj),fun i x hi=>hw.inv.sep i x (hget i x hi),hw.inv.glob.keep (ydx.shrink w hM)⟩,
  hw.size,hw.os,hw.tape,hw.output,hw.frame,fun k ⟨i,x,hi,hx⟩=>hw.fresh k ⟨i,x,hget i x hi,hx⟩⟩
theorem StH.wh5 {e:List SB} {J:List SV} {η:List SB}:StH Γ e J (η++[.fresh]) J η:=fun _ ρ _ _ _ h=>⟨ρ,h.wh5⟩
inductive GR where
 | plain
 | when (d:Nat) (c b:Bool)
 | skip (d:Nat)
 | bad
def v9k (ops:List Oper) (J:List SV) (o:Oper):GR:=match o.guard with
 | none=>.plain
 | some (j,b)=>match (ops[j]?).bind (·.dst) with
  | some d=>match gtS J d with
   | .one (.dat (.raw (.bool c)))=>.when d c b
   | .undef=>.skip d
   | _=>.bad
  | none=>.bad
theorem waa {ops:Array Oper} {J:List SV} {o:Oper}:(v9k ops.toList J o=.plain->o.guard=none)/\(∀ d c b,v9k ops.toList J o=.when d c b->∃ j,o.guard=some (j,b)/\(ops[j]?).bind (·.dst)=some d/\gtS J d=.one (.dat (.raw (.bool c))))/\
 (∀ d,v9k ops.toList J o=.skip d->∃ j b,o.guard=some (j,b)/\(ops[j]?).bind (·.dst)=some d/\gtS J d=.undef):=by
 unfold v9k
 cases hg:o.guard with
 | none=>exact ⟨fun _=>rfl,fun d c b h=>(by cases h),fun d h=>(by cases h)⟩
 | some p=>
  obtain ⟨j,b⟩:=p;simp only [Array.getElem?_toList]
  cases hd:(ops[j]?).bind (·.dst) with
  | none=>exact ⟨fun h=>(by cases h),fun d c b h=>(by cases h),fun d h=>(by cases h)⟩
  | some d=>
   simp only []
   split
   . rename_i c hc;refine ⟨fun h=>(by cases h),fun d' c' b' h=>?_,fun d h=>(by cases h)⟩
     cases h;exact ⟨j,rfl,hd,hc⟩
   . rename_i hc;refine ⟨fun h=>(by cases h),fun d' c' b' h=>(by cases h),fun d' h=>?_⟩
     cases h;exact ⟨j,b,rfl,hd,hc⟩
   . exact ⟨fun h=>(by cases h),fun d c b h=>(by cases h),fun d h=>(by cases h)⟩
def zdd (n:Nat) (η:List SB):List SB:=match η.drop n with
 | [.fresh]=>η.take n
 | _=>η
theorem x0v {lit fn:Bool} {o:Oper} {J:List SV} {η:List SB} {nb:Nat} {e:List (Nat×SV)} {h:List (Nat×SB)} {new:Option SB} (hr:opF P Γ lit fn J η nb o=.eff rd rh e h new):Sound Γ P o J η nb rd rh e h new:=by
 rcases za0 (P:=P) (Γ:=Γ) (lit:=lit) (fn:=fn) (o:=o) (J:=J) (η:=η) (nb:=nb) with he | ⟨_,_,_,_,_,he,hs⟩
 . have hs:=vle (P:=P) (Γ:=Γ) (lit:=lit) (fn:=fn) (o:=o) (J:=J) (η:=η) (nb:=nb);rw [<-he,hr] at hs;exact hs
 . rw [hr] at he
   cases he;exact hs
theorem zzx {lit fn:Bool} {o:Oper} {J:List SV} {η:List SB} {nb:Nat} {r:HO} (hr:opF P Γ lit fn J η nb o=r) (hn:∀ rd rh e h new,r≠.eff rd rh e h new):opH P Γ lit fn J η nb o=r:=by
 rcases za0 (P:=P) (Γ:=Γ) (lit:=lit) (fn:=fn) (o:=o) (J:=J) (η:=η) (nb:=nb) with he | ⟨_,_,_,_,_,he,_⟩
 . exact he.symm.trans hr
 . exact absurd (hr.symm.trans he) (hn _ _ _ _ _)
theorem xty.post {Q':Exit->List SV->List SB->Prop} {J:List SV} {η:List SB} (h:xty Γ P e c Q J η) (hq:∀ x s t,Q x s t->∃ s' t',StH Γ e s t s' t'/\Q' x s' t'):xty Γ P e c Q' J η:=fun E ρ a w hE hR=>
 wp_mono (h E ρ a w hE hR) (fun x a w ⟨s,t,ρ,h1,h2⟩=>by
  obtain ⟨s',t',h3,h4⟩:=hq x s t h1;obtain ⟨ρ',h5⟩:=h3 E ρ a w hE h2
  exact ⟨s',t',ρ',h4,h5⟩)
def wdj (Γ:List (Nat×List Cell)) (P:Program) (e:List SB) (c:Code) (Q:Exit->List SV->List SB->Prop) (J:List SV) (η:List SB):Prop:=
 ∀(E:HEnv) (ρ:Nat->Value) (a:Act) (w:World),At Γ e E->RI Γ E ρ J η a w->∀(b:Frame) (k:List Item) (cs:List Frame),∃ x a' w',wl4 Γ E Q x a' w'/\Arrives P (lone (b.at a (.code c::.inLoop c::k)) cs w) b k cs x a' w'
theorem wdj.loop {e:List SB} {c:Code} {Q:Exit->List SV->List SB->Prop} {J:List SV} {η:List SB} (h:wdj Γ P e c Q J η):xty Γ P e (.loop c) Q J η:=fun E ρ a w hE hR b k cs=>by
 obtain ⟨x,a',w',hq,harr⟩:=h E ρ a w hE hR b k cs;exact ⟨x,a',w',hq,.of_steps (.one step_loop) harr⟩
theorem wdj.round {J:List SV} {η:List SB} (h:xty Γ P e c (vcv (fun J η=>wdj Γ P e c Q J η) Q) J η):wdj Γ P e c Q J η:=fun E ρ a w hE hR b k cs=>by
 obtain ⟨ex,a1,w1,⟨J',η',ρ',hq,hR'⟩,harr⟩:=h E ρ a w hE hR b (.inLoop c::k) cs
 cases ex with
 | normal=>
  obtain ⟨e2,a2,w2,hq2,harr2⟩:=hq E ρ' a1 w1 hE hR' b k cs;exact ⟨e2,a2,w2,hq2,.of_steps (Steps.trans harr (.one step_inLoop)) harr2⟩
 | exit id=>exact ⟨_,a1,w1,⟨J',η',ρ',hq,hR'⟩,.pass (x:=.inLoop c) rfl (fun _ _=>.inl (by simp)) harr⟩
 | goto l=>exact ⟨_,a1,w1,⟨J',η',ρ',hq,hR'⟩,.pass (x:=.inLoop c) rfl (fun _ _=>.inl (by simp)) harr⟩
 | ret=>exact ⟨_,a1,w1,⟨J',η',ρ',hq,hR'⟩,.pass (x:=.inLoop c) rfl (fun _ _=>.inl (by simp)) harr⟩
 | panic ch=>exact ⟨_,a1,w1,⟨J',η',ρ',hq,hR'⟩,.pass (x:=.inLoop c) rfl (fun _ _=>.inl (by simp)) harr⟩
 | outgrown=>exact ⟨_,a1,w1,⟨J',η',ρ',hq,hR'⟩,.pass (x:=.inLoop c) rfl (fun _ _=>.inl (by simp)) harr⟩
def rnHC (r:Nat->Nat):HC->HC
 | .ptr b o=>.ptr (r b) o
 | .pel b es k f=>.pel (r b) es k f
 | .sl b es lo n=>.sl (r b) es lo n
 | .mp b=>.mp (r b)
 | .fnr b=>.fnr (r b)
 | .any=>.any
 | .dat c=>.dat c
def xbb (r:Nat->Nat):SV->SV
 | .one h=>.one (rnHC r h)
 | .agg l=>.agg (l.map (rnHC r))
 | .any=>.any
 | .undef=>.undef
 | .elt cs=>.elt cs
 | .tup l=>.tup l
def rnSV (r:Nat->Nat):SV->SV
 | .one h=>.one (rnHC r h)
 | .agg l=>.agg (l.map (rnHC r))
 | .any=>.any
 | .undef=>.undef
 | .elt cs=>.elt cs
 | .tup l=>.tup (l.map (xbb r))
def rnSB (r:Nat->Nat):SB->SB
 | .box l T=>.box (l.map (rnHC r)) T
 | .map es=>.map (es.map fun p=>(p.1,xbb r p.2))
 | .clo f l=>.clo f (l.map (xbb r))
 | .fresh=>.fresh
 | .dead=>.dead
 | .arr c k T=>.arr c k T
theorem w0j {x:SB}:(rnSB r x).own=x.own:=by cases x<;>rfl
theorem xuk {o:Nat} {x:SB}:(rnSB r x).mut o↔x.mut o:=by cases x<;>exact Iff.rfl
theorem zdx {x:SB}:rnSB r x=.fresh↔x=.fresh:=by cases x<;>simp [rnSB]
structure Rn (r:Nat->Nat) (η:List SB) (ρ:Nat->Value) (η':List SB) (ρ':Nat->Value):Prop where
 ok:∀ b,okB η b->okB η' (r b)
 back:∀ b,okB η' (r b)->okB η b
 rho:∀ b,ρ' (r b)=ρ b
section
variable {r:Nat->Nat} {η η':List SB} {ρ ρ':Nat->Value} {M:Nat->Nat->Prop} {w:World}
theorem HRd.rn (R:Rn r η ρ η' ρ') {h:HC}:HRd η' ρ' M w v (rnHC r h)↔HRd η ρ M w v h:=by
 have hb:∀ b,okB η' (r b)↔okB η b:=fun b=>⟨R.back b,R.ok b⟩
 cases h<;>simp only [rnHC,HRd,hb,R.rho]
theorem HRL.rn (R:Rn r η ρ η' ρ'):∀{vs:List Value} {l:List HC},HRL η' ρ' M w vs (l.map (rnHC r))↔HRL η ρ M w vs l
 | [],[]=>Iff.rfl
 | [],_::_=>Iff.rfl
 | _::_,[]=>Iff.rfl
 | _::_,_::_=>by simp only [List.map_cons,HRL,HRd.rn R,HRL.rn R]
theorem SVR0.rn (R:Rn r η ρ η' ρ') {v:Value} {x:SV}:SVR0 η' ρ' M w v (xbb r x)↔SVR0 η ρ M w v x:=by
 cases x<;>simp only [xbb,SVR0,HRd.rn R,HRL.rn R]
theorem SRL.rn (R:Rn r η ρ η' ρ'):∀{vs:List Value} {l:List SV},SRL η' ρ' M w vs (l.map (xbb r))↔SRL η ρ M w vs l
 | [],[]=>Iff.rfl
 | [],_::_=>Iff.rfl
 | _::_,[]=>Iff.rfl
 | _::_,_::_=>by simp only [List.map_cons,SRL,SVR0.rn R,SRL.rn R]
theorem SVR.rn (R:Rn r η ρ η' ρ') {v:Value} {x:SV}:SVR η' ρ' M w v (rnSV r x)↔SVR η ρ M w v x:=by
 cases x with
 | tup l=>simp only [rnSV,SVR,SRL.rn R]
 | one h=>exact HRd.rn R
 | agg l=>simp only [rnSV,SVR,SVR0,HRL.rn R]
 | _=>exact Iff.rfl
theorem EnR.rn (R:Rn r η ρ η' ρ'):∀{es:List MapEntry} {l:List (Value×SV)},EnR η' ρ' M w es (l.map fun p=>(p.1,xbb r p.2))↔EnR η ρ M w es l
 | [],[]=>Iff.rfl
 | [],_::_=>Iff.rfl
 | _::_,[]=>Iff.rfl
 | _::_,_::_=>by simp only [List.map_cons,EnR,SVR0.rn R,EnR.rn R]
theorem SBR.rn (R:Rn r η ρ η' ρ') {v:Value} {x:SB}:SBR η' ρ' M w v (rnSB r x)↔SBR η ρ M w v x:=by
 cases x<;>simp only [rnSB,SBR,HRL.rn R,EnR.rn R,SRL.rn R]
end
def atR (φ:List Nat) (N:Nat) (i:Nat):Nat:=match φ[i]? with
 | some j=>j
 | none=>N+(i-φ.length)
def wlp (φ:List Nat) (η ηs:List SB):Prop:=ηs.length=φ.length/\∀(i:Nat) (x:SB),ηs[i]? = some x->∃ j:Nat,φ[i]? = some j/\η[j]? = some (rnSB (atR φ η.length) x)
def putR (φ:List Nat) (η η':List SB):List SB:=appL (φ.zip (η'.map (rnSB (atR φ η.length)))) η++(η'.drop φ.length).map (rnSB (atR φ η.length))
theorem y1a {α:Type}:∀(φ:List Nat) (xs l:List α) (j:Nat),j∉φ->(appL (φ.zip xs) l)[j]? = l[j]?
 | [],_,_,_,_=>rfl
 | _::_,[],_,_,_=>rfl
 | i::φ,x::xs,l,j,h=>by
  simp only [List.mem_cons,not_or] at h;show (appL (φ.zip xs) (l.set i x))[j]? = _;rw [y1a φ xs _ j h.2,List.getElem?_set_ne (Ne.symm h.1)]
theorem wif {α:Type}:∀(φ:List Nat) (xs l:List α) (i j:Nat) (x:α),φ.Nodup->φ[i]? = some j->xs[i]? = some x->j<l.length->(appL (φ.zip xs) l)[j]? = some x
 | [],_,_,_,_,_,_,h,_,_=>by simp at h
 | _::_,[],_,_,_,_,_,_,h,_=>by simp at h
 | k::φ,y::xs,l,i,j,x,hn,h,hx,hl=>by
  show (appL (φ.zip xs) (l.set k y))[j]? = _;rw [List.nodup_cons] at hn
  cases i with
  | zero=>
   simp only [List.getElem?_cons_zero,Option.some.injEq] at h hx;subst h;subst hx;rw [y1a φ xs _ k hn.1,List.getElem?_set_self hl]
  | succ i=>
   simp only [List.getElem?_cons_succ] at h hx;exact wif φ xs _ i j x hn.2 h hx (by simpa using hl)
section
variable {φ:List Nat} {η ηs ηs':List SB}
theorem y2j {N:Nat} (h:φ[i]? = some j):atR φ N i=j:=by unfold atR;rw [h]
theorem y6e {N:Nat} (h:φ.length<=i):atR φ N i=N+(i-φ.length):=by unfold atR;rw [List.getElem?_eq_none h]
theorem ywq:(putR φ η ηs').length=η.length+(ηs'.length-φ.length):=by unfold putR;simp [zsz]
theorem yay (hn:φ.Nodup) (hb:∀ j∈φ,j<η.length) {x:SB} (hx:ηs'[i]? = some x):(putR φ η ηs')[atR φ η.length i]? = some (rnSB (atR φ η.length) x):=by
 unfold putR;by_cases hi:i<φ.length
 . have hj:φ[i]? = some φ[i]:=List.getElem?_eq_getElem hi;rw [y2j hj,List.getElem?_append_left (by rw [zsz];exact hb _ (List.getElem_mem hi))];exact wif φ _ η i _ _ hn hj (by rw [List.getElem?_map,hx];rfl) (hb _ (List.getElem_mem hi))
 . rw [y6e (by omega),List.getElem?_append_right (by rw [zsz];omega),zsz];rw [show η.length+(i-φ.length)-η.length=i-φ.length from by omega,List.getElem?_map,List.getElem?_drop,show φ.length+(i-φ.length)=i from by omega,hx];rfl
theorem xzj (hl:j<η.length) (h:j∉φ):(putR φ η ηs')[j]? = η[j]?:=by
 unfold putR;rw [List.getElem?_append_left (by rw [zsz];exact hl),y1a φ _ _ j h]
theorem vxr (hn:φ.Nodup) (hb:∀ j∈φ,j<η.length) (hlen:φ.length<=ηs'.length) {y:SB} (h:(putR φ η ηs')[j]? = some y) :
 (∃ i x,j=atR φ η.length i/\ηs'[i]? = some x/\y=rnSB (atR φ η.length) x)\/(j∉φ/\j<η.length/\η[j]? = some y):=by
 have hjl:j<(putR φ η ηs').length:=(List.getElem?_eq_some_iff.1 h).1;rw [ywq] at hjl
 have key:∀ i,i<ηs'.length->j=atR φ η.length i->∃ i x,j=atR φ η.length i/\ηs'[i]? = some x/\y=rnSB (atR φ η.length) x:=fun i hi e=>by
  have hx:ηs'[i]? = some ηs'[i]:=List.getElem?_eq_getElem hi;refine ⟨i,_,e,hx,?_⟩
  have:=yay hn hb hx
  rw [<-e,h] at this;exact (Option.some.inj this)
 by_cases hm:j∈φ
 . obtain ⟨i,hi,e⟩:=List.getElem_of_mem hm;exact .inl (key i (by omega) (by rw [y2j (List.getElem?_eq_getElem hi),e]))
 . by_cases hj:j<η.length
   . rw [xzj hj hm] at h;exact .inr ⟨hm,hj,h⟩
   . exact .inl (key (φ.length+(j-η.length)) (by omega) (by rw [y6e (by omega)];omega))
end
def unR (φ:List Nat) (N j:Nat):Nat:=if j<N then φ.idxOf j else φ.length+(j-N)
theorem wlg {φ:List Nat} {N:Nat} (hn:φ.Nodup) (hb:∀ j∈φ,j<N) (i:Nat):unR φ N (atR φ N i)=i:=by
 unfold unR;by_cases hi:i<φ.length
 . rw [y2j (List.getElem?_eq_getElem hi),if_pos (hb _ (List.getElem_mem hi))];exact hn.idxOf_getElem i hi
 . rw [y6e (by omega),if_neg (by omega)];omega
theorem xbh.frame {f:FuncId} {φ:List Nat} {η ηs ηs':List SB} {args:List SV} {res:SV} (hn:φ.Nodup) (hb:∀ j∈φ,j<η.length) (hp:wlp φ η ηs) (hlen:φ.length<=ηs'.length) (h:xbh Γ P f ηs args ηs' res) :
 xbh Γ P f η (args.map (xbb (atR φ η.length))) (putR φ η ηs') (rnSV (atR φ η.length) res):=by
 refine ⟨h.1,fun Mo ρ w vs hI hsr=>?_⟩;generalize hr:atR φ η.length=r at hsr ⊢
 have hlt:∀ i,i<φ.length->r i<η.length/\r i∈φ:=fun i hi=>by
  rw [<-hr,y2j (List.getElem?_eq_getElem hi)];exact ⟨hb _ (List.getElem_mem hi),List.getElem_mem hi⟩
 have hge:∀ i,φ.length<=i->η.length<=r i:=fun i hi=>by rw [<-hr,y6e hi];omega
 have hun:∀ i,unR φ η.length (r i)=i:=fun i=>by rw [<-hr];exact wlg hn hb i
 have hinj:∀ i j,r i=r j->i=j:=fun i j e=>by rw [<-hun i,<-hun j,e]
 have hat:∀ i x,ηs[i]? = some x->η[r i]? = some (rnSB r x):=fun i x hx=>by
  obtain ⟨j,hj,hy⟩:=hp.2 i x hx;rw [hr] at hy;rw [<-hr,y2j hj,hr];exact hy
 have hsl:∀ i x,ηs[i]? = some x->i<φ.length:=fun i x hx=>by
  have:=(List.getElem?_eq_some_iff.1 hx).1
  rw [hp.1] at this;exact this
 have hget:∀ i,i<φ.length->∃ x,ηs[i]? = some x:=fun i hi=>⟨_,List.getElem?_eq_getElem (by rw [hp.1];exact hi)⟩
 have hphi:∀ j,j∈φ->∃ i,i<φ.length/\r i=j:=fun j hj=>by
  obtain ⟨i,hi,e⟩:=List.getElem_of_mem hj;exact ⟨i,hi,by rw [<-hr,y2j (List.getElem?_eq_getElem hi),e]⟩
 have R0:Rn r ηs (fun i=>ρ (r i)) η ρ:=⟨fun b ⟨x,hx,hf⟩=>⟨_,hat b x hx,fun e=>hf (zdx.1 e)⟩,fun b ⟨y,hy,hf⟩=>by
  have hbl:b<φ.length:=by
   rcases Nat.lt_or_ge b φ.length with h1 | h1
   . exact h1
   . have:=hge b h1
     rw [List.getElem?_eq_none this] at hy;cases hy
  obtain ⟨x,hx⟩:=hget b hbl
  have:=hat b x hx
  rw [hy] at this
  cases this
  exact ⟨x,hx,fun e=>hf (zdx.2 e)⟩,fun b=>rfl⟩
 let Mo':Nat->Nat->Prop:=fun b o=>Mo b o\/∃ j x,j∉φ/\η[j]? = some x/\x.mut o/\real (ρ j)/\bk (ρ j)=b
 have hM:MX Mo' (fun i=>ρ (r i)) ηs=MX Mo ρ η:=by
  funext b o
  apply propext;constructor
  . rintro ((hm | ⟨j,x,_,hx,hmut,hre,hbk⟩) | ⟨i,x,hx,hmut,hre,hbk⟩)
    . exact .inl hm
    . exact .inr ⟨j,x,hx,hmut,hre,hbk⟩
    . exact .inr ⟨_,_,hat i x hx,xuk.2 hmut,hre,hbk⟩
  . rintro (hm | ⟨j,y,hy,hmut,hre,hbk⟩)
    . exact .inl (.inl hm)
    . by_cases hj:j∈φ
      . obtain ⟨i,hi,rfl⟩:=hphi j hj;obtain ⟨x,hx⟩:=hget i hi
        have:=hat i x hx
        rw [hy] at this;cases this;exact .inr ⟨i,x,hx,xuk.1 hmut,hre,hbk⟩
      . exact .inl (.inr ⟨j,y,hj,hy,hmut,hre,hbk⟩)
 have hIs:HInv Γ Mo' (fun i=>ρ (r i)) ηs w:=by
  refine ⟨fun b o hm=>?_,fun i x hx=>?_,fun i j x y hx hy ho ho' hre hre' he=>?_,fun i x hx ho hre o hm=>?_,?_⟩
  . rcases hm with hm | ⟨j,x,_,hx,hmut,hre,rfl⟩
    . exact hI.bnd b o hm
    . exact (hI.blk j x hx).znb (SB.xlm hmut) hre
  . rw [hM];exact (SBR.rn R0).1 (hI.blk _ _ (hat i x hx))
  . exact hinj i j (hI.inj _ _ _ _ (hat i x hx) (hat j y hy) (by rw [w0j];exact ho) (by rw [w0j];exact ho') hre hre' he)
  . rcases hm with hm | ⟨j,y,hj,hy,hmut,hre',he⟩
    . exact hI.sep _ _ (hat i x hx) (by rw [w0j];exact ho) hre o hm
    . have:=hI.inj _ _ _ _ hy (hat i x hx) (SB.xlm hmut) (by rw [w0j];exact ho) hre' hre he
      subst this;exact hj (hlt i (hsl i x hx)).2
  . rw [hM];exact hI.glob
 have hsr':SRL ηs (fun i=>ρ (r i)) (MX Mo' (fun i=>ρ (r i)) ηs) w vs args:=by rw [hM];exact (SRL.rn R0).1 hsr
 refine (h.2 Mo' _ w vs hIs hsr').mono ?_;rintro e w' ⟨v,ρs',rfl,hw,hv⟩
 let ρ':Nat->Value:=fun j=>if j∈φ\/η.length<=j then ρs' (unR φ η.length j) else ρ j
 have hρr:∀ i,ρ' (r i)=ρs' i:=fun i=>by
  show (if r i∈φ\/η.length<=r i then ρs' (unR φ η.length (r i)) else ρ (r i))=_;rw [if_pos,hun]
  rcases Nat.lt_or_ge i φ.length with h1 | h1
  . exact .inl (hlt i h1).2
  . exact .inr (hge i h1)
 have hρn:∀ j,j∉φ->j<η.length->ρ' j=ρ j:=fun j h1 h2=>if_neg (fun h=>h.elim h1 (fun h=>by omega))
 have L1:∀ i x,ηs'[i]? = some x->(putR φ η ηs')[r i]? = some (rnSB r x):=fun i x hx=>by rw [<-hr];exact yay hn hb hx
 have L2:∀ j y,(putR φ η ηs')[j]? = some y->(∃ i x,j=r i/\ηs'[i]? = some x/\y=rnSB r x)\/(j∉φ/\j<η.length/\η[j]? = some y):=fun j y hy=>by
  rw [<-hr];exact vxr hn hb hlen hy
 have L3:∀ j,j∉φ->j<η.length->(putR φ η ηs')[j]? = η[j]?:=fun j h1 h2=>xzj h2 h1
 have R1:Rn r ηs' ρs' (putR φ η ηs') ρ':=⟨fun b ⟨x,hx,hf⟩=>⟨_,L1 b x hx,fun e=>hf (zdx.1 e)⟩,fun b ⟨y,hy,hf⟩=>by
  rcases L2 _ y hy with ⟨i,x,hi,hx,rfl⟩ | ⟨h1,h2,_⟩
  . rw [hinj _ _ hi];exact ⟨x,hx,fun e=>hf (zdx.2 e)⟩
  . rcases Nat.lt_or_ge b φ.length with h3 | h3
    . exact absurd (hlt b h3).2 h1
    . exact absurd (hge b h3) (by omega),hρr⟩
 have hM':MX Mo' ρs' ηs'=MX Mo ρ' (putR φ η ηs'):=by
  funext b o
  apply propext;constructor
  . rintro ((hm | ⟨j,x,hj,hx,hmut,hre,hbk⟩) | ⟨i,x,hx,hmut,hre,hbk⟩)
    . exact .inl hm
    . have hjl:=(List.getElem?_eq_some_iff.1 hx).1;exact .inr ⟨j,x,by rw [L3 j hj hjl];exact hx,hmut,by rw [hρn j hj hjl];exact hre,by rw [hρn j hj hjl];exact hbk⟩
    . exact .inr ⟨_,_,L1 i x hx,xuk.2 hmut,by rw [hρr];exact hre,by rw [hρr];exact hbk⟩
  . rintro (hm | ⟨j,y,hy,hmut,hre,hbk⟩)
    . exact .inl (.inl hm)
    . rcases L2 j y hy with ⟨i,x,rfl,hx,rfl⟩ | ⟨h1,h2,h3⟩
      . rw [hρr] at hre hbk;exact .inr ⟨i,x,hx,xuk.1 hmut,hre,hbk⟩
      . rw [hρn j h1 h2] at hre hbk;exact .inl (.inr ⟨j,y,h1,h3,hmut,hre,hbk⟩)
 have hX:∀ k,Xb (fun i=>ρ (r i)) ηs k->Xb ρ η k:=fun k ⟨i,x,hx,ho,hre,hbk⟩=>⟨_,_,hat i x hx,by rw [w0j];exact ho,hre,hbk⟩
 have hnX:∀ j x,j∉φ->η[j]? = some x->x.own=true->real (ρ j)->¬Xb (fun i=>ρ (r i)) ηs (bk (ρ j)):=fun j x hj hx ho hre ⟨i,y,hy,hoy,hrey,hbk⟩=>by
  have:=hI.inj _ _ _ _ (hat i y hy) hx (by rw [w0j];exact hoy) ho hrey hre hbk
  subst this;exact hj (hlt i (hsl i y hy)).2
 have hmv:Mv η ρ (MX Mo ρ η) w (putR φ η ηs') ρ' (MX Mo ρ' (putR φ η ηs')) w':=by
  refine ⟨fun b hb'=>?_,fun b hb'=>?_,by rw [<-hM,<-hM'];exact hw.keep,hw.grow⟩
  . have hbl:=x1p hb';by_cases hj:b∈φ
    . obtain ⟨i,hi,rfl⟩:=hphi b hj;exact R1.ok i (hw.ok i (R0.back i hb'))
    . obtain ⟨x,hx,hf⟩:=hb';exact ⟨x,by rw [L3 b hj hbl];exact hx,hf⟩
  . have hbl:=x1p hb';by_cases hj:b∈φ
    . obtain ⟨i,hi,rfl⟩:=hphi b hj;rw [hρr];exact hw.rho i (R0.back i hb')
    . exact hρn b hj hbl
 have hfar:∀ j x i y,j∉φ->η[j]? = some x->x.own=true->real (ρ j)->ηs'[i]? = some y->y.own=true->real (ρs' i)->bk (ρ j)≠bk (ρs' i):=fun j x i y hj hx ho hre hy hoy hrey he=>by
  rcases hw.fresh (bk (ρs' i)) ⟨i,y,hy,hoy,hrey,rfl⟩ with h1 | h1
  . have:=(hI.blk j x hx).znb ho hre
    omega
  . rw [<-he] at h1;exact hnX j x hj hx ho hre h1
 refine ⟨v,ρ',rfl,⟨hmv.ok,hmv.rho,hmv.keep,hw.grow,⟨fun b o hm=>Nat.lt_of_lt_of_le (hI.bnd b o hm) hw.size,fun j y hy=>?_,fun j k y z hy hz ho ho' hre hre' he=>?_,fun j y hy ho hre o hm=>?_,?_⟩,hw.size,hw.os,hw.tape,hw.output,fun k hk hx=>hw.frame k hk (fun h=>hx (hX k h)),fun k ⟨j,y,hy,ho,hre,hbk⟩=>?_⟩,?_⟩
 . rcases L2 j y hy with ⟨i,x,rfl,hx,rfl⟩ | ⟨h1,h2,h3⟩
   . rw [hρr,<-hM'];exact (SBR.rn R1).2 (hw.inv.blk i x hx)
   . rw [hρn j h1 h2];exact (hI.blk j y h3).mv hmv (fun ho hre=>hw.frame _ ((hI.blk j y h3).znb ho hre) (hnX j y h1 h3 ho hre))
 . rcases L2 j y hy with ⟨i,x,rfl,hx,rfl⟩ | ⟨h1,h2,h3⟩<;>rcases L2 k z hz with ⟨i',x',rfl,hx',rfl⟩ | ⟨h1',h2',h3'⟩
   . rw [hρr] at hre he;rw [hρr] at hre' he;rw [w0j] at ho ho';rw [hw.inv.inj i i' x x' hx hx' ho ho' hre hre' he]
   . rw [hρr] at hre he;rw [hρn k h1' h2'] at hre' he;rw [w0j] at ho;exact absurd he.symm (hfar k z i x h1' h3' ho' hre' hx ho hre)
   . rw [hρn j h1 h2] at hre he;rw [hρr] at hre' he;rw [w0j] at ho';exact absurd he (hfar j y i' x' h1 h3 ho hre hx' ho' hre')
   . rw [hρn j h1 h2] at hre he;rw [hρn k h1' h2'] at hre' he;exact hI.inj j k y z h3 h3' ho ho' hre hre' he
 . rcases L2 j y hy with ⟨i,x,rfl,hx,rfl⟩ | ⟨h1,h2,h3⟩
   . rw [hρr] at hre hm;rw [w0j] at ho;exact hw.inv.sep i x hx ho hre o (.inl hm)
   . rw [hρn j h1 h2] at hre hm;exact hI.sep j y h3 ho hre o hm
 . rw [<-hM'];exact hw.inv.glob
 . rcases L2 j y hy with ⟨i,x,rfl,hx,rfl⟩ | ⟨h1,h2,h3⟩
   . rw [hρr] at hre hbk;rw [w0j] at ho
     rcases hw.fresh k ⟨i,x,hx,ho,hre,hbk⟩ with h4 | h4
     . exact .inl h4
     . exact .inr (hX k h4)
   . rw [hρn j h1 h2] at hre hbk;exact .inr ⟨j,y,h3,ho,hre,hbk⟩
 . rw [<-hM'];exact (SVR.rn R1).2 hv
end Go.Hp
