/- The proof, part Y15: Hk, H1, Hx. -/
import Derived.Test.YtocdljjhobaabaaGreatDoorY13
import Derived.Test.YtocdljjhobaabaaGreatDoorY14
import Derived.Scope
namespace Go.Hp
open Go Go.RowKit Go.Slot
variable {P:Program} {Γ:List (Nat×List Cell)}
def w7j:SV->SV->Option (Value×Value)
 | .one (.dat (.raw a)),.one (.dat (.raw b))=>some (a,b)
 | _,_=>none
def rawS:SV->Option Value
 | .one (.dat (.raw a))=>some a
 | _=>none
theorem ys7 {o:Oper} {σ:List SV} {η:List SB} {op:BinOp} {T U:TypeId} {x y:Operand} {d:Nat} (ho:o.op=.binOp op T x y U) (hdst:o.dst=some d) {p q v:Value} (hx:w7j (opdS Γ σ x) (opdS Γ σ y)=some (p,q)) (hab:abin op p q=some v) :
 xlu Γ P o σ η (d::(orr x++orr y)) [] [(d,.one (.dat (.raw v)))] []:=by
 have hxy:opdS Γ σ x=.one (.dat (.raw p))/\opdS Γ σ y=.one (.dat (.raw q)):=by
  unfold w7j at hx;split at hx
  . rename_i a b h1 h2;cases hx;exact ⟨h1,h2⟩
  . cases hx
 refine xlu.pure hdst (fun E ρ σ' η' a w hag hah hI=>⟨v,?_,RdC.raw (x08 hab)⟩);have sx:=hI.opd x;have sy:=hI.opd y;rw [hag.opd (fun t ht=>by simp [ht]),hxy.1] at sx;rw [hag.opd (fun t ht=>by simp [ht]),hxy.2] at sy;have ex:a.eval x=p:=RdC.xcn sx;have ey:a.eval y=q:=RdC.xcn sy;simp [execOp,ho,ex,ey,vol hab,ysr hab]
theorem s_un {o:Oper} {σ:List SV} {η:List SB} {op:UnOp} {T:TypeId} {x:Operand} {d:Nat} (ho:o.op=.unOp op T x) (hdst:o.dst=some d) {p v:Value} (hx:rawS (opdS Γ σ x)=some p) (hab:aun op p=some v) :
 xlu Γ P o σ η (d::orr x) [] [(d,.one (.dat (.raw v)))] []:=by
 have hxx:opdS Γ σ x=.one (.dat (.raw p)):=by
  unfold rawS at hx;split at hx
  . rename_i a h1;cases hx;exact h1
  . cases hx
 have hone:v.oneCell'=true:=by unfold aun at hab;split at hab<;>first | (cases hab;rfl) | cases hab
 refine xlu.pure hdst (fun E ρ σ' η' a w hag hah hI=>⟨v,?_,RdC.raw hone⟩);have sx:=hI.opd x;rw [hag.opd (fun t ht=>by simp [ht]),hxx] at sx;have ex:a.eval x=p:=RdC.xcn sx;unfold aun at hab;split at hab
 . cases hab;simp [execOp,ho,ex,Op.unary,Op.intArith]
 . cases hab;simp [execOp,ho,ex,Op.unary]
 . cases hab
theorem y43 {o:Oper} {σ:List SV} {η:List SB} {T:TypeId} {x:Operand} {d:Nat} (ho:o.op=.call { callee:=.builtin .len,args:=#[x],argTypes:=#[T] }) (hdst:o.dst=some d) {ti:TI} (hti:mkTI P T=some ti) {c:Cell} {n:Nat}
 (hx:opdS Γ σ x=.one (.dat c)) (hok:x38 ti c=true) (hl:lenC c=some n):xlu Γ P o σ η (d::orr x) [] [(d,.one (.dat (.raw (.int .i64 (n:Int)))))] []:=by
 refine xlu.pure hdst (fun E ρ σ' η' a w hag hah hI=>⟨_,?_,RdC.raw rfl⟩);have sx:=hI.opd x;rw [hag.opd (fun t ht=>by simp [ht]),hx] at sx;have hti':=xky hti;have hrd:RdT (MX E.Mo ρ η') w (fun _=>⟨Go.undef,0⟩) (a.eval x) c:=RdT.of sx
 have key:(Builtin.len_ #[T] o.type #[a.eval x]).run P w=.ok (.int .i64 n) w:=by
  rcases hrd.len hl with ⟨ad,cap,hv,hns⟩ | ⟨s,rfl,hv,rfl⟩
  . rw [hv]
    have:∃ e es eb ik,ti.sh=.slice e es eb ik:=by
     unfold x38 at hok;split at hok
     . exact absurd rfl (hns _)
     . split at hok
       . rename_i h;exact ⟨_,_,_,_,h⟩
       . cases hok
    obtain ⟨e,es,eb,ik,hsh⟩:=this;exact Slot.run_len_slice hti' hsh _ _ _ _ w
  . rw [hv]
    have hsh:ti.sh=.string:=by
     simp only [x38] at hok;split at hok
     . assumption
     . cases hok
    obtain ⟨dd,i,z,hd,hi,hz,_,_,_,_,_,hsh'⟩:=hti'.ex
    have:=vnq (hsh'.symm.trans hsh)
    subst this;simp [Builtin.len_,z6x hd,goInt]
 rw [z4y ho,show (#[x]:Array Operand).map a.eval=#[a.eval x] from by simp]
 have:∀ cs,(builtin .len #[T] o.type cs #[a.eval x]).run P w=.ok (.value (.int .i64 n)) w:=fun cs=>by
  simp only [builtin,Sem.run_bind,key];rfl
 exact this _
section
variable (P:Program) (Γ:List (Nat×List Cell)) (lit fn:Bool) (σ:List SV) (η:List SB) (nb:Nat) (o:Oper)
def xwz (x:Operand):HO:=vO o (orr x) [] (some (opdS Γ σ x))
def xrd (c x y:Operand):HO:=match wby (opdS Γ σ c) (opdS Γ σ x) (opdS Γ σ y) with
 | some v=>vO o (orr c++orr x++orr y) [] (some v)
 | none=>oldO P σ nb o
def fBin (op:BinOp) (x y:Operand):HO:=match w7j (opdS Γ σ x) (opdS Γ σ y) with
 | some (p,q)=>match abin op p q with
  | some v=>vO o (orr x++orr y) [] (some (.one (.dat (.raw v))))
  | none=>opP P Γ σ η nb o
 | none=>opP P Γ σ η nb o
def fUn (op:UnOp) (x:Operand):HO:=match rawS (opdS Γ σ x) with
 | some p=>match aun op p with
  | some v=>vO o (orr x) [] (some (.one (.dat (.raw v))))
  | none=>opP P Γ σ η nb o
 | none=>opP P Γ σ η nb o
def xkr (T:TypeId) (x:Operand):HO:=v0y P T fun ti=>match seeH η (opdS Γ σ x) with
 | some (rh,hs)=>vO o (orr x) rh (xou ti hs)
 | none=>.bad
def wmq (T:TypeId) (x y:Operand):HO:=match o.dst with
 | none=>v0y P T fun ti=>match zxw (opdS Γ σ y) with
  | some us=>if us.length=ti.size then match xqe η ti.size (opdS Γ σ x) us with
   | some (b,z)=>.eff (orr x++orr y) [b] [] [(b,z)] none
   | none=>.bad
   else .bad
  | none=>.bad
 | some _=>.bad
def vzt (S:TypeId) (x:Operand) (f:Nat):HO:=v0y P S fun ti=>match ti.sh with
 | .struct fs=>match fs[f]? with
  | some (off,_,_)=>vO o (orr x) [] (xxe (opdS Γ σ x) off)
  | none=>.bad
 | _=>.bad
def xyf (T:TypeId) (x y:Operand):HO:=v0y P T fun ti=>match zep ti.sh (opdS Γ σ x) (opdS Γ σ y) with
 | some v=>vO o (orr x++orr y) [] (some v)
 | none=>oldO P σ nb o
def wme (T:TypeId) (x:Operand) (f:Nat):HO:=v0y P T fun ti=>match ti.sh with
 | .struct fs=>match fs[f]? with
  | some (off,_,ft)=>v0y P ft fun tf=>vO o (orr x) [] (yem off tf (opdS Γ σ x))
  | none=>.bad
 | _=>.bad
def yyy (T:TypeId) (x y:Operand):HO:=v0y P T fun ti=>match ti.sh with
 | .array n e es=>v0y P e fun te=>match intS (opdS Γ σ y) with
  | some ix=>if (0<=ix/\ix<n)/\es=te.size then vO o (orr x++orr y) [] (yem (ix.toNat*es) te (opdS Γ σ x)) else .bad
  | none=>.bad
 | .string=>vO o (orr x++orr y) [] (wxr (opdS Γ σ x) (opdS Γ σ y))
 | _=>.bad
def fLen (x:Operand) (T:TypeId):HO:=match opdS Γ σ x,mkTI P T with
 | .one (.dat c),some ti=>match x38 ti c,lenC c with
  | true,some n=>vO o (orr x) [] (some (.one (.dat (.raw (.int .i64 (n:Int))))))
  | _,_=>opH P Γ lit fn σ η nb o
 | _,_=>opH P Γ lit fn σ η nb o
def yb2 (c:Call):HO:=match c.callee with
 | .value x=>y2d P Γ (z7i lit fn) σ η o x c.args.toList
 | .builtin .len=>match c.args.toList,c.argTypes.toList with
  | [x],[T]=>fLen P Γ lit fn σ η nb o x T
  | _,_=>opH P Γ lit fn σ η nb o
 | .builtin _=>opH P Γ lit fn σ η nb o
 | _=>.bad
def zvb (x:Operand) (n:Nat):HO:=vO o (orr x) [] (yxy (opdS Γ σ x) n)
def fNil (x:Operand):HO:=if ptrH (opdS Γ σ x)=true then vO o (orr x) [] (some (opdS Γ σ x)) else .bad
def xxz (T:TypeId) (ps:Array (Nat×Operand)):HO:=v0y P T fun ti=>if zdb ti=true/\ti.sh.agg=true then vO o (orrs ps.toList) [] ((zjl (placeOf ti.sh) (ti.zc.map .dat) (zka Γ σ ps.toList)).map .agg) else .bad
def vd8 (T:TypeId):HO:=v0y P T fun ti=>nO o [] [] (.one (.ptr nb 0)) [] (.box (ti.zc.map .dat) (some T))
def fBox (T:TypeId) (x:Operand):HO:=match zxw (opdS Γ σ x) with
 | some hs=>nO o (orr x) [] (.one (.ptr nb 0)) [] (.box hs (some T))
 | none=>.bad
def opF:HO:=match o.op with
 | .move x=>xwz Γ σ o x
 | .assign x=>xwz Γ σ o x
 | .pick c x y=>xrd P Γ σ nb o c x y
 | .binOp op _ x y _=>fBin P Γ σ η nb o op x y
 | .unOp op _ x=>fUn P Γ σ η nb o op x
 | .load T x=>xkr P Γ σ η o T x
 | .store T x y=>wmq P Γ σ η o T x y
 | .fieldAddr S x f=>vzt P Γ σ o S x f
 | .indexAddr T x y=>xyf P Γ σ nb o T x y
 | .field T x f=>wme P Γ σ o T x f
 | .index T x y=>yyy P Γ σ o T x y
 | .extract x n=>zvb Γ σ o x n
 | .nilCheck x=>fNil Γ σ o x
 | .build T ps=>xxz P Γ σ o T ps
 | .alloc T=>vd8 P nb o T
 | .box T x=>fBox Γ σ nb o T x
 | .call c=>yb2 P Γ lit fn σ η nb o c
 | _=>opH P Γ lit fn σ η nb o
end
theorem wcy {lit fn:Bool} {σ:List SV} {η:List SB} {nb:Nat} {o:Oper}:opF P Γ lit fn σ η nb o=opH P Γ lit fn σ η nb o\/(∃ rd rh e h new,opF P Γ lit fn σ η nb o=.eff rd rh e h new/\Sound Γ P o σ η nb rd rh e h new):=by
 have hv:∀{rd:List Nat} {v:SV},(∀ d,o.dst=some d->xlu Γ P o σ η (d::rd) [] [(d,v)] [])->vO o rd [] (some v)=.bad\/∃ rd' rh e h new,vO o rd [] (some v)=.eff rd' rh e h new/\Sound Γ P o σ η nb rd' rh e h new:=by
  intro rd v h;unfold vO
  cases hd:o.dst with
  | none=>exact .inl rfl
  | some d=>exact .inr ⟨_,_,_,_,_,rfl,h d hd⟩
 unfold opF
 split
 case h_4 op T x y U ho=>
  unfold fBin
  have e:opH P Γ lit fn σ η nb o=opP P Γ σ η nb o:=by unfold opH;rw [ho]
  split
  . rename_i p q hpq
    split
    . rename_i v hab
      cases hd:o.dst with
      | none=>
       left
       have:opP P Γ σ η nb o=.bad:=by
        unfold opP;rw [ho];simp only [vO,oldO,hd]
        repeat' split
        all_goals first | rfl | simp_all
       rw [e,this];unfold vO;rw [hd]
      | some d=>
       right
       refine ⟨_,_,_,_,_,by unfold vO;rw [hd],?_⟩;exact ys7 ho hd hpq hab
    . exact .inl e.symm
  . exact .inl e.symm
 case h_5 op T x ho=>
  unfold fUn
  have e:opH P Γ lit fn σ η nb o=opP P Γ σ η nb o:=by unfold opH;rw [ho]
  split
  . rename_i p hp
    split
    . rename_i v hab
      cases hd:o.dst with
      | none=>
       left
       have:opP P Γ σ η nb o=.bad:=by
        unfold opP;rw [ho];simp only;unfold oldO;rw [hd]
       rw [e,this];unfold vO;rw [hd]
      | some d=>
       right
       refine ⟨_,_,_,_,_,by unfold vO;rw [hd],?_⟩;exact s_un ho hd hp hab
    . exact .inl e.symm
  . exact .inl e.symm
 case h_17 c ho=>
  unfold yb2
  split
  . rename_i x hc;left;unfold opH;rw [ho];simp only [hc]
  . rename_i hc
    split
    . rename_i x T ha ht;unfold fLen
      split
      . rename_i cc ti hx hti
        split
        . rename_i n hok hl
          have ho':o.op=.call { callee:=.builtin .len,args:=#[x],argTypes:=#[T] }:=by
           rw [ho];obtain ⟨cal,args,tys⟩:=c;simp only at hc ha ht;rw [hc,zz1 ha,vkw ht]
          cases hd:o.dst with
          | none=>
           left
           have:opH P Γ lit fn σ η nb o=.bad:=by
            unfold opH;rw [ho'];simp only [hx,y0l,oldO,hd]
           rw [this];unfold vO;rw [hd]
          | some d=>
           right
           refine ⟨_,_,_,_,_,by unfold vO;rw [hd],?_⟩;exact y43 ho' hd hti hx hok hl
        . exact .inl rfl
      . exact .inl rfl
    . exact .inl rfl
  . exact .inl rfl
  . rename_i h1 h2 h3
    left;unfold opH;rw [ho]
    cases hcc:c.callee with
    | value x=>exact absurd hcc (h1 x)
    | builtin b=>exact absurd hcc (h3 b)
    | _=>simp only [hcc]
 all_goals first
  | exact .inl rfl
  | (rename_i ho;left;unfold opH;rw [ho];simp only;unfold opP;rw [ho];rfl)
  | (rename_i ho;left;unfold opH;rw [ho];rfl)
theorem SRL.of {η:List SB} {ρ:Nat->Value} {M:Nat->Nat->Prop} {w:World}:∀{l:List AV} {r:List SV} {vs:List Value},zmk l=some r->RdBL M w vs l->SRL η ρ M w vs r:=we9
theorem veg {lit fn:Bool} {σ:List SV} {η:List SB} {nb:Nat} {o:Oper} {f:FuncId} {l:List AV} {rd rh bs:List Nat} (h:opH P Γ lit fn σ η nb o=.callD f l rd rh bs) {sl:List SV} (hl:zmk l=some sl) {η':List SB} {res:SV} (hc:xgj Γ P f (appL (frzE η bs) η) sl η' res) :
 van Γ P o σ η (appL (yph o res) σ) η':=by
 obtain ⟨x,xs,ts,ho⟩:=vf5 h (.inl ⟨_,_,_,_,_,rfl⟩);rw [xvr ho] at h
 have ho':o.op=.call { callee:=.value x,args:=xs.toList.toArray,argTypes:=ts }:=by rw [ho]
 have hG:∀{f':FuncId} {caps:List SV} {rd' rh':List Nat},zw9 Γ σ η x=some (f',caps,rd',rh')->y2d.callG Γ (z7i lit fn) σ η o xs.toList f' caps rd' rh'=.callD f l rd rh bs->van Γ P o σ η (appL (yph o res) σ) η':=fun {f' caps rd' rh'} hcal hg=>by
  unfold y2d.callG at hg;split at hg
  . rename_i l' bs' ha;have ha:=whr ha
    cases hg;have harr:=v8b ha;intro E ρ a w hI K Q hK;have hnt:=xip ha
    have hnt1:w8c (yvs Γ σ xs.toList)=true:=by
     unfold w8c at hnt ⊢;rw [List.all_append,Bool.and_eq_true] at hnt;exact hnt.1
    obtain ⟨cv,hcv,hcr⟩:=vvv hI hcal;have hsr:=(y51 hI xs.toList hnt1).append hcr;obtain ⟨hw1,_,hfz⟩:=Went.frz bs η hI.inv rfl harr (fun _=>.inl rfl);have hrb:=z1s hw1.inv ha hfz (hsr.mv hw1.mv);have hcalls:=hc.2 _ ρ w _ hw1.inv (SRL.of hl hrb);unfold Oper.wp;rw [xh3 ho' hcv hc.1 w];show Calls P f _ w _
    have e1:xs.toList.toArray.map a.eval++cv.toArray=(xs.toList.map a.eval++cv).toArray:=by simp
    rw [e1];refine hcalls.mono ?_;rintro e w' ⟨v,ρ',rfl,hw,hv⟩;exact hK _ _ ρ' (((hI.go hw1).go hw).dst hv)
  . split at hg<;>cases hg
 unfold y2d at h;split at h
 . split at h
   . split at h
     . unfold vO at h;repeat' split at h
       all_goals cases h
     . cases h
   . exact hG rfl h
 . rename_i t;split at h
   . split at h<;>cases h
   . split at h
     . rename_i f' caps rd' rh' hcal;exact hG hcal h
     . cases h
 . cases h
theorem SVR.refs {η:List SB} {ρ:Nat->Value} {M:Nat->Nat->Prop} {w:World} {v:Value} {x:SV} (h:SVR η ρ M w v x):∀ b∈xx4 x,okB η b:=fun b hb=>by
 cases x with
 | tup l=>
  obtain ⟨vs,_,h⟩:=h;rw [Hp.vj7,h.vj7] at hb;exact h.refs b hb
 | one h'=>exact SVR0.refs (x:=.one h') h b hb
 | agg l=>exact SVR0.refs (x:=.agg l) h b hb
 | _=>cases hb
theorem RI.w4k {E:HEnv} {η:List SB} {ρ:Nat->Value} {σ:List SV} {a:Act} {w:World} (h:RI Γ E ρ σ (η++[.fresh]) a w):RI Γ E ρ σ η a w:=by
 have hget:∀(i:Nat) (x:SB),η[i]? = some x->(η++[SB.fresh])[i]? = some x:=fun i x hi=>by rw [List.getElem?_append_left (List.getElem?_eq_some_iff.1 hi).1];exact hi
 have hok:∀ b,okB (η++[.fresh]) b->okB η b:=fun b ⟨x,hx,hf⟩=>by
  rw [List.getElem?_append] at hx;split at hx
  . exact ⟨x,hx,hf⟩
  . rename_i hlt
    cases hn:b-η.length with
    | zero=>rw [hn] at hx;simp at hx;exact absurd hx.symm hf
    | succ n=>rw [hn] at hx;simp at hx
 have hM:∀ b o,MX E.Mo ρ η b o->MX E.Mo ρ (η++[.fresh]) b o:=by
  rintro b o (hm | ⟨i,x,hi,hx⟩)
  . exact .inl hm
  . exact .inr ⟨i,x,hget i x hi,hx⟩
 have hw:=h.went
 refine ⟨h.hd,h.hs,fun i x hi=>(h.slot i x hi).at hM (fun b hb=>⟨hok b ((h.slot i x hi).refs b hb),rfl⟩),fun b hb=>hok b (hw.ok b hb),hw.rho,hw.keep.trans (xhx.shrink w hM),hw.grow,
  ⟨hw.inv.bnd,fun i x hi=>(hw.inv.blk i x (hget i x hi)).at hM (fun b hb=>⟨hok b ((hw.inv.blk i x (hget i x hi)).refs b hb),rfl⟩),fun i j x y hi hj=>hw.inv.inj i j x y (hget i x hi) (hget j y hj),fun i x hi=>hw.inv.sep i x (hget i x hi),hw.inv.glob.keep (xhx.shrink w hM)⟩,
  hw.size,hw.os,hw.tape,hw.output,hw.frame,fun k ⟨i,x,hi,hx⟩=>hw.fresh k ⟨i,x,hget i x hi,hx⟩⟩
theorem StH.w4k {e:List SB} {σ:List SV} {η:List SB}:StH Γ e σ (η++[.fresh]) σ η:=fun _ ρ _ _ _ h=>⟨ρ,h.w4k⟩
inductive GR where
 | plain
 | when (d:Nat) (c b:Bool)
 | skip (d:Nat)
 | bad
def vu6 (ops:List Oper) (σ:List SV) (o:Oper):GR:=match o.guard with
 | none=>.plain
 | some (j,b)=>match (ops[j]?).bind (·.dst) with
  | some d=>match gtS σ d with
   | .one (.dat (.raw (.bool c)))=>.when d c b
   | .undef=>.skip d
   | _=>.bad
  | none=>.bad
theorem zr2 {ops:Array Oper} {σ:List SV} {o:Oper}:(vu6 ops.toList σ o=.plain->o.guard=none)/\(∀ d c b,vu6 ops.toList σ o=.when d c b->∃ j,o.guard=some (j,b)/\(ops[j]?).bind (·.dst)=some d/\gtS σ d=.one (.dat (.raw (.bool c))))/\
 (∀ d,vu6 ops.toList σ o=.skip d->∃ j b,o.guard=some (j,b)/\(ops[j]?).bind (·.dst)=some d/\gtS σ d=.undef):=by
 unfold vu6
 cases hg:o.guard with
 | none=>exact ⟨fun _=>rfl,fun d c b h=>(by cases h),fun d h=>(by cases h)⟩
 | some p=>
  obtain ⟨j,b⟩:=p;simp only [Array.getElem?_toList]
  cases hd:(ops[j]?).bind (·.dst) with
  | none=>exact ⟨fun h=>(by cases h),fun d c b h=>(by cases h),fun d h=>(by cases h)⟩
  | some d=>
   simp only []
   split
   . rename_i c hc;refine ⟨fun h=>(by cases h),fun d' c' b' h=>?_,fun d h=>(by cases h)⟩
     cases h;exact ⟨j,rfl,hd,hc⟩
   . rename_i hc;refine ⟨fun h=>(by cases h),fun d' c' b' h=>(by cases h),fun d' h=>?_⟩
     cases h;exact ⟨j,b,rfl,hd,hc⟩
   . exact ⟨fun h=>(by cases h),fun d c b h=>(by cases h),fun d h=>(by cases h)⟩
def zur (n:Nat) (η:List SB):List SB:=match η.drop n with
 | [.fresh]=>η.take n
 | _=>η
theorem yk1 {lit fn:Bool} {o:Oper} {σ:List SV} {η:List SB} {nb:Nat} {rd rh:List Nat} {e:List (Nat×SV)} {h:List (Nat×SB)} {new:Option SB} (hr:opF P Γ lit fn σ η nb o=.eff rd rh e h new):Sound Γ P o σ η nb rd rh e h new:=by
 rcases wcy (P:=P) (Γ:=Γ) (lit:=lit) (fn:=fn) (o:=o) (σ:=σ) (η:=η) (nb:=nb) with he | ⟨_,_,_,_,_,he,hs⟩
 . have hs:=yvt (P:=P) (Γ:=Γ) (lit:=lit) (fn:=fn) (o:=o) (σ:=σ) (η:=η) (nb:=nb);rw [<-he,hr] at hs;exact hs
 . rw [hr] at he
   cases he;exact hs
theorem vh8 {lit fn:Bool} {o:Oper} {σ:List SV} {η:List SB} {nb:Nat} {r:HO} (hr:opF P Γ lit fn σ η nb o=r) (hn:∀ rd rh e h new,r≠.eff rd rh e h new):opH P Γ lit fn σ η nb o=r:=by
 rcases wcy (P:=P) (Γ:=Γ) (lit:=lit) (fn:=fn) (o:=o) (σ:=σ) (η:=η) (nb:=nb) with he | ⟨_,_,_,_,_,he,_⟩
 . exact he.symm.trans hr
 . exact absurd (hr.symm.trans he) (hn _ _ _ _ _)
theorem zgh.post {e:List SB} {c:Code} {Q Q':Exit->List SV->List SB->Prop} {σ:List SV} {η:List SB} (h:zgh Γ P e c Q σ η) (hq:∀ x s t,Q x s t->∃ s' t',StH Γ e s t s' t'/\Q' x s' t'):zgh Γ P e c Q' σ η:=fun E ρ a w hE hR=>
 wp_mono (h E ρ a w hE hR) (fun x a w ⟨s,t,ρ,h1,h2⟩=>by
  obtain ⟨s',t',h3,h4⟩:=hq x s t h1;obtain ⟨ρ',h5⟩:=h3 E ρ a w hE h2
  exact ⟨s',t',ρ',h4,h5⟩)
def vhv (Γ:List (Nat×List Cell)) (P:Program) (e:List SB) (c:Code) (Q:Exit->List SV->List SB->Prop) (σ:List SV) (η:List SB):Prop:=
 ∀(E:HEnv) (ρ:Nat->Value) (a:Act) (w:World),At Γ e E->RI Γ E ρ σ η a w->∀(b:Frame) (k:List Item) (cs:List Frame),∃ x a' w',wq1 Γ E Q x a' w'/\Arrives P (lone (b.at a (.code c::.inLoop c::k)) cs w) b k cs x a' w'
theorem vhv.loop {e:List SB} {c:Code} {Q:Exit->List SV->List SB->Prop} {σ:List SV} {η:List SB} (h:vhv Γ P e c Q σ η):zgh Γ P e (.loop c) Q σ η:=fun E ρ a w hE hR b k cs=>by
 obtain ⟨x,a',w',hq,harr⟩:=h E ρ a w hE hR b k cs;exact ⟨x,a',w',hq,.of_steps (.one step_loop) harr⟩
theorem vhv.round {e:List SB} {c:Code} {Q:Exit->List SV->List SB->Prop} {σ:List SV} {η:List SB} (h:zgh Γ P e c (y2l (fun σ η=>vhv Γ P e c Q σ η) Q) σ η):vhv Γ P e c Q σ η:=fun E ρ a w hE hR b k cs=>by
 obtain ⟨ex,a1,w1,⟨σ',η',ρ',hq,hR'⟩,harr⟩:=h E ρ a w hE hR b (.inLoop c::k) cs
 cases ex with
 | normal=>
  obtain ⟨e2,a2,w2,hq2,harr2⟩:=hq E ρ' a1 w1 hE hR' b k cs;exact ⟨e2,a2,w2,hq2,.of_steps (Steps.trans harr (.one step_inLoop)) harr2⟩
 | exit id=>exact ⟨_,a1,w1,⟨σ',η',ρ',hq,hR'⟩,.pass (x:=.inLoop c) rfl (fun _ _=>.inl (by simp)) harr⟩
 | goto l=>exact ⟨_,a1,w1,⟨σ',η',ρ',hq,hR'⟩,.pass (x:=.inLoop c) rfl (fun _ _=>.inl (by simp)) harr⟩
 | ret=>exact ⟨_,a1,w1,⟨σ',η',ρ',hq,hR'⟩,.pass (x:=.inLoop c) rfl (fun _ _=>.inl (by simp)) harr⟩
 | panic ch=>exact ⟨_,a1,w1,⟨σ',η',ρ',hq,hR'⟩,.pass (x:=.inLoop c) rfl (fun _ _=>.inl (by simp)) harr⟩
 | outgrown=>exact ⟨_,a1,w1,⟨σ',η',ρ',hq,hR'⟩,.pass (x:=.inLoop c) rfl (fun _ _=>.inl (by simp)) harr⟩
def rnHC (r:Nat->Nat):HC->HC
 | .ptr b o=>.ptr (r b) o
 | .pel b es k f=>.pel (r b) es k f
 | .sl b es lo n=>.sl (r b) es lo n
 | .mp b=>.mp (r b)
 | .fnr b=>.fnr (r b)
 | .any=>.any
 | .dat c=>.dat c
def x09 (r:Nat->Nat):SV->SV
 | .one h=>.one (rnHC r h)
 | .agg l=>.agg (l.map (rnHC r))
 | .any=>.any
 | .undef=>.undef
 | .elt cs=>.elt cs
 | .tup l=>.tup l
def rnSV (r:Nat->Nat):SV->SV
 | .one h=>.one (rnHC r h)
 | .agg l=>.agg (l.map (rnHC r))
 | .any=>.any
 | .undef=>.undef
 | .elt cs=>.elt cs
 | .tup l=>.tup (l.map (x09 r))
def rnSB (r:Nat->Nat):SB->SB
 | .box l T=>.box (l.map (rnHC r)) T
 | .map es=>.map (es.map fun p=>(p.1,x09 r p.2))
 | .clo f l=>.clo f (l.map (x09 r))
 | .fresh=>.fresh
 | .dead=>.dead
 | .arr c k T=>.arr c k T
theorem zbc {r:Nat->Nat} {x:SB}:(rnSB r x).own=x.own:=by cases x<;>rfl
theorem zw5 {r:Nat->Nat} {o:Nat} {x:SB}:(rnSB r x).mut o↔x.mut o:=by cases x<;>exact Iff.rfl
theorem zpj {r:Nat->Nat} {x:SB}:rnSB r x=.fresh↔x=.fresh:=by cases x<;>simp [rnSB]
structure Rn (r:Nat->Nat) (η:List SB) (ρ:Nat->Value) (η':List SB) (ρ':Nat->Value):Prop where
 ok:∀ b,okB η b->okB η' (r b)
 back:∀ b,okB η' (r b)->okB η b
 rho:∀ b,ρ' (r b)=ρ b
section
variable {r:Nat->Nat} {η η':List SB} {ρ ρ':Nat->Value} {M:Nat->Nat->Prop} {w:World}
theorem HRd.rn (R:Rn r η ρ η' ρ') {v:Value} {h:HC}:HRd η' ρ' M w v (rnHC r h)↔HRd η ρ M w v h:=by
 have hb:∀ b,okB η' (r b)↔okB η b:=fun b=>⟨R.back b,R.ok b⟩
 cases h<;>simp only [rnHC,HRd,hb,R.rho]
theorem HRL.rn (R:Rn r η ρ η' ρ'):∀{vs:List Value} {l:List HC},HRL η' ρ' M w vs (l.map (rnHC r))↔HRL η ρ M w vs l
 | [],[]=>Iff.rfl
 | [],_::_=>Iff.rfl
 | _::_,[]=>Iff.rfl
 | _::_,_::_=>by simp only [List.map_cons,HRL,HRd.rn R,HRL.rn R]
theorem SVR0.rn (R:Rn r η ρ η' ρ') {v:Value} {x:SV}:SVR0 η' ρ' M w v (x09 r x)↔SVR0 η ρ M w v x:=by
 cases x<;>simp only [x09,SVR0,HRd.rn R,HRL.rn R]
theorem SRL.rn (R:Rn r η ρ η' ρ'):∀{vs:List Value} {l:List SV},SRL η' ρ' M w vs (l.map (x09 r))↔SRL η ρ M w vs l
 | [],[]=>Iff.rfl
 | [],_::_=>Iff.rfl
 | _::_,[]=>Iff.rfl
 | _::_,_::_=>by simp only [List.map_cons,SRL,SVR0.rn R,SRL.rn R]
theorem SVR.rn (R:Rn r η ρ η' ρ') {v:Value} {x:SV}:SVR η' ρ' M w v (rnSV r x)↔SVR η ρ M w v x:=by
 cases x with
 | tup l=>simp only [rnSV,SVR,SRL.rn R]
 | one h=>exact HRd.rn R
 | agg l=>simp only [rnSV,SVR,SVR0,HRL.rn R]
 | _=>exact Iff.rfl
theorem EnR.rn (R:Rn r η ρ η' ρ'):∀{es:List MapEntry} {l:List (Value×SV)},EnR η' ρ' M w es (l.map fun p=>(p.1,x09 r p.2))↔EnR η ρ M w es l
 | [],[]=>Iff.rfl
 | [],_::_=>Iff.rfl
 | _::_,[]=>Iff.rfl
 | _::_,_::_=>by simp only [List.map_cons,EnR,SVR0.rn R,EnR.rn R]
theorem SBR.rn (R:Rn r η ρ η' ρ') {v:Value} {x:SB}:SBR η' ρ' M w v (rnSB r x)↔SBR η ρ M w v x:=by
 cases x<;>simp only [rnSB,SBR,HRL.rn R,EnR.rn R,SRL.rn R]
end
def atR (φ:List Nat) (N:Nat) (i:Nat):Nat:=match φ[i]? with
 | some j=>j
 | none=>N+(i-φ.length)
def w6y (φ:List Nat) (η ηs:List SB):Prop:=ηs.length=φ.length/\∀(i:Nat) (x:SB),ηs[i]? = some x->∃ j:Nat,φ[i]? = some j/\η[j]? = some (rnSB (atR φ η.length) x)
def putR (φ:List Nat) (η η':List SB):List SB:=appL (φ.zip (η'.map (rnSB (atR φ η.length)))) η++(η'.drop φ.length).map (rnSB (atR φ η.length))
theorem xua {α:Type}:∀(φ:List Nat) (xs l:List α) (j:Nat),j∉φ->(appL (φ.zip xs) l)[j]? = l[j]?
 | [],_,_,_,_=>rfl
 | _::_,[],_,_,_=>rfl
 | i::φ,x::xs,l,j,h=>by
  simp only [List.mem_cons,not_or] at h;show (appL (φ.zip xs) (l.set i x))[j]? = _;rw [xua φ xs _ j h.2,List.getElem?_set_ne (Ne.symm h.1)]
theorem y1y {α:Type}:∀(φ:List Nat) (xs l:List α) (i j:Nat) (x:α),φ.Nodup->φ[i]? = some j->xs[i]? = some x->j<l.length->(appL (φ.zip xs) l)[j]? = some x
 | [],_,_,_,_,_,_,h,_,_=>by simp at h
 | _::_,[],_,_,_,_,_,_,h,_=>by simp at h
 | k::φ,y::xs,l,i,j,x,hn,h,hx,hl=>by
  show (appL (φ.zip xs) (l.set k y))[j]? = _;rw [List.nodup_cons] at hn
  cases i with
  | zero=>
   simp only [List.getElem?_cons_zero,Option.some.injEq] at h hx;subst h;subst hx;rw [xua φ xs _ k hn.1,List.getElem?_set_self hl]
  | succ i=>
   simp only [List.getElem?_cons_succ] at h hx;exact y1y φ xs _ i j x hn.2 h hx (by simpa using hl)
section
variable {φ:List Nat} {η ηs ηs':List SB}
theorem xbc {N i j:Nat} (h:φ[i]? = some j):atR φ N i=j:=by unfold atR;rw [h]
theorem y8m {N i:Nat} (h:φ.length<=i):atR φ N i=N+(i-φ.length):=by unfold atR;rw [List.getElem?_eq_none h]
theorem xdx:(putR φ η ηs').length=η.length+(ηs'.length-φ.length):=by unfold putR;simp [x9j]
theorem xjo (hn:φ.Nodup) (hb:∀ j∈φ,j<η.length) {i:Nat} {x:SB} (hx:ηs'[i]? = some x):(putR φ η ηs')[atR φ η.length i]? = some (rnSB (atR φ η.length) x):=by
 unfold putR;by_cases hi:i<φ.length
 . have hj:φ[i]? = some φ[i]:=List.getElem?_eq_getElem hi;rw [xbc hj,List.getElem?_append_left (by rw [x9j];exact hb _ (List.getElem_mem hi))];exact y1y φ _ η i _ _ hn hj (by rw [List.getElem?_map,hx];rfl) (hb _ (List.getElem_mem hi))
 . rw [y8m (by omega),List.getElem?_append_right (by rw [x9j];omega),x9j];rw [show η.length+(i-φ.length)-η.length=i-φ.length from by omega,List.getElem?_map,List.getElem?_drop,show φ.length+(i-φ.length)=i from by omega,hx];rfl
theorem ygg {j:Nat} (hl:j<η.length) (h:j∉φ):(putR φ η ηs')[j]? = η[j]?:=by
 unfold putR;rw [List.getElem?_append_left (by rw [x9j];exact hl),xua φ _ _ j h]
theorem vw2 (hn:φ.Nodup) (hb:∀ j∈φ,j<η.length) (hlen:φ.length<=ηs'.length) {j:Nat} {y:SB} (h:(putR φ η ηs')[j]? = some y) :
 (∃ i x,j=atR φ η.length i/\ηs'[i]? = some x/\y=rnSB (atR φ η.length) x)\/(j∉φ/\j<η.length/\η[j]? = some y):=by
 have hjl:j<(putR φ η ηs').length:=(List.getElem?_eq_some_iff.1 h).1;rw [xdx] at hjl
 have key:∀ i,i<ηs'.length->j=atR φ η.length i->∃ i x,j=atR φ η.length i/\ηs'[i]? = some x/\y=rnSB (atR φ η.length) x:=fun i hi e=>by
  have hx:ηs'[i]? = some ηs'[i]:=List.getElem?_eq_getElem hi;refine ⟨i,_,e,hx,?_⟩
  have:=xjo hn hb hx
  rw [<-e,h] at this;exact (Option.some.inj this)
 by_cases hm:j∈φ
 . obtain ⟨i,hi,e⟩:=List.getElem_of_mem hm;exact .inl (key i (by omega) (by rw [xbc (List.getElem?_eq_getElem hi),e]))
 . by_cases hj:j<η.length
   . rw [ygg hj hm] at h;exact .inr ⟨hm,hj,h⟩
   . exact .inl (key (φ.length+(j-η.length)) (by omega) (by rw [y8m (by omega)];omega))
end
def unR (φ:List Nat) (N j:Nat):Nat:=if j<N then φ.idxOf j else φ.length+(j-N)
theorem z1c {φ:List Nat} {N:Nat} (hn:φ.Nodup) (hb:∀ j∈φ,j<N) (i:Nat):unR φ N (atR φ N i)=i:=by
 unfold unR;by_cases hi:i<φ.length
 . rw [xbc (List.getElem?_eq_getElem hi),if_pos (hb _ (List.getElem_mem hi))];exact hn.idxOf_getElem i hi
 . rw [y8m (by omega),if_neg (by omega)];omega
theorem xgj.frame {f:FuncId} {φ:List Nat} {η ηs ηs':List SB} {args:List SV} {res:SV} (hn:φ.Nodup) (hb:∀ j∈φ,j<η.length) (hp:w6y φ η ηs) (hlen:φ.length<=ηs'.length) (h:xgj Γ P f ηs args ηs' res) :
 xgj Γ P f η (args.map (x09 (atR φ η.length))) (putR φ η ηs') (rnSV (atR φ η.length) res):=by
 refine ⟨h.1,fun Mo ρ w vs hI hsr=>?_⟩;generalize hr:atR φ η.length=r at hsr ⊢
 have hlt:∀ i,i<φ.length->r i<η.length/\r i∈φ:=fun i hi=>by
  rw [<-hr,xbc (List.getElem?_eq_getElem hi)];exact ⟨hb _ (List.getElem_mem hi),List.getElem_mem hi⟩
 have hge:∀ i,φ.length<=i->η.length<=r i:=fun i hi=>by rw [<-hr,y8m hi];omega
 have hun:∀ i,unR φ η.length (r i)=i:=fun i=>by rw [<-hr];exact z1c hn hb i
 have hinj:∀ i j,r i=r j->i=j:=fun i j e=>by rw [<-hun i,<-hun j,e]
 have hat:∀ i x,ηs[i]? = some x->η[r i]? = some (rnSB r x):=fun i x hx=>by
  obtain ⟨j,hj,hy⟩:=hp.2 i x hx;rw [hr] at hy;rw [<-hr,xbc hj,hr];exact hy
 have hsl:∀ i x,ηs[i]? = some x->i<φ.length:=fun i x hx=>by
  have:=(List.getElem?_eq_some_iff.1 hx).1
  rw [hp.1] at this;exact this
 have hget:∀ i,i<φ.length->∃ x,ηs[i]? = some x:=fun i hi=>⟨_,List.getElem?_eq_getElem (by rw [hp.1];exact hi)⟩
 have hphi:∀ j,j∈φ->∃ i,i<φ.length/\r i=j:=fun j hj=>by
  obtain ⟨i,hi,e⟩:=List.getElem_of_mem hj;exact ⟨i,hi,by rw [<-hr,xbc (List.getElem?_eq_getElem hi),e]⟩
 have R0:Rn r ηs (fun i=>ρ (r i)) η ρ:=⟨fun b ⟨x,hx,hf⟩=>⟨_,hat b x hx,fun e=>hf (zpj.1 e)⟩,fun b ⟨y,hy,hf⟩=>by
  have hbl:b<φ.length:=by
   rcases Nat.lt_or_ge b φ.length with h1 | h1
   . exact h1
   . have:=hge b h1
     rw [List.getElem?_eq_none this] at hy;cases hy
  obtain ⟨x,hx⟩:=hget b hbl
  have:=hat b x hx
  rw [hy] at this
  cases this
  exact ⟨x,hx,fun e=>hf (zpj.2 e)⟩,fun b=>rfl⟩
 let Mo':Nat->Nat->Prop:=fun b o=>Mo b o\/∃ j x,j∉φ/\η[j]? = some x/\x.mut o/\real (ρ j)/\bk (ρ j)=b
 have hM:MX Mo' (fun i=>ρ (r i)) ηs=MX Mo ρ η:=by
  funext b o
  apply propext;constructor
  . rintro ((hm | ⟨j,x,_,hx,hmut,hre,hbk⟩) | ⟨i,x,hx,hmut,hre,hbk⟩)
    . exact .inl hm
    . exact .inr ⟨j,x,hx,hmut,hre,hbk⟩
    . exact .inr ⟨_,_,hat i x hx,zw5.2 hmut,hre,hbk⟩
  . rintro (hm | ⟨j,y,hy,hmut,hre,hbk⟩)
    . exact .inl (.inl hm)
    . by_cases hj:j∈φ
      . obtain ⟨i,hi,rfl⟩:=hphi j hj;obtain ⟨x,hx⟩:=hget i hi
        have:=hat i x hx
        rw [hy] at this;cases this;exact .inr ⟨i,x,hx,zw5.1 hmut,hre,hbk⟩
      . exact .inl (.inr ⟨j,y,hj,hy,hmut,hre,hbk⟩)
 have hIs:HInv Γ Mo' (fun i=>ρ (r i)) ηs w:=by
  refine ⟨fun b o hm=>?_,fun i x hx=>?_,fun i j x y hx hy ho ho' hre hre' he=>?_,fun i x hx ho hre o hm=>?_,?_⟩
  . rcases hm with hm | ⟨j,x,_,hx,hmut,hre,rfl⟩
    . exact hI.bnd b o hm
    . exact (hI.blk j x hx).y87 (SB.zwm hmut) hre
  . rw [hM];exact (SBR.rn R0).1 (hI.blk _ _ (hat i x hx))
  . exact hinj i j (hI.inj _ _ _ _ (hat i x hx) (hat j y hy) (by rw [zbc];exact ho) (by rw [zbc];exact ho') hre hre' he)
  . rcases hm with hm | ⟨j,y,hj,hy,hmut,hre',he⟩
    . exact hI.sep _ _ (hat i x hx) (by rw [zbc];exact ho) hre o hm
    . have:=hI.inj _ _ _ _ hy (hat i x hx) (SB.zwm hmut) (by rw [zbc];exact ho) hre' hre he
      subst this;exact hj (hlt i (hsl i x hx)).2
  . rw [hM];exact hI.glob
 have hsr':SRL ηs (fun i=>ρ (r i)) (MX Mo' (fun i=>ρ (r i)) ηs) w vs args:=by rw [hM];exact (SRL.rn R0).1 hsr
 refine (h.2 Mo' _ w vs hIs hsr').mono ?_;rintro e w' ⟨v,ρs',rfl,hw,hv⟩
 let ρ':Nat->Value:=fun j=>if j∈φ\/η.length<=j then ρs' (unR φ η.length j) else ρ j
 have hρr:∀ i,ρ' (r i)=ρs' i:=fun i=>by
  show (if r i∈φ\/η.length<=r i then ρs' (unR φ η.length (r i)) else ρ (r i))=_;rw [if_pos,hun]
  rcases Nat.lt_or_ge i φ.length with h1 | h1
  . exact .inl (hlt i h1).2
  . exact .inr (hge i h1)
 have hρn:∀ j,j∉φ->j<η.length->ρ' j=ρ j:=fun j h1 h2=>if_neg (fun h=>h.elim h1 (fun h=>by omega))
 have L1:∀ i x,ηs'[i]? = some x->(putR φ η ηs')[r i]? = some (rnSB r x):=fun i x hx=>by rw [<-hr];exact xjo hn hb hx
 have L2:∀ j y,(putR φ η ηs')[j]? = some y->(∃ i x,j=r i/\ηs'[i]? = some x/\y=rnSB r x)\/(j∉φ/\j<η.length/\η[j]? = some y):=fun j y hy=>by
  rw [<-hr];exact vw2 hn hb hlen hy
 have L3:∀ j,j∉φ->j<η.length->(putR φ η ηs')[j]? = η[j]?:=fun j h1 h2=>ygg h2 h1
 have R1:Rn r ηs' ρs' (putR φ η ηs') ρ':=⟨fun b ⟨x,hx,hf⟩=>⟨_,L1 b x hx,fun e=>hf (zpj.1 e)⟩,fun b ⟨y,hy,hf⟩=>by
  rcases L2 _ y hy with ⟨i,x,hi,hx,rfl⟩ | ⟨h1,h2,_⟩
  . rw [hinj _ _ hi];exact ⟨x,hx,fun e=>hf (zpj.2 e)⟩
  . rcases Nat.lt_or_ge b φ.length with h3 | h3
    . exact absurd (hlt b h3).2 h1
    . exact absurd (hge b h3) (by omega),hρr⟩
 have hM':MX Mo' ρs' ηs'=MX Mo ρ' (putR φ η ηs'):=by
  funext b o
  apply propext;constructor
  . rintro ((hm | ⟨j,x,hj,hx,hmut,hre,hbk⟩) | ⟨i,x,hx,hmut,hre,hbk⟩)
    . exact .inl hm
    . have hjl:=(List.getElem?_eq_some_iff.1 hx).1;exact .inr ⟨j,x,by rw [L3 j hj hjl];exact hx,hmut,by rw [hρn j hj hjl];exact hre,by rw [hρn j hj hjl];exact hbk⟩
    . exact .inr ⟨_,_,L1 i x hx,zw5.2 hmut,by rw [hρr];exact hre,by rw [hρr];exact hbk⟩
  . rintro (hm | ⟨j,y,hy,hmut,hre,hbk⟩)
    . exact .inl (.inl hm)
    . rcases L2 j y hy with ⟨i,x,rfl,hx,rfl⟩ | ⟨h1,h2,h3⟩
      . rw [hρr] at hre hbk;exact .inr ⟨i,x,hx,zw5.1 hmut,hre,hbk⟩
      . rw [hρn j h1 h2] at hre hbk;exact .inl (.inr ⟨j,y,h1,h3,hmut,hre,hbk⟩)
 have hX:∀ k,Xb (fun i=>ρ (r i)) ηs k->Xb ρ η k:=fun k ⟨i,x,hx,ho,hre,hbk⟩=>⟨_,_,hat i x hx,by rw [zbc];exact ho,hre,hbk⟩
 have hnX:∀ j x,j∉φ->η[j]? = some x->x.own=true->real (ρ j)->¬Xb (fun i=>ρ (r i)) ηs (bk (ρ j)):=fun j x hj hx ho hre ⟨i,y,hy,hoy,hrey,hbk⟩=>by
  have:=hI.inj _ _ _ _ (hat i y hy) hx (by rw [zbc];exact hoy) ho hrey hre hbk
  subst this;exact hj (hlt i (hsl i y hy)).2
 have hmv:Mv η ρ (MX Mo ρ η) w (putR φ η ηs') ρ' (MX Mo ρ' (putR φ η ηs')) w':=by
  refine ⟨fun b hb'=>?_,fun b hb'=>?_,by rw [<-hM,<-hM'];exact hw.keep,hw.grow⟩
  . have hbl:=vl0 hb';by_cases hj:b∈φ
    . obtain ⟨i,hi,rfl⟩:=hphi b hj;exact R1.ok i (hw.ok i (R0.back i hb'))
    . obtain ⟨x,hx,hf⟩:=hb';exact ⟨x,by rw [L3 b hj hbl];exact hx,hf⟩
  . have hbl:=vl0 hb';by_cases hj:b∈φ
    . obtain ⟨i,hi,rfl⟩:=hphi b hj;rw [hρr];exact hw.rho i (R0.back i hb')
    . exact hρn b hj hbl
 have hfar:∀ j x i y,j∉φ->η[j]? = some x->x.own=true->real (ρ j)->ηs'[i]? = some y->y.own=true->real (ρs' i)->bk (ρ j)≠bk (ρs' i):=fun j x i y hj hx ho hre hy hoy hrey he=>by
  rcases hw.fresh (bk (ρs' i)) ⟨i,y,hy,hoy,hrey,rfl⟩ with h1 | h1
  . have:=(hI.blk j x hx).y87 ho hre
    omega
  . rw [<-he] at h1;exact hnX j x hj hx ho hre h1
 refine ⟨v,ρ',rfl,⟨hmv.ok,hmv.rho,hmv.keep,hw.grow,⟨fun b o hm=>Nat.lt_of_lt_of_le (hI.bnd b o hm) hw.size,fun j y hy=>?_,fun j k y z hy hz ho ho' hre hre' he=>?_,fun j y hy ho hre o hm=>?_,?_⟩,hw.size,hw.os,hw.tape,hw.output,fun k hk hx=>hw.frame k hk (fun h=>hx (hX k h)),fun k ⟨j,y,hy,ho,hre,hbk⟩=>?_⟩,?_⟩
 . rcases L2 j y hy with ⟨i,x,rfl,hx,rfl⟩ | ⟨h1,h2,h3⟩
   . rw [hρr,<-hM'];exact (SBR.rn R1).2 (hw.inv.blk i x hx)
   . rw [hρn j h1 h2];exact (hI.blk j y h3).mv hmv (fun ho hre=>hw.frame _ ((hI.blk j y h3).y87 ho hre) (hnX j y h1 h3 ho hre))
 . rcases L2 j y hy with ⟨i,x,rfl,hx,rfl⟩ | ⟨h1,h2,h3⟩<;>rcases L2 k z hz with ⟨i',x',rfl,hx',rfl⟩ | ⟨h1',h2',h3'⟩
   . rw [hρr] at hre he;rw [hρr] at hre' he;rw [zbc] at ho ho';rw [hw.inv.inj i i' x x' hx hx' ho ho' hre hre' he]
   . rw [hρr] at hre he;rw [hρn k h1' h2'] at hre' he;rw [zbc] at ho;exact absurd he.symm (hfar k z i x h1' h3' ho' hre' hx ho hre)
   . rw [hρn j h1 h2] at hre he;rw [hρr] at hre' he;rw [zbc] at ho';exact absurd he (hfar j y i' x' h1 h3 ho hre hx' ho' hre')
   . rw [hρn j h1 h2] at hre he;rw [hρn k h1' h2'] at hre' he;exact hI.inj j k y z h3 h3' ho ho' hre hre' he
 . rcases L2 j y hy with ⟨i,x,rfl,hx,rfl⟩ | ⟨h1,h2,h3⟩
   . rw [hρr] at hre hm;rw [zbc] at ho;exact hw.inv.sep i x hx ho hre o (.inl hm)
   . rw [hρn j h1 h2] at hre hm;exact hI.sep j y h3 ho hre o hm
 . rw [<-hM'];exact hw.inv.glob
 . rcases L2 j y hy with ⟨i,x,rfl,hx,rfl⟩ | ⟨h1,h2,h3⟩
   . rw [hρr] at hre hbk;rw [zbc] at ho
     rcases hw.fresh k ⟨i,x,hx,ho,hre,hbk⟩ with h4 | h4
     . exact .inl h4
     . exact .inr (hX k h4)
   . rw [hρn j h1 h2] at hre hbk;exact .inr ⟨j,y,h3,ho,hre,hbk⟩
 . rw [<-hM'];exact (SVR.rn R1).2 hv
end Go.Hp
