/- The proof, part Y22: Hk, Hs. -/
import Derived.Test.YtmegdbbbllffkaaGreatDoorY19
import Derived.Test.YtmegdbbbllffkaaGreatDoorY21
namespace Go.Hp
open Go Go.RowKit Go.Slot
variable {P:Program} {Γ:List (Nat×List Cell)}
def vcb:SV->SV->Option (Value×Value)
 | .one (.dat (.raw a)),.one (.dat (.raw b))=>some (a,b)
 | _,_=>none
def rawS:SV->Option Value
 | .one (.dat (.raw a))=>some a
 | _=>none
theorem v71 {o:Oper} {σ:List SV} {η:List SB} {op:BinOp} {T U:TypeId} {x y:Operand} {d:Nat} (ho:o.op=.binOp op T x y U) (hdst:o.dst=some d) {p q v:Value} (hx:vcb (opdS Γ σ x) (opdS Γ σ y)=some (p,q)) (hab:abin op p q=some v) :
 wc6 Γ P o σ η (d::(orr x++orr y)) [] [(d,.one (.dat (.raw v)))] []:=by
 have hxy:opdS Γ σ x=.one (.dat (.raw p))/\opdS Γ σ y=.one (.dat (.raw q)):=by
  unfold vcb at hx;split at hx
  . rename_i a b h1 h2;cases hx;exact ⟨h1,h2⟩
  . cases hx
 refine wc6.pure hdst (fun E ρ σ' η' a w hag hah hI=>⟨v,?_,RdC.raw (vhf hab)⟩);have sx:=hI.opd x;have sy:=hI.opd y;rw [hag.opd (fun t ht=>by simp [ht]),hxy.1] at sx;rw [hag.opd (fun t ht=>by simp [ht]),hxy.2] at sy;have ex:a.eval x=p:=RdC.yn7 sx;have ey:a.eval y=q:=RdC.yn7 sy;simp [execOp,ho,ex,ey,vaw hab,yka hab]
theorem s_un {o:Oper} {σ:List SV} {η:List SB} {op:UnOp} {T:TypeId} {x:Operand} {d:Nat} (ho:o.op=.unOp op T x) (hdst:o.dst=some d) {p v:Value} (hx:rawS (opdS Γ σ x)=some p) (hab:aun op p=some v) :
 wc6 Γ P o σ η (d::orr x) [] [(d,.one (.dat (.raw v)))] []:=by
 have hxx:opdS Γ σ x=.one (.dat (.raw p)):=by
  unfold rawS at hx;split at hx
  . rename_i a h1;cases hx;exact h1
  . cases hx
 have hone:v.oneCell'=true:=by unfold aun at hab;split at hab<;>first | (cases hab;rfl) | cases hab
 refine wc6.pure hdst (fun E ρ σ' η' a w hag hah hI=>⟨v,?_,RdC.raw hone⟩);have sx:=hI.opd x;rw [hag.opd (fun t ht=>by simp [ht]),hxx] at sx;have ex:a.eval x=p:=RdC.yn7 sx;unfold aun at hab;split at hab
 . cases hab;simp [execOp,ho,ex,Op.unary,Op.intArith]
 . cases hab;simp [execOp,ho,ex,Op.unary]
 . cases hab
theorem wjs {o:Oper} {σ:List SV} {η:List SB} {T:TypeId} {x:Operand} {d:Nat} (ho:o.op=.call { callee:=.builtin .len,args:=#[x],argTypes:=#[T] }) (hdst:o.dst=some d) {ti:TI} (hti:mkTI P T=some ti) {c:Cell} {n:Nat}
 (hx:opdS Γ σ x=.one (.dat c)) (hok:y92 ti c=true) (hl:lenC c=some n):wc6 Γ P o σ η (d::orr x) [] [(d,.one (.dat (.raw (.int .i64 (n:Int)))))] []:=by
 refine wc6.pure hdst (fun E ρ σ' η' a w hag hah hI=>⟨_,?_,RdC.raw rfl⟩);have sx:=hI.opd x;rw [hag.opd (fun t ht=>by simp [ht]),hx] at sx;have hti':=zi0 hti;have hrd:RdT (MX E.Mo ρ η') w (fun _=>⟨Go.undef,0⟩) (a.eval x) c:=RdT.of sx
 have key:(Builtin.len_ #[T] o.type #[a.eval x]).run P w=.ok (.int .i64 n) w:=by
  rcases hrd.len hl with ⟨ad,cap,hv,hns⟩ | ⟨s,rfl,hv,rfl⟩
  . rw [hv]
    have:∃ e es eb ik,ti.sh=.slice e es eb ik:=by
     unfold y92 at hok;split at hok
     . exact absurd rfl (hns _)
     . split at hok
       . rename_i h;exact ⟨_,_,_,_,h⟩
       . cases hok
    obtain ⟨e,es,eb,ik,hsh⟩:=this;exact Slot.run_len_slice hti' hsh _ _ _ _ w
  . rw [hv]
    have hsh:ti.sh=.string:=by
     simp only [y92] at hok;split at hok
     . assumption
     . cases hok
    obtain ⟨dd,i,z,hd,hi,hz,_,_,_,_,_,hsh'⟩:=hti'.ex
    have:=v0x (hsh'.symm.trans hsh)
    subst this;simp [Builtin.len_,vl6 hd,goInt]
 rw [xgu ho,show (#[x]:Array Operand).map a.eval=#[a.eval x] from by simp]
 have:∀ cs,(builtin .len #[T] o.type cs #[a.eval x]).run P w=.ok (.value (.int .i64 n)) w:=fun cs=>by
  simp only [builtin,Sem.run_bind,key];rfl
 exact this _
section
variable (P:Program) (Γ:List (Nat×List Cell)) (lit fn:Bool) (σ:List SV) (η:List SB) (nb:Nat) (o:Oper)
def vjw (x:Operand):HO:=vO o (orr x) [] (some (opdS Γ σ x))
def yyq (c x y:Operand):HO:=match vni (opdS Γ σ c) (opdS Γ σ x) (opdS Γ σ y) with
 | some v=>vO o (orr c++orr x++orr y) [] (some v)
 | none=>oldO P σ nb o
def fBin (op:BinOp) (x y:Operand):HO:=match vcb (opdS Γ σ x) (opdS Γ σ y) with
 | some (p,q)=>match abin op p q with
  | some v=>vO o (orr x++orr y) [] (some (.one (.dat (.raw v))))
  | none=>opP P Γ σ η nb o
 | none=>opP P Γ σ η nb o
def fUn (op:UnOp) (x:Operand):HO:=match rawS (opdS Γ σ x) with
 | some p=>match aun op p with
  | some v=>vO o (orr x) [] (some (.one (.dat (.raw v))))
  | none=>opP P Γ σ η nb o
 | none=>opP P Γ σ η nb o
def v36 (T:TypeId) (x:Operand):HO:=yo7 P T fun ti=>match seeH η (opdS Γ σ x) with
 | some (rh,hs)=>vO o (orr x) rh (yva ti hs)
 | none=>.bad
def xdu (T:TypeId) (x y:Operand):HO:=match o.dst with
 | none=>yo7 P T fun ti=>match wrf (opdS Γ σ y) with
  | some us=>if us.length=ti.size then match w81 η ti.size (opdS Γ σ x) us with
   | some (b,z)=>.eff (orr x++orr y) [b] [] [(b,z)] none
   | none=>.bad
   else .bad
  | none=>.bad
 | some _=>.bad
def yna (S:TypeId) (x:Operand) (f:Nat):HO:=yo7 P S fun ti=>match ti.sh with
 | .struct fs=>match fs[f]? with
  | some (off,_,_)=>vO o (orr x) [] (zbo (opdS Γ σ x) off)
  | none=>.bad
 | _=>.bad
def vt8 (T:TypeId) (x y:Operand):HO:=yo7 P T fun ti=>match vge ti.sh (opdS Γ σ x) (opdS Γ σ y) with
 | some v=>vO o (orr x++orr y) [] (some v)
 | none=>oldO P σ nb o
def vjo (T:TypeId) (x:Operand) (f:Nat):HO:=yo7 P T fun ti=>match ti.sh with
 | .struct fs=>match fs[f]? with
  | some (off,_,ft)=>yo7 P ft fun tf=>vO o (orr x) [] (zv3 off tf (opdS Γ σ x))
  | none=>.bad
 | _=>.bad
def vlx (T:TypeId) (x y:Operand):HO:=yo7 P T fun ti=>match ti.sh with
 | .array n e es=>yo7 P e fun te=>match intS (opdS Γ σ y) with
  | some ix=>if (0<=ix/\ix<n)/\es=te.size then vO o (orr x++orr y) [] (zv3 (ix.toNat*es) te (opdS Γ σ x)) else .bad
  | none=>.bad
 | .string=>vO o (orr x++orr y) [] (xhf (opdS Γ σ x) (opdS Γ σ y))
 | _=>.bad
def fLen (x:Operand) (T:TypeId):HO:=match opdS Γ σ x,mkTI P T with
 | .one (.dat c),some ti=>match y92 ti c,lenC c with
  | true,some n=>vO o (orr x) [] (some (.one (.dat (.raw (.int .i64 (n:Int))))))
  | _,_=>opH P Γ lit fn σ η nb o
 | _,_=>opH P Γ lit fn σ η nb o
def xvd (c:Call):HO:=match c.callee with
 | .value x=>wx8 P Γ σ η o x c.args.toList
 | .builtin .len=>match c.args.toList,c.argTypes.toList with
  | [x],[T]=>fLen P Γ lit fn σ η nb o x T
  | _,_=>opH P Γ lit fn σ η nb o
 | .builtin _=>opH P Γ lit fn σ η nb o
 | _=>.bad
def vy8 (x:Operand) (n:Nat):HO:=vO o (orr x) [] (wit (opdS Γ σ x) n)
def fNil (x:Operand):HO:=if ptrH (opdS Γ σ x)=true then vO o (orr x) [] (some (opdS Γ σ x)) else .bad
def wvw (T:TypeId) (ps:Array (Nat×Operand)):HO:=yo7 P T fun ti=>if x8d ti=true/\ti.sh.agg=true then vO o (orrs ps.toList) [] ((yhe (placeOf ti.sh) (ti.zc.map .dat) (za6 Γ σ ps.toList)).map .agg) else .bad
def xgy (T:TypeId):HO:=yo7 P T fun ti=>nO o [] [] (.one (.ptr nb 0)) [] (.box (ti.zc.map .dat) (some T))
def fBox (T:TypeId) (x:Operand):HO:=match wrf (opdS Γ σ x) with
 | some hs=>nO o (orr x) [] (.one (.ptr nb 0)) [] (.box hs (some T))
 | none=>.bad
def opF:HO:=match o.op with
 | .move x=>vjw Γ σ o x
 | .assign x=>vjw Γ σ o x
 | .pick c x y=>yyq P Γ σ nb o c x y
 | .binOp op _ x y _=>fBin P Γ σ η nb o op x y
 | .unOp op _ x=>fUn P Γ σ η nb o op x
 | .load T x=>v36 P Γ σ η o T x
 | .store T x y=>xdu P Γ σ η o T x y
 | .fieldAddr S x f=>yna P Γ σ o S x f
 | .indexAddr T x y=>vt8 P Γ σ nb o T x y
 | .field T x f=>vjo P Γ σ o T x f
 | .index T x y=>vlx P Γ σ o T x y
 | .extract x n=>vy8 Γ σ o x n
 | .nilCheck x=>fNil Γ σ o x
 | .build T ps=>wvw P Γ σ o T ps
 | .alloc T=>xgy P nb o T
 | .box T x=>fBox Γ σ nb o T x
 | .call c=>xvd P Γ lit fn σ η nb o c
 | _=>opH P Γ lit fn σ η nb o
end
theorem zbq {lit fn:Bool} {σ:List SV} {η:List SB} {nb:Nat} {o:Oper}:opF P Γ lit fn σ η nb o=opH P Γ lit fn σ η nb o\/(∃ rd rh e h new,opF P Γ lit fn σ η nb o=.eff rd rh e h new/\Sound Γ P o σ η nb rd rh e h new):=by
 have hv:∀{rd:List Nat} {v:SV},(∀ d,o.dst=some d->wc6 Γ P o σ η (d::rd) [] [(d,v)] [])->vO o rd [] (some v)=.bad\/∃ rd' rh e h new,vO o rd [] (some v)=.eff rd' rh e h new/\Sound Γ P o σ η nb rd' rh e h new:=by
  intro rd v h;unfold vO
  cases hd:o.dst with
  | none=>exact .inl rfl
  | some d=>exact .inr ⟨_,_,_,_,_,rfl,h d hd⟩
 unfold opF
 split
 case h_4 op T x y U ho=>
  unfold fBin
  have e:opH P Γ lit fn σ η nb o=opP P Γ σ η nb o:=by unfold opH;rw [ho]
  split
  . rename_i p q hpq
    split
    . rename_i v hab
      cases hd:o.dst with
      | none=>
       left
       have:opP P Γ σ η nb o=.bad:=by
        unfold opP;rw [ho];simp only [vO,oldO,hd]
        repeat' split
        all_goals first | rfl | simp_all
       rw [e,this];unfold vO;rw [hd]
      | some d=>
       right
       refine ⟨_,_,_,_,_,by unfold vO;rw [hd],?_⟩;exact v71 ho hd hpq hab
    . exact .inl e.symm
  . exact .inl e.symm
 case h_5 op T x ho=>
  unfold fUn
  have e:opH P Γ lit fn σ η nb o=opP P Γ σ η nb o:=by unfold opH;rw [ho]
  split
  . rename_i p hp
    split
    . rename_i v hab
      cases hd:o.dst with
      | none=>
       left
       have:opP P Γ σ η nb o=.bad:=by
        unfold opP;rw [ho];simp only;unfold oldO;rw [hd]
       rw [e,this];unfold vO;rw [hd]
      | some d=>
       right
       refine ⟨_,_,_,_,_,by unfold vO;rw [hd],?_⟩;exact s_un ho hd hp hab
    . exact .inl e.symm
  . exact .inl e.symm
 case h_17 c ho=>
  unfold xvd
  split
  . rename_i x hc;left;unfold opH;rw [ho];simp only [hc]
  . rename_i hc
    split
    . rename_i x T ha ht;unfold fLen
      split
      . rename_i cc ti hx hti
        split
        . rename_i n hok hl
          have ho':o.op=.call { callee:=.builtin .len,args:=#[x],argTypes:=#[T] }:=by
           rw [ho];obtain ⟨cal,args,tys⟩:=c;simp only at hc ha ht;rw [hc,x34 ha,xz6 ht]
          cases hd:o.dst with
          | none=>
           left
           have:opH P Γ lit fn σ η nb o=.bad:=by
            unfold opH;rw [ho'];simp only [hx,yrn,oldO,hd]
           rw [this];unfold vO;rw [hd]
          | some d=>
           right
           refine ⟨_,_,_,_,_,by unfold vO;rw [hd],?_⟩;exact wjs ho' hd hti hx hok hl
        . exact .inl rfl
      . exact .inl rfl
    . exact .inl rfl
  . exact .inl rfl
  . rename_i h1 h2 h3
    left;unfold opH;rw [ho]
    cases hcc:c.callee with
    | value x=>exact absurd hcc (h1 x)
    | builtin b=>exact absurd hcc (h3 b)
    | _=>simp only [hcc]
 all_goals first
  | exact .inl rfl
  | (rename_i ho;left;unfold opH;rw [ho];simp only;unfold opP;rw [ho];rfl)
  | (rename_i ho;left;unfold opH;rw [ho];rfl)
theorem SRL.of {η:List SB} {ρ:Nat->Value} {M:Nat->Nat->Prop} {w:World}:∀{l:List AV} {r:List SV} {vs:List Value},yno l=some r->RdBL M w vs l->SRL η ρ M w vs r:=v0g
theorem wqg {lit fn:Bool} {σ:List SV} {η:List SB} {nb:Nat} {o:Oper} {f:FuncId} {l:List AV} {rd rh bs:List Nat} (h:opH P Γ lit fn σ η nb o=.callD f l rd rh bs) {sl:List SV} (hl:yno l=some sl) {η':List SB} {res:SV} (hc:zq1 Γ P f (appL (frzE η bs) η) sl η' res) :
 y7q Γ P o σ η (appL (yn1 o res) σ) η':=by
 obtain ⟨x,xs,ts,ho⟩:=v3f h (.inl ⟨_,_,_,_,_,rfl⟩);rw [zp1 ho] at h
 have ho':o.op=.call { callee:=.value x,args:=xs.toList.toArray,argTypes:=ts }:=by rw [ho]
 have hG:∀{f':FuncId} {caps:List SV} {rd' rh':List Nat},yzs Γ σ η x=some (f',caps,rd',rh')->wx8.callG Γ σ η o xs.toList f' caps rd' rh'=.callD f l rd rh bs->y7q Γ P o σ η (appL (yn1 o res) σ) η':=fun {f' caps rd' rh'} hcal hg=>by
  unfold wx8.callG at hg;split at hg
  . rename_i l' bs' ha
    cases hg;have harr:=zs9 ha;intro E ρ a w hI K Q hK;have hnt:=yy5 ha
    have hnt1:xod (wdj Γ σ xs.toList)=true:=by
     unfold xod at hnt ⊢;rw [List.all_append,Bool.and_eq_true] at hnt;exact hnt.1
    obtain ⟨cv,hcv,hcr⟩:=v78 hI hcal;have hsr:=(zmh hI xs.toList hnt1).append hcr;obtain ⟨hw1,_,hfz⟩:=Went.frz bs η hI.inv rfl harr (fun _=>.inl rfl);have hrb:=y0u hw1.inv ha hfz (hsr.mv hw1.mv);have hcalls:=hc.2 _ ρ w _ hw1.inv (SRL.of hl hrb);unfold Oper.wp;rw [v2k ho' hcv hc.1 w];show Calls P f _ w _
    have e1:xs.toList.toArray.map a.eval++cv.toArray=(xs.toList.map a.eval++cv).toArray:=by simp
    rw [e1];refine hcalls.mono ?_;rintro e w' ⟨v,ρ',rfl,hw,hv⟩;exact hK _ _ ρ' (((hI.go hw1).go hw).dst hv)
  . split at hg<;>cases hg
 unfold wx8 at h;split at h
 . split at h
   . split at h
     . unfold vO at h;repeat' split at h
       all_goals cases h
     . cases h
   . exact hG rfl h
 . rename_i t;split at h
   . split at h<;>cases h
   . split at h
     . rename_i f' caps rd' rh' hcal;exact hG hcal h
     . cases h
 . cases h
theorem SVR.refs {η:List SB} {ρ:Nat->Value} {M:Nat->Nat->Prop} {w:World} {v:Value} {x:SV} (h:SVR η ρ M w v x):∀ b∈w40 x,okB η b:=fun b hb=>by
 cases x with
 | tup l=>
  obtain ⟨vs,_,h⟩:=h;rw [Hp.we7,h.we7] at hb;exact h.refs b hb
 | one h'=>exact SVR0.refs (x:=.one h') h b hb
 | agg l=>exact SVR0.refs (x:=.agg l) h b hb
 | _=>cases hb
theorem RI.y37 {E:HEnv} {η:List SB} {ρ:Nat->Value} {σ:List SV} {a:Act} {w:World} (h:RI Γ E ρ σ (η++[.fresh]) a w):RI Γ E ρ σ η a w:=by
 have hget:∀(i:Nat) (x:SB),η[i]? = some x->(η++[SB.fresh])[i]? = some x:=fun i x hi=>by rw [List.getElem?_append_left (List.getElem?_eq_some_iff.1 hi).1];exact hi
 have hok:∀ b,okB (η++[.fresh]) b->okB η b:=fun b ⟨x,hx,hf⟩=>by
  rw [List.getElem?_append] at hx;split at hx
  . exact ⟨x,hx,hf⟩
  . rename_i hlt
    cases hn:b-η.length with
    | zero=>rw [hn] at hx;simp at hx;exact absurd hx.symm hf
    | succ n=>rw [hn] at hx;simp at hx
 have hM:∀ b o,MX E.Mo ρ η b o->MX E.Mo ρ (η++[.fresh]) b o:=by
  rintro b o (hm | ⟨i,x,hi,hx⟩)
  . exact .inl hm
  . exact .inr ⟨i,x,hget i x hi,hx⟩
 have hw:=h.went
 refine ⟨h.hd,h.hs,fun i x hi=>(h.slot i x hi).at hM (fun b hb=>⟨hok b ((h.slot i x hi).refs b hb),rfl⟩),fun b hb=>hok b (hw.ok b hb),hw.rho,hw.keep.trans (zpe.shrink w hM),hw.grow,
  ⟨hw.inv.bnd,fun i x hi=>(hw.inv.blk i x (hget i x hi)).at hM (fun b hb=>⟨hok b ((hw.inv.blk i x (hget i x hi)).refs b hb),rfl⟩),fun i j x y hi hj=>hw.inv.inj i j x y (hget i x hi) (hget j y hj),fun i x hi=>hw.inv.sep i x (hget i x hi),hw.inv.glob.keep (zpe.shrink w hM)⟩,
  hw.size,hw.os,hw.tape,hw.output,hw.frame,fun k ⟨i,x,hi,hx⟩=>hw.fresh k ⟨i,x,hget i x hi,hx⟩⟩
theorem StH.y37 {e:List SB} {σ:List SV} {η:List SB}:StH Γ e σ (η++[.fresh]) σ η:=fun _ ρ _ _ _ h=>⟨ρ,h.y37⟩
inductive GR where
 | plain
 | when (d:Nat) (c b:Bool)
 | skip (d:Nat)
 | bad
def wxq (ops:List Oper) (σ:List SV) (o:Oper):GR:=match o.guard with
 | none=>.plain
 | some (j,b)=>match (ops[j]?).bind (·.dst) with
  | some d=>match gtS σ d with
   | .one (.dat (.raw (.bool c)))=>.when d c b
   | .undef=>.skip d
   | _=>.bad
  | none=>.bad
theorem zic {ops:Array Oper} {σ:List SV} {o:Oper}:(wxq ops.toList σ o=.plain->o.guard=none)/\(∀ d c b,wxq ops.toList σ o=.when d c b->∃ j,o.guard=some (j,b)/\(ops[j]?).bind (·.dst)=some d/\gtS σ d=.one (.dat (.raw (.bool c))))/\
 (∀ d,wxq ops.toList σ o=.skip d->∃ j b,o.guard=some (j,b)/\(ops[j]?).bind (·.dst)=some d/\gtS σ d=.undef):=by
 unfold wxq
 cases hg:o.guard with
 | none=>exact ⟨fun _=>rfl,fun d c b h=>(by cases h),fun d h=>(by cases h)⟩
 | some p=>
  obtain ⟨j,b⟩:=p;simp only [Array.getElem?_toList]
  cases hd:(ops[j]?).bind (·.dst) with
  | none=>exact ⟨fun h=>(by cases h),fun d c b h=>(by cases h),fun d h=>(by cases h)⟩
  | some d=>
   simp only []
   split
   . rename_i c hc;refine ⟨fun h=>(by cases h),fun d' c' b' h=>?_,fun d h=>(by cases h)⟩
     cases h;exact ⟨j,rfl,hd,hc⟩
   . rename_i hc;refine ⟨fun h=>(by cases h),fun d' c' b' h=>(by cases h),fun d' h=>?_⟩
     cases h;exact ⟨j,b,rfl,hd,hc⟩
   . exact ⟨fun h=>(by cases h),fun d c b h=>(by cases h),fun d h=>(by cases h)⟩
section
variable {β:Type}
def frcL {α:Type}:List α->(List α->β)->β
 | [],k=>k []
 | x::l,k=>frcL l fun l=>k (x::l)
def frcN:Nat->(Nat->β)->β
 | 0,k=>k 0
 | n+1,k=>k (n+1)
def frcI:Int->(Int->β)->β
 | .ofNat n,k=>frcN n fun n=>k (.ofNat n)
 | .negSucc n,k=>frcN n fun n=>k (.negSucc n)
def wxk:ByteArray->(ByteArray->β)->β
 | ⟨⟨l⟩⟩,k=>frcL l fun l=>k ⟨⟨l⟩⟩
def frcV:Value->(Value->β)->β
 | .bool true,k=>k (.bool true)
 | .bool false,k=>k (.bool false)
 | .int kd n,k=>frcI n fun n=>k (.int kd n)
 | .string s,k=>wxk s fun s=>k (.string s)
 | .slice a n c,k=>k (.slice a n c)
 | .pointer a,k=>k (.pointer a)
 | v,k=>k v
def wow:List Int->(List Int->β)->β
 | [],k=>k []
 | x::l,k=>frcI x fun x=>wow l fun l=>k (x::l)
def frcC:Cell->(Cell->β)->β
 | .raw v,k=>frcV v fun v=>k (.raw v)
 | .ints kd l,k=>wow l fun l=>k (.ints kd l)
 | .sl n l,k=>frcL l fun l=>k (.sl n l)
 | c,k=>k c
def frcH:HC->(HC->β)->β
 | .dat c,k=>frcC c fun c=>k (.dat c)
 | .ptr b o,k=>frcN o fun o=>k (.ptr b o)
 | .sl b es lo n,k=>frcN lo fun lo=>frcN n fun n=>k (.sl b es lo n)
 | h,k=>k h
def wfo:List HC->(List HC->β)->β
 | [],k=>k []
 | x::l,k=>frcH x fun x=>wfo l fun l=>k (x::l)
def frcS:SV->(SV->β)->β
 | .one h,k=>frcH h fun h=>k (.one h)
 | .agg l,k=>wfo l fun l=>k (.agg l)
 | .tup l,k=>frcL l fun l=>k (.tup l)
 | .undef,k=>k .undef
 | x,k=>k x
def vjg:List SV->(List SV->β)->β
 | [],k=>k []
 | x::l,k=>frcS x fun x=>vjg l fun l=>k (x::l)
def frcE:List (Nat×SV)->(List (Nat×SV)->β)->β
 | [],k=>k []
 | (d,x)::l,k=>frcS x fun x=>frcE l fun l=>k ((d,x)::l)
def frcB:SB->(SB->β)->β
 | .box l T,k=>wfo l fun l=>k (.box l T)
 | .arr c n T,k=>frcC c fun c=>frcN n fun n=>k (.arr c n T)
 | .map es,k=>frcL es fun es=>k (.map es)
 | b,k=>k b
def zq3:List (Nat×SB)->(List (Nat×SB)->β)->β
 | [],k=>k []
 | (d,x)::l,k=>frcB x fun x=>zq3 l fun l=>k ((d,x)::l)
theorem ysf {α:Type}:∀(l:List α) (k:List α->β),frcL l k=k l
 | [],_=>rfl
 | _::l,_=>ysf l _
theorem xeb (n:Nat) (k:Nat->β):frcN n k=k n:=by cases n<;>rfl
theorem wg8 (n:Int) (k:Int->β):frcI n k=k n:=by cases n<;>exact xeb _ _
theorem wfg (s:ByteArray) (k:ByteArray->β):wxk s k=k s:=by obtain ⟨⟨l⟩⟩:=s;exact ysf _ _
theorem zeq (v:Value) (k:Value->β):frcV v k=k v:=by
 cases v with
 | bool b=>cases b<;>rfl
 | int kd n=>exact wg8 _ _
 | string s=>show wxk s (fun s=>k (.string s))=_;exact wfg _ _
 | _=>rfl
theorem vgm:∀(l:List Int) (k:List Int->β),wow l k=k l
 | [],_=>rfl
 | _::l,_=>(wg8 _ _).trans (vgm l _)
theorem x5c (c:Cell) (k:Cell->β):frcC c k=k c:=by
 cases c with
 | raw v=>exact zeq _ _
 | ints kd l=>exact vgm _ _
 | sl n l=>exact ysf _ _
 | _=>rfl
theorem xh9 (h:HC) (k:HC->β):frcH h k=k h:=by
 cases h with
 | dat c=>exact x5c _ _
 | ptr b o=>exact xeb _ _
 | sl b es lo n=>exact (xeb _ _).trans (xeb _ _)
 | _=>rfl
theorem zb2:∀(l:List HC) (k:List HC->β),wfo l k=k l
 | [],_=>rfl
 | _::l,_=>(xh9 _ _).trans (zb2 l _)
theorem xon (x:SV) (k:SV->β):frcS x k=k x:=by
 cases x with
 | one h=>exact xh9 _ _
 | agg l=>exact zb2 _ _
 | tup l=>exact ysf _ _
 | _=>rfl
theorem w7h:∀(l:List SV) (k:List SV->β),vjg l k=k l
 | [],_=>rfl
 | _::l,_=>(xon _ _).trans (w7h l _)
theorem vik:∀(l:List (Nat×SV)) (k:List (Nat×SV)->β),frcE l k=k l
 | [],_=>rfl
 | (_,_)::l,_=>(xon _ _).trans (vik l _)
theorem v2e (x:SB) (k:SB->β):frcB x k=k x:=by
 cases x with
 | box l T=>exact zb2 _ _
 | arr c n T=>exact (x5c _ _).trans (xeb _ _)
 | map es=>exact ysf _ _
 | _=>rfl
theorem zds:∀(l:List (Nat×SB)) (k:List (Nat×SB)->β),zq3 l k=k l
 | [],_=>rfl
 | (_,_)::l,_=>(v2e _ _).trans (zds l _)
end
def zh2 (ops:List Oper):Option Nat->Bool
 | none=>false
 | some d=>ops.any fun o=>match o.op with
  | .call c=>match c.callee with
   | .builtin .append=>match c.args.toList with
    | [_,.tmp t]=>t==d
    | _=>false
   | _=>false
  | _=>false
section
variable (cD:FuncId->List AV->Option AV) (cH:FuncId->List SB->List SV->Option (List SB×SV×List Nat))
def evDo (o:Oper) (σ:List SV) (η:List SB):HO->Option (List SV×List SB×List Nat)
 | .eff _ _ e h none=>frcE e fun e=>zq3 h fun h=>some (appL e σ,appL h η,h.map (·.1))
 | .eff _ _ e h (some x)=>frcE e fun e=>zq3 h fun h=>frcB x fun x=>some (appL e σ,appL h η++[x],h.map (·.1))
 | .callD f l _ _ bs=>match cD f l with
  | some res=>match resS η.length res with
   | some (y,none)=>frcS y fun y=>some (appL (yn1 o y) σ,appL (frzE η bs) η,bs)
   | some (y,some x)=>frcS y fun y=>frcB x fun x=>some (appL (yn1 o y) σ,appL (frzE η bs) η++[x],bs)
   | none=>none
  | none=>match yno l with
   | some sl=>match cH f (appL (frzE η bs) η) sl with
    | some (η',res,ch)=>frcS res fun res=>frcL η' fun η'=>some (appL (yn1 o res) σ,η',bs++ch)
    | none=>none
   | none=>none
 | .callH f l _=>match cH f η l with
  | some (η',res,ch)=>frcS res fun res=>frcL η' fun η'=>some (appL (yn1 o res) σ,η',ch)
  | none=>none
 | .look r z ok _ _=>match o.dst with
  | some _=>frcS (w2w ok r z) fun y=>some (appL (yn1 o y) σ,η,[])
  | none=>none
 | _=>none
def evGd (P:Program) (Γ:List (Nat×List Cell)) (ops:List Oper) (o:Oper) (σ:List SV) (η:List SB):GR->Option (List SV×List SB×List Nat)
 | .plain=>evDo cD cH o σ η (opF P Γ (zh2 ops o.dst) false σ η η.length o)
 | .when _ c b=>if c=b then evDo cD cH o σ η (opF P Γ (zh2 ops o.dst) false σ η η.length o) else some (appL (yn1 o .undef) σ,η,[])
 | .skip _=>some (appL (yn1 o .undef) σ,η,[])
 | .bad=>none
def z91 (P:Program) (Γ:List (Nat×List Cell)) (ops:List Oper):List Oper->List SV->List SB->List Nat->Option (List SV×List SB×List Nat)
 | [],σ,η,wl=>some (σ,η,wl)
 | o::r,σ,η,wl=>match evGd cD cH P Γ ops o σ η (wxq ops σ o) with
  | some (σ',η',ws)=>frcL σ' fun σ'=>frcL η' fun η'=>z91 P Γ ops r σ' η' (ws++wl)
  | none=>none
def opRd:Op->List Nat
 | .move x=>orr x
 | .assign x=>orr x
 | .pick c x y=>orr c++orr x++orr y
 | .binOp _ _ x y _=>orr x++orr y
 | .unOp _ _ x=>orr x
 | .load _ x=>orr x
 | .fieldAddr _ x _=>orr x
 | .indexAddr _ x y=>orr x++orr y
 | .field _ x _=>orr x
 | .index _ x y=>orr x++orr y
 | .extract x _=>orr x
 | .nilCheck x=>orr x
 | .build _ ps=>orrs ps.toList
 | .slice _ x lo hi _=>orr x++orrO lo++orrO hi
 | .convert _ _ x=>orr x
 | .lookup _ x y _=>orr x++orr y
 | .call c=>(match c.callee with
  | .value (.tmp t)=>[t]
  | _=>[])++orrL c.args.toList
 | _=>[]
def sRd (o:Oper):List Nat:=z0b o++opRd o.op
def gRd (ops:List Oper) (o:Oper):List Nat:=match o.guard with
 | none=>[]
 | some (j,_)=>match (ops[j]?).bind (·.dst) with
  | some d=>[d]
  | none=>[]
def sHR (ops:List Oper) (o:Oper):HR:=⟨gRd ops o++sRd o,[],yn1 o .any,[]⟩
def inRd (l r:List Nat):Bool:=l.all fun x=>r.contains x
def v0r (o:Oper) (σ:List SV) (η:List SB):HO->Option (List SV×List SB×List Nat)
 | .eff rd _ [(d,x)] [] none=>if inRd rd (sRd o)=true/\o.dst=some d then frcS x fun x=>some (σ.set d x,η,[]) else none
 | .callD f l rd _ []=>match cD f l,o.dst with
  | some res,some d=>if inRd rd (sRd o)=true then match resS η.length res with
   | some (y,none)=>frcS y fun y=>some (σ.set d y,η,[])
   | _=>none
   else none
  | _,_=>none
 | _=>none
def zh6 (P:Program) (Γ:List (Nat×List Cell)) (ops:List Oper) (o:Oper) (σ:List SV) (η:List SB):GR->Option (List SV×List SB×List Nat)
 | .plain=>v0r cD o σ η (opF P Γ (zh2 ops o.dst) false σ η η.length o)
 | .when _ c b=>if c=b then v0r cD o σ η (opF P Γ (zh2 ops o.dst) false σ η η.length o) else some (appL (yn1 o .undef) σ,η,[])
 | .skip _=>some (appL (yn1 o .undef) σ,η,[])
 | .bad=>none
def y0s (P:Program) (Γ:List (Nat×List Cell)) (ops:List Oper):List Oper->List SV->List SB->List Nat->Option (List SV×List SB×List Nat)
 | [],σ,η,wl=>some (σ,η,wl)
 | o::r,σ,η,wl=>match zh6 cD P Γ ops o σ η (wxq ops σ o) with
  | some (σ',η',ws)=>y0s P Γ ops r σ' η' (ws++wl)
  | none=>none
def xmm (o:Oper):Bool:=match o.op with
 | .alloc _=>false
 | .box _ _=>false
 | .store _ _ _=>false
 | .buildSlice _ _ _=>false
 | .makeMap _ _=>false
 | .makeFunc _ _ _=>false
 | .mapUpdate _ _ _ _=>false
 | .call c=>match c.callee with
  | .value _=>true
  | .builtin b=>match b with
   | .len=>true
   | _=>false
  | _=>false
 | _=>true
def mkM:List Nat->Nat
 | []=>0
 | i::l=>Nat.lor (Nat.pow 2 i) (mkM l)
def getM:List Nat->Nat->Nat
 | [],_=>0
 | x::_,0=>x
 | _::l,i+1=>getM l i
def wzx (acc:List Nat):List Nat->Nat
 | []=>0
 | d::l=>Nat.lor (Nat.lor (Nat.pow 2 d) (getM acc d)) (wzx acc l)
def befM:List Oper->List Nat->List Nat
 | [],acc=>acc
 | o::r,acc=>frcN (wzx acc (direct o)) fun m=>befM r (acc++[m])
def apM:Nat->Nat->Nat->Nat->List (Nat×Nat)->Bool
 | _,_,_,_,[]=>true
 | b,r,w,i,(r',w')::l=>(Nat.beq (Nat.land (Nat.shiftRight b i) 1) 1||(Nat.beq (Nat.land w' r) 0&&Nat.beq (Nat.land w r') 0))&&apM b r w (i+1) l
def indM:List Nat->List (Nat×Nat)->List (Nat×Nat)->Bool
 | [],_,[]=>true
 | b::bs,before,(r,w)::l=>apM b r w 0 before&&indM bs (before++[(r,w)]) l
 | _,_,_=>false
def frcM:List HR->(List (Nat×Nat)->Bool)->Bool
 | [],k=>k []
 | s::l,k=>frcN (mkM s.rd) fun r=>frcN (mkM s.ws) fun w=>frcM l fun l=>k ((r,w)::l)
def y99 (l:List Oper) (recs:List HR):Bool:=
 vnu 0 l&&(recs.all fun s=>(s.ws.all fun x=>s.rd.contains x)&&isNil s.heff)&&frcM recs fun rs=>indM (befM l []) [] rs
def stOk (ops:List Oper):Bool:=ops.all xmm&&y99 ops (ops.map (sHR ops))
def wkx (P:Program) (Γ:List (Nat×List Cell)) (ops:List Oper) (σ:List SV) (η:List SB) (wl:List Nat):Option (List SV×List SB×List Nat):=match stOk ops with
 | true=>y0s cD P Γ ops ops σ η wl
 | false=>none
def yt8 (o:Oper) (nb:Nat) (η:List SB):HO->Option HR
 | .eff rd rh e h none=>some ⟨rd,rh,e,h⟩
 | .eff rd rh e h (some x)=>if z1s η nb=true then some ⟨rd,nb::rh,e,h++[(nb,x)]⟩ else none
 | .callD f l rd rh bs=>match cD f l with
  | some res=>match resS nb res with
   | some (y,none)=>some ⟨rd,rh++bs,yn1 o y,frzE η bs⟩
   | some (y,some x)=>if z1s η nb=true then some ⟨rd,nb::(rh++bs),yn1 o y,frzE η bs++[(nb,x)]⟩ else none
   | none=>none
  | none=>none
 | .callH f l rd=>match cH f η l with
  | some (η',res,ch)=>if η'.length=η.length then some ⟨rd,List.range η.length,yn1 o res,ch.map fun i=>(i,gB η' i)⟩ else none
  | none=>none
 | .look r z ok rd rh=>match o.dst with
  | some _=>some ⟨rd,rh,yn1 o (w2w ok r z),[]⟩
  | none=>none
 | _=>none
def onD (d:Nat) (s:HR):HR:=⟨d::s.rd,s.rh,s.eff,s.heff⟩
def zsc (P:Program) (Γ:List (Nat×List Cell)) (ops:List Oper) (nb:Nat) (o:Oper) (σ:List SV) (η:List SB):GR->Option HR
 | .plain=>yt8 cD cH o nb η (opF P Γ (zh2 ops o.dst) false σ η nb o)
 | .when d c b=>if c=b then (yt8 cD cH o nb η (opF P Γ (zh2 ops o.dst) false σ η nb o)).map (onD d) else some ⟨d::z0b o,[],yn1 o .undef,[]⟩
 | .skip d=>some ⟨d::z0b o,[],yn1 o .undef,[]⟩
 | .bad=>none
def vxq (P:Program) (Γ:List (Nat×List Cell)) (ops:List Oper) (nb:Nat):List Oper->List HR->List SV->List SB->List Nat->Option (List SV×List SB×List Nat)
 | [],acc,σ,η,wl=>if waq ops acc=true then some (σ,η,wl) else none
 | o::r,acc,σ,η,wl=>match zsc cD cH P Γ ops nb o σ η (wxq ops σ o) with
  | some s=>frcE s.eff fun e=>zq3 s.heff fun h=>frcL (appL e σ) fun σ=>frcL (appL h η) fun η=>vxq P Γ ops nb r (acc++[s]) σ η (s.heff.map (·.1)++wl)
  | none=>none
def zr3 (n:Nat) (η:List SB):List SB:=match η.drop n with
 | [.fresh]=>η.take n
 | _=>η
def zu4 (body:List SV->List SB->List Nat->Option (Exit×List SV×List SB×List Nat)):Nat->List SV->List SB->List Nat->Option (Exit×List SV×List SB×List Nat)
 | 0,_,_,_=>none
 | n+1,σ,η,wl=>match body σ η wl with
  | some (.normal,σ',η',wl')=>zu4 body n σ' η' wl'
  | r=>r
def zlk (P:Program) (Γ:List (Nat×List Cell)) (N:Nat):Code->List SV->List SB->List Nat->Option (Exit×List SV×List SB×List Nat)
 | .skip,σ,η,wl=>some (.normal,σ,η,wl)
 | .region _ ops false,σ,η,wl=>match z91 cD cH P Γ ops.toList ops.toList σ η wl with
  | some (s,h,wl)=>some (.normal,s,h,wl)
  | none=>none
 | .region _ ops true,σ,η,wl=>if P.follows .mixedOrders=true then (match wkx cD P Γ ops.toList σ η wl with
  | some (s,h,wl)=>some (.normal,s,h,wl)
  | none=>match vxq cD cH P Γ ops.toList η.length ops.toList [] σ (η++[.fresh]) wl with
   | some (s,h,wl)=>some (.normal,s,zr3 η.length h,wl)
   | none=>none) else none
 | .seq x y,σ,η,wl=>match zlk P Γ N x σ η wl with
  | some (.normal,s,h,wl)=>zlk P Γ N y s h wl
  | r=>r
 | .cond c x y,σ,η,wl=>match opdS Γ σ c with
  | .one (.dat (.raw (.bool true)))=>zlk P Γ N x σ η wl
  | .one (.dat (.raw (.bool false)))=>zlk P Γ N y σ η wl
  | _=>none
 | .block id x,σ,η,wl=>match zlk P Γ N x σ η wl with
  | some (.exit j,s,h,wl)=>if j=id then some (.normal,s,h,wl) else some (.exit j,s,h,wl)
  | r=>r
 | .loop x,σ,η,wl=>zu4 (zlk P Γ N x) N σ η wl
 | .exit id,σ,η,wl=>some (.exit id,σ,η,wl)
 | .ret,σ,η,wl=>some (.ret,σ,η,wl)
 | .label _,σ,η,wl=>some (.normal,σ,η,wl)
 | .scope x,σ,η,wl=>match zlk P Γ N x σ η wl with
  | some (.goto _,_,_,_)=>none
  | r=>r
 | _,_,_,_=>none
end
def z5u (cD:FuncId->List AV->Option AV) (cH:FuncId->List SB->List SV->Option (List SB×SV×List Nat)) (P:Program) (Γ:List (Nat×List Cell)) (N:Nat) (f:FuncId) (l:List SV) (η:List SB):Option (SV×List SB×List Nat):=match P.funcs[f]? with
 | some fn=>match fn.body,fn.name == "runtime.NumGoroutine" with
  | some c,false=>match vjg (l++List.replicate (fn.ntmps-l.length) .undef) fun σ=>zlk cD cH P Γ N c σ η [] with
   | some (.ret,σ,h,wl)=>(xei P σ h fn.results.toList).map fun x=>(x,h,wl)
   | some (.normal,σ,h,wl)=>(xei P σ h fn.results.toList).map fun x=>(x,h,wl)
   | _=>none
  | _,_=>none
 | none=>none
def ltB (m:Nat) (l:List Nat):Bool:=l.all fun b=>decide (b<m)
def vzt (n:Nat) (x:SV) (η:List SB):List SB×SV:=match x75 η x with
 | some (av,bs)=>match bs.all (fun b=>decide (n<=b)),resS 0 av with
  | true,some (y,none)=>(appL (frzE η bs) η,y)
  | _,_=>(η,x)
 | none=>(η,x)
def xgx (n:Nat) (r:List SB×SV):List SB×SV:=if (ltB n (w40 r.2)&&(r.1.take n).all (fun b=>ltB n (vxd b)))=true then (r.1.take n,r.2) else r
mutual
def evD (P : Program) (Γ : List (Nat × List Cell)) (known : FuncId → List AV → Option AV) (N : Nat) : Nat → FuncId → List AV → Option AV
 | 0,_,_=>none
 | n + 1, f, l => match known f l with
  | some r=>some r
  | none=>match yno l with
   | some sl=>match z5u (evD P Γ known N n) (evH P Γ known N n) P Γ N f sl [] with
    | some (x,η,_)=>(x75 η x).map (·.1)
    | none=>none
   | none=>none
def evH (P:Program) (Γ:List (Nat×List Cell)) (known:FuncId->List AV->Option AV) (N:Nat):Nat->FuncId->List SB->List SV->Option (List SB×SV×List Nat)
 | 0,_,_,_=>none
 | n+1,f,η,l=>match z5u (evD P Γ known N n) (evH P Γ known N n) P Γ N f l η with
  | some (x,h,wl)=>match xgx η.length (vzt η.length x h) with
   | (h',y)=>some (h',y,wl.filter (fun i=>decide (i<η.length)))
  | none=>none
end
end Go.Hp
