/- The proof, part Y23: Hk, Hs. -/
import Derived.Test.YtjhbbadljohadaaGreatDoorY20
import Derived.Test.YtjhbbadljohadaaGreatDoorY22
namespace Go.Hp
open Go Go.RowKit Go.Slot
variable {P:Program} {Γ:List (Nat×List Cell)}
def zuy:SV->SV->Option (Value×Value)
 | .one (.dat (.raw a)),.one (.dat (.raw b))=>some (a,b)
 | _,_=>none
def rawS:SV->Option Value
 | .one (.dat (.raw a))=>some a
 | _=>none
theorem yos {o:Oper} {σ:List SV} {η:List SB} {op:BinOp} {T U:TypeId} {x y:Operand} {d:Nat} (ho:o.op=.binOp op T x y U) (hdst:o.dst=some d) {p q v:Value} (hx:zuy (opdS Γ σ x) (opdS Γ σ y)=some (p,q)) (hab:abin op p q=some v) :
 zaf Γ P o σ η (d::(orr x++orr y)) [] [(d,.one (.dat (.raw v)))] []:=by
 have hxy:opdS Γ σ x=.one (.dat (.raw p))/\opdS Γ σ y=.one (.dat (.raw q)):=by
  unfold zuy at hx
  split at hx
  · rename_i a b h1 h2;cases hx;exact ⟨h1,h2⟩
  · cases hx
 refine zaf.pure hdst (fun E ρ σ' η' a w hag hah hI=>⟨v,?_,RdC.raw (zym hab)⟩)
 have sx:=hI.opd x
 have sy:=hI.opd y
 rw [hag.opd (fun t ht=>by simp [ht]),hxy.1] at sx
 rw [hag.opd (fun t ht=>by simp [ht]),hxy.2] at sy
 have ex:a.eval x=p:=RdC.zak sx
 have ey:a.eval y=q:=RdC.zak sy
 simp [execOp,ho,ex,ey,zoh hab,zzj hab]
theorem s_un {o:Oper} {σ:List SV} {η:List SB} {op:UnOp} {T:TypeId} {x:Operand} {d:Nat} (ho:o.op=.unOp op T x) (hdst:o.dst=some d) {p v:Value} (hx:rawS (opdS Γ σ x)=some p) (hab:aun op p=some v) :
 zaf Γ P o σ η (d::orr x) [] [(d,.one (.dat (.raw v)))] []:=by
 have hxx:opdS Γ σ x=.one (.dat (.raw p)):=by
  unfold rawS at hx
  split at hx
  · rename_i a h1;cases hx;exact h1
  · cases hx
 have hone:v.oneCell'=true:=by unfold aun at hab;split at hab<;>first | (cases hab;rfl) | cases hab
 refine zaf.pure hdst (fun E ρ σ' η' a w hag hah hI=>⟨v,?_,RdC.raw hone⟩)
 have sx:=hI.opd x
 rw [hag.opd (fun t ht=>by simp [ht]),hxx] at sx
 have ex:a.eval x=p:=RdC.zak sx
 unfold aun at hab
 split at hab
 · cases hab;simp [execOp,ho,ex,Op.unary,Op.intArith]
 · cases hab;simp [execOp,ho,ex,Op.unary]
 · cases hab
theorem yml {o:Oper} {σ:List SV} {η:List SB} {T:TypeId} {x:Operand} {d:Nat} (ho:o.op=.call { callee:=.builtin .len,args:=#[x],argTypes:=#[T] }) (hdst:o.dst=some d) {ti:TI} (hti:mkTI P T=some ti) {c:Cell} {n:Nat}
 (hx:opdS Γ σ x=.one (.dat c)) (hok:zsr ti c=true) (hl:lenC c=some n):zaf Γ P o σ η (d::orr x) [] [(d,.one (.dat (.raw (.int .i64 (n:Int)))))] []:=by
 refine zaf.pure hdst (fun E ρ σ' η' a w hag hah hI=>⟨_,?_,RdC.raw rfl⟩)
 have sx:=hI.opd x
 rw [hag.opd (fun t ht=>by simp [ht]),hx] at sx
 have hti':=zai hti
 have hrd:RdT (MX E.Mo ρ η') w (fun _=>⟨Go.undef,0⟩) (a.eval x) c:=RdT.of sx
 have key:(Builtin.len_ #[T] o.type #[a.eval x]).run P w=.ok (.int .i64 n) w:=by
  rcases hrd.len hl with ⟨ad,cap,hv,hns⟩ | ⟨s,rfl,hv,rfl⟩
  · rw [hv]
    have:∃ e es eb ik,ti.sh=.slice e es eb ik:=by
     unfold zsr at hok
     split at hok
     · exact absurd rfl (hns _)
     · split at hok
       · rename_i h;exact ⟨_,_,_,_,h⟩
       · cases hok
    obtain ⟨e,es,eb,ik,hsh⟩:=this
    exact Slot.run_len_slice hti' hsh _ _ _ _ w
  · rw [hv]
    have hsh:ti.sh=.string:=by
     simp only [zsr] at hok
     split at hok
     · assumption
     · cases hok
    obtain ⟨dd,i,z,hd,hi,hz,_,_,_,_,_,hsh'⟩:=hti'.ex
    have:=zfs (hsh'.symm.trans hsh)
    subst this
    simp [Builtin.len_,za4 hd,goInt]
 rw [zj8 ho,show (#[x]:Array Operand).map a.eval=#[a.eval x] from by simp]
 have:∀ cs,(builtin .len #[T] o.type cs #[a.eval x]).run P w=.ok (.value (.int .i64 n)) w:=fun cs=>by
  simp only [builtin,Sem.run_bind,key]
  rfl
 exact this _
section
variable (P:Program) (Γ:List (Nat×List Cell)) (lit fn:Bool) (σ:List SV) (η:List SB) (nb:Nat) (o:Oper)
def z2y (x:Operand):HO:=vO o (orr x) [] (some (opdS Γ σ x))
def z29 (c x y:Operand):HO:=match zvw (opdS Γ σ c) (opdS Γ σ x) (opdS Γ σ y) with
 | some v=>vO o (orr c++orr x++orr y) [] (some v)
 | none=>oldO P σ nb o
def fBin (op:BinOp) (x y:Operand):HO:=match zuy (opdS Γ σ x) (opdS Γ σ y) with
 | some (p,q)=>match abin op p q with
  | some v=>vO o (orr x++orr y) [] (some (.one (.dat (.raw v))))
  | none=>opP P Γ σ η nb o
 | none=>opP P Γ σ η nb o
def fUn (op:UnOp) (x:Operand):HO:=match rawS (opdS Γ σ x) with
 | some p=>match aun op p with
  | some v=>vO o (orr x) [] (some (.one (.dat (.raw v))))
  | none=>opP P Γ σ η nb o
 | none=>opP P Γ σ η nb o
def yco (T:TypeId) (x:Operand):HO:=zc0 P T fun ti=>match seeH η (opdS Γ σ x) with
 | some (rh,hs)=>vO o (orr x) rh (zfq ti hs)
 | none=>.bad
def z7j (T:TypeId) (x y:Operand):HO:=match o.dst with
 | none=>zc0 P T fun ti=>match zjk (opdS Γ σ y) with
  | some us=>if us.length=ti.size then match zn0 η ti.size (opdS Γ σ x) us with
   | some (b,z)=>.eff (orr x++orr y) [b] [] [(b,z)] none
   | none=>.bad
   else .bad
  | none=>.bad
 | some _=>.bad
def zj0 (S:TypeId) (x:Operand) (f:Nat):HO:=zc0 P S fun ti=>match ti.sh with
 | .struct fs=>match fs[f]? with
  | some (off,_,_)=>vO o (orr x) [] (zd6 (opdS Γ σ x) off)
  | none=>.bad
 | _=>.bad
def zgj (T:TypeId) (x y:Operand):HO:=zc0 P T fun ti=>match zd4 ti.sh (opdS Γ σ x) (opdS Γ σ y) with
 | some v=>vO o (orr x++orr y) [] (some v)
 | none=>oldO P σ nb o
def zui (T:TypeId) (x:Operand) (f:Nat):HO:=zc0 P T fun ti=>match ti.sh with
 | .struct fs=>match fs[f]? with
  | some (off,_,ft)=>zc0 P ft fun tf=>vO o (orr x) [] (zkk off tf (opdS Γ σ x))
  | none=>.bad
 | _=>.bad
def zp1 (T:TypeId) (x y:Operand):HO:=zc0 P T fun ti=>match ti.sh with
 | .array n e es=>zc0 P e fun te=>match intS (opdS Γ σ y) with
  | some ix=>if (0<=ix/\ix<n)/\es=te.size then vO o (orr x++orr y) [] (zkk (ix.toNat*es) te (opdS Γ σ x)) else .bad
  | none=>.bad
 | .string=>vO o (orr x++orr y) [] (z15 (opdS Γ σ x) (opdS Γ σ y))
 | _=>.bad
def fLen (x:Operand) (T:TypeId):HO:=match opdS Γ σ x,mkTI P T with
 | .one (.dat c),some ti=>match zsr ti c,lenC c with
  | true,some n=>vO o (orr x) [] (some (.one (.dat (.raw (.int .i64 (n:Int))))))
  | _,_=>opH P Γ lit fn σ η nb o
 | _,_=>opH P Γ lit fn σ η nb o
def z95 (c:Call):HO:=match c.callee with
 | .value x=>zen P Γ σ η o x c.args.toList
 | .builtin .len=>match c.args.toList,c.argTypes.toList with
  | [x],[T]=>fLen P Γ lit fn σ η nb o x T
  | _,_=>opH P Γ lit fn σ η nb o
 | .builtin _=>opH P Γ lit fn σ η nb o
 | _=>.bad
def znp (x:Operand) (n:Nat):HO:=vO o (orr x) [] (zg1 (opdS Γ σ x) n)
def fNil (x:Operand):HO:=if ptrH (opdS Γ σ x)=true then vO o (orr x) [] (some (opdS Γ σ x)) else .bad
def z5b (T:TypeId) (ps:Array (Nat×Operand)):HO:=zc0 P T fun ti=>if zxs ti=true/\ti.sh.agg=true then vO o (orrs ps.toList) [] ((zhx (placeOf ti.sh) (ti.zc.map .dat) (zg4 Γ σ ps.toList)).map .agg) else .bad
def z3w (T:TypeId):HO:=zc0 P T fun ti=>nO o [] [] (.one (.ptr nb 0)) [] (.box (ti.zc.map .dat) (some T))
def fBox (T:TypeId) (x:Operand):HO:=match zjk (opdS Γ σ x) with
 | some hs=>nO o (orr x) [] (.one (.ptr nb 0)) [] (.box hs (some T))
 | none=>.bad
def opF:HO:=match o.op with
 | .move x=>z2y Γ σ o x
 | .assign x=>z2y Γ σ o x
 | .pick c x y=>z29 P Γ σ nb o c x y
 | .binOp op _ x y _=>fBin P Γ σ η nb o op x y
 | .unOp op _ x=>fUn P Γ σ η nb o op x
 | .load T x=>yco P Γ σ η o T x
 | .store T x y=>z7j P Γ σ η o T x y
 | .fieldAddr S x f=>zj0 P Γ σ o S x f
 | .indexAddr T x y=>zgj P Γ σ nb o T x y
 | .field T x f=>zui P Γ σ o T x f
 | .index T x y=>zp1 P Γ σ o T x y
 | .extract x n=>znp Γ σ o x n
 | .nilCheck x=>fNil Γ σ o x
 | .build T ps=>z5b P Γ σ o T ps
 | .alloc T=>z3w P nb o T
 | .box T x=>fBox Γ σ nb o T x
 | .call c=>z95 P Γ lit fn σ η nb o c
 | _=>opH P Γ lit fn σ η nb o
end
theorem ydv {lit fn:Bool} {σ:List SV} {η:List SB} {nb:Nat} {o:Oper}:opF P Γ lit fn σ η nb o=opH P Γ lit fn σ η nb o∨(∃ rd rh e h new,opF P Γ lit fn σ η nb o=.eff rd rh e h new/\Sound Γ P o σ η nb rd rh e h new):=by
 have hv:∀{rd:List Nat} {v:SV},(∀ d,o.dst=some d->zaf Γ P o σ η (d::rd) [] [(d,v)] [])->vO o rd [] (some v)=.bad∨∃ rd' rh e h new,vO o rd [] (some v)=.eff rd' rh e h new/\Sound Γ P o σ η nb rd' rh e h new:=by
  intro rd v h
  unfold vO
  cases hd:o.dst with
  | none=>exact .inl rfl
  | some d=>exact .inr ⟨_,_,_,_,_,rfl,h d hd⟩
 unfold opF
 split
 case h_4 op T x y U ho=>
  unfold fBin
  have e:opH P Γ lit fn σ η nb o=opP P Γ σ η nb o:=by unfold opH;rw [ho]
  split
  · rename_i p q hpq
    split
    · rename_i v hab
      cases hd:o.dst with
      | none=>
       left
       have:opP P Γ σ η nb o=.bad:=by
        unfold opP;rw [ho];simp only [vO,oldO,hd]
        repeat' split
        all_goals first | rfl | simp_all
       rw [e,this];unfold vO;rw [hd]
      | some d=>
       right
       refine ⟨_,_,_,_,_,by unfold vO;rw [hd],?_⟩
       exact yos ho hd hpq hab
    · exact .inl e.symm
  · exact .inl e.symm
 case h_5 op T x ho=>
  unfold fUn
  have e:opH P Γ lit fn σ η nb o=opP P Γ σ η nb o:=by unfold opH;rw [ho]
  split
  · rename_i p hp
    split
    · rename_i v hab
      cases hd:o.dst with
      | none=>
       left
       have:opP P Γ σ η nb o=.bad:=by
        unfold opP;rw [ho];simp only
        unfold oldO
        rw [hd]
       rw [e,this];unfold vO;rw [hd]
      | some d=>
       right
       refine ⟨_,_,_,_,_,by unfold vO;rw [hd],?_⟩
       exact s_un ho hd hp hab
    · exact .inl e.symm
  · exact .inl e.symm
 case h_17 c ho=>
  unfold z95
  split
  · rename_i x hc;left;unfold opH;rw [ho];simp only [hc]
  · rename_i hc
    split
    · rename_i x T ha ht
      unfold fLen
      split
      · rename_i cc ti hx hti
        split
        · rename_i n hok hl
          have ho':o.op=.call { callee:=.builtin .len,args:=#[x],argTypes:=#[T] }:=by
           rw [ho]
           obtain ⟨cal,args,tys⟩:=c
           simp only at hc ha ht
           rw [hc,z9m ha,ydu ht]
          cases hd:o.dst with
          | none=>
           left
           have:opH P Γ lit fn σ η nb o=.bad:=by
            unfold opH;rw [ho'];simp only [hx,z8l,oldO,hd]
           rw [this];unfold vO;rw [hd]
          | some d=>
           right
           refine ⟨_,_,_,_,_,by unfold vO;rw [hd],?_⟩
           exact yml ho' hd hti hx hok hl
        · exact .inl rfl
      · exact .inl rfl
    · exact .inl rfl
  · exact .inl rfl
  · rename_i h1 h2 h3
    left;unfold opH;rw [ho]
    cases hcc:c.callee with
    | value x=>exact absurd hcc (h1 x)
    | builtin b=>exact absurd hcc (h3 b)
    | _=>simp only [hcc]
 all_goals first
  | exact .inl rfl
  | (rename_i ho;left;unfold opH;rw [ho];simp only;unfold opP;rw [ho];rfl)
  | (rename_i ho;left;unfold opH;rw [ho];rfl)
end Go.Hp

namespace Go.Hp
open Go Go.RowKit Go.Slot
variable {P:Program} {Γ:List (Nat×List Cell)}
theorem SRL.of {η:List SB} {ρ:Nat->Value} {M:Nat->Nat->Prop} {w:World}:∀{l:List AV} {r:List SV} {vs:List Value},zjr l=some r->RdBL M w vs l->SRL η ρ M w vs r:=zlc
theorem zqt {lit fn:Bool} {σ:List SV} {η:List SB} {nb:Nat} {o:Oper} {f:FuncId} {l:List AV} {rd rh bs:List Nat} (h:opH P Γ lit fn σ η nb o=.callD f l rd rh bs) {sl:List SV} (hl:zjr l=some sl) {η':List SB} {res:SV} (hc:zaa Γ P f (appL (frzE η bs) η) sl η' res) :
 zi9 Γ P o σ η (appL (zah o res) σ) η':=by
 obtain ⟨x,xs,ts,ho⟩:=znh h (.inl ⟨_,_,_,_,_,rfl⟩)
 rw [zgu ho] at h
 have ho':o.op=.call { callee:=.value x,args:=xs.toList.toArray,argTypes:=ts }:=by rw [ho]
 have hG:∀{f':FuncId} {caps:List SV} {rd' rh':List Nat},zd3 Γ σ η x=some (f',caps,rd',rh')->zen.callG Γ σ η o xs.toList f' caps rd' rh'=.callD f l rd rh bs->zi9 Γ P o σ η (appL (zah o res) σ) η':=fun {f' caps rd' rh'} hcal hg=>by
  unfold zen.callG at hg
  split at hg
  · rename_i l' bs' ha
    cases hg
    have harr:=zdc ha
    intro E ρ a w hI K Q hK
    have hnt:=zem ha
    have hnt1:zfx (zdm Γ σ xs.toList)=true:=by
     unfold zfx at hnt ⊢
     rw [List.all_append,Bool.and_eq_true] at hnt
     exact hnt.1
    obtain ⟨cv,hcv,hcr⟩:=zpz hI hcal
    have hsr:=(zhh hI xs.toList hnt1).append hcr
    obtain ⟨hw1,_,hfz⟩:=Went.frz bs η hI.inv rfl harr (fun _=>.inl rfl)
    have hrb:=zh9 hw1.inv ha hfz (hsr.mv hw1.mv)
    have hcalls:=hc.2 _ ρ w _ hw1.inv (SRL.of hl hrb)
    unfold Oper.wp
    rw [zj2 ho' hcv hc.1 w]
    show Calls P f _ w _
    have e1:xs.toList.toArray.map a.eval++cv.toArray=(xs.toList.map a.eval++cv).toArray:=by simp
    rw [e1]
    refine hcalls.mono ?_
    rintro e w' ⟨v,ρ',rfl,hw,hv⟩
    exact hK _ _ ρ' (((hI.go hw1).go hw).dst hv)
  · split at hg<;>cases hg
 unfold zen at h
 split at h
 · split at h
   · split at h
     · unfold vO at h;repeat' split at h
       all_goals cases h
     · cases h
   · exact hG rfl h
 · rename_i t
   split at h
   · split at h<;>cases h
   · split at h
     · rename_i f' caps rd' rh' hcal;exact hG hcal h
     · cases h
 · cases h
theorem SVR.refs {η:List SB} {ρ:Nat->Value} {M:Nat->Nat->Prop} {w:World} {v:Value} {x:SV} (h:SVR η ρ M w v x):∀ b∈zg7 x,okB η b:=fun b hb=>by
 cases x with
 | tup l=>
  obtain ⟨vs,_,h⟩:=h
  rw [Hp.zmu,h.zmu] at hb
  exact h.refs b hb
 | one h'=>exact SVR0.refs (x:=.one h') h b hb
 | agg l=>exact SVR0.refs (x:=.agg l) h b hb
 | _=>cases hb
theorem RI.zsp {E:HEnv} {η:List SB} {ρ:Nat->Value} {σ:List SV} {a:Act} {w:World} (h:RI Γ E ρ σ (η++[.fresh]) a w):RI Γ E ρ σ η a w:=by
 have hget:∀(i:Nat) (x:SB),η[i]? = some x->(η++[SB.fresh])[i]? = some x:=fun i x hi=>by rw [List.getElem?_append_left (List.getElem?_eq_some_iff.1 hi).1];exact hi
 have hok:∀ b,okB (η++[.fresh]) b->okB η b:=fun b ⟨x,hx,hf⟩=>by
  rw [List.getElem?_append] at hx
  split at hx
  · exact ⟨x,hx,hf⟩
  · rename_i hlt
    cases hn:b-η.length with
    | zero=>rw [hn] at hx;simp at hx;exact absurd hx.symm hf
    | succ n=>rw [hn] at hx;simp at hx
 have hM:∀ b o,MX E.Mo ρ η b o->MX E.Mo ρ (η++[.fresh]) b o:=by
  rintro b o (hm | ⟨i,x,hi,hx⟩)
  · exact .inl hm
  · exact .inr ⟨i,x,hget i x hi,hx⟩
 have hw:=h.went
 refine ⟨h.hd,h.hs,fun i x hi=>(h.slot i x hi).at hM (fun b hb=>⟨hok b ((h.slot i x hi).refs b hb),rfl⟩),fun b hb=>hok b (hw.ok b hb),hw.rho,hw.keep.trans (zav.shrink w hM),hw.grow,
  ⟨hw.inv.bnd,fun i x hi=>(hw.inv.blk i x (hget i x hi)).at hM (fun b hb=>⟨hok b ((hw.inv.blk i x (hget i x hi)).refs b hb),rfl⟩),fun i j x y hi hj=>hw.inv.inj i j x y (hget i x hi) (hget j y hj),fun i x hi=>hw.inv.sep i x (hget i x hi),hw.inv.glob.keep (zav.shrink w hM)⟩,
  hw.size,hw.os,hw.tape,hw.output,hw.frame,fun k ⟨i,x,hi,hx⟩=>hw.fresh k ⟨i,x,hget i x hi,hx⟩⟩
theorem StH.zsp {e:List SB} {σ:List SV} {η:List SB}:StH Γ e σ (η++[.fresh]) σ η:=fun _ ρ _ _ _ h=>⟨ρ,h.zsp⟩
inductive GR where
 | plain
 | when (d:Nat) (c b:Bool)
 | skip (d:Nat)
 | bad
def zcd (ops:List Oper) (σ:List SV) (o:Oper):GR:=match o.guard with
 | none=>.plain
 | some (j,b)=>match (ops[j]?).bind (·.dst) with
  | some d=>match gtS σ d with
   | .one (.dat (.raw (.bool c)))=>.when d c b
   | .undef=>.skip d
   | _=>.bad
  | none=>.bad
theorem zfg {ops:Array Oper} {σ:List SV} {o:Oper}:(zcd ops.toList σ o=.plain->o.guard=none)/\(∀ d c b,zcd ops.toList σ o=.when d c b->∃ j,o.guard=some (j,b)/\(ops[j]?).bind (·.dst)=some d/\gtS σ d=.one (.dat (.raw (.bool c))))/\
 (∀ d,zcd ops.toList σ o=.skip d->∃ j b,o.guard=some (j,b)/\(ops[j]?).bind (·.dst)=some d/\gtS σ d=.undef):=by
 unfold zcd
 cases hg:o.guard with
 | none=>exact ⟨fun _=>rfl,fun d c b h=>(by cases h),fun d h=>(by cases h)⟩
 | some p=>
  obtain ⟨j,b⟩:=p
  simp only [Array.getElem?_toList]
  cases hd:(ops[j]?).bind (·.dst) with
  | none=>exact ⟨fun h=>(by cases h),fun d c b h=>(by cases h),fun d h=>(by cases h)⟩
  | some d=>
   simp only []
   split
   · rename_i c hc
     refine ⟨fun h=>(by cases h),fun d' c' b' h=>?_,fun d h=>(by cases h)⟩
     cases h
     exact ⟨j,rfl,hd,hc⟩
   · rename_i hc
     refine ⟨fun h=>(by cases h),fun d' c' b' h=>(by cases h),fun d' h=>?_⟩
     cases h
     exact ⟨j,b,rfl,hd,hc⟩
   · exact ⟨fun h=>(by cases h),fun d c b h=>(by cases h),fun d h=>(by cases h)⟩
section
variable {β:Type}
def frcL {α:Type}:List α->(List α->β)->β
 | [],k=>k []
 | x::l,k=>frcL l fun l=>k (x::l)
def frcN:Nat->(Nat->β)->β
 | 0,k=>k 0
 | n+1,k=>k (n+1)
def frcI:Int->(Int->β)->β
 | .ofNat n,k=>frcN n fun n=>k (.ofNat n)
 | .negSucc n,k=>frcN n fun n=>k (.negSucc n)
def z46:ByteArray->(ByteArray->β)->β
 | ⟨⟨l⟩⟩,k=>frcL l fun l=>k ⟨⟨l⟩⟩
def frcV:Value->(Value->β)->β
 | .bool true,k=>k (.bool true)
 | .bool false,k=>k (.bool false)
 | .int kd n,k=>frcI n fun n=>k (.int kd n)
 | .string s,k=>z46 s fun s=>k (.string s)
 | .slice a n c,k=>k (.slice a n c)
 | .pointer a,k=>k (.pointer a)
 | v,k=>k v
def yg9:List Int->(List Int->β)->β
 | [],k=>k []
 | x::l,k=>frcI x fun x=>yg9 l fun l=>k (x::l)
def frcC:Cell->(Cell->β)->β
 | .raw v,k=>frcV v fun v=>k (.raw v)
 | .ints kd l,k=>yg9 l fun l=>k (.ints kd l)
 | .sl n l,k=>frcL l fun l=>k (.sl n l)
 | c,k=>k c
def frcH:HC->(HC->β)->β
 | .dat c,k=>frcC c fun c=>k (.dat c)
 | .ptr b o,k=>frcN o fun o=>k (.ptr b o)
 | .sl b es lo n,k=>frcN lo fun lo=>frcN n fun n=>k (.sl b es lo n)
 | h,k=>k h
def z91:List HC->(List HC->β)->β
 | [],k=>k []
 | x::l,k=>frcH x fun x=>z91 l fun l=>k (x::l)
def frcS:SV->(SV->β)->β
 | .one h,k=>frcH h fun h=>k (.one h)
 | .agg l,k=>z91 l fun l=>k (.agg l)
 | .tup l,k=>frcL l fun l=>k (.tup l)
 | .undef,k=>k .undef
 | x,k=>k x
def z0x:List SV->(List SV->β)->β
 | [],k=>k []
 | x::l,k=>frcS x fun x=>z0x l fun l=>k (x::l)
def frcE:List (Nat×SV)->(List (Nat×SV)->β)->β
 | [],k=>k []
 | (d,x)::l,k=>frcS x fun x=>frcE l fun l=>k ((d,x)::l)
def frcB:SB->(SB->β)->β
 | .box l T,k=>z91 l fun l=>k (.box l T)
 | .arr c n T,k=>frcC c fun c=>frcN n fun n=>k (.arr c n T)
 | .map es,k=>frcL es fun es=>k (.map es)
 | b,k=>k b
def z76:List (Nat×SB)->(List (Nat×SB)->β)->β
 | [],k=>k []
 | (d,x)::l,k=>frcB x fun x=>z76 l fun l=>k ((d,x)::l)
theorem zde {α:Type}:∀(l:List α) (k:List α->β),frcL l k=k l
 | [],_=>rfl
 | _::l,_=>zde l _
theorem zhd (n:Nat) (k:Nat->β):frcN n k=k n:=by cases n<;>rfl
theorem z7k (n:Int) (k:Int->β):frcI n k=k n:=by cases n<;>exact zhd _ _
theorem z3k (s:ByteArray) (k:ByteArray->β):z46 s k=k s:=by obtain ⟨⟨l⟩⟩:=s;exact zde _ _
theorem zpn (v:Value) (k:Value->β):frcV v k=k v:=by
 cases v with
 | bool b=>cases b<;>rfl
 | int kd n=>exact z7k _ _
 | string s=>show z46 s (fun s=>k (.string s))=_;exact z3k _ _
 | _=>rfl
theorem zy0:∀(l:List Int) (k:List Int->β),yg9 l k=k l
 | [],_=>rfl
 | _::l,_=>(z7k _ _).trans (zy0 l _)
theorem z5u (c:Cell) (k:Cell->β):frcC c k=k c:=by
 cases c with
 | raw v=>exact zpn _ _
 | ints kd l=>exact zy0 _ _
 | sl n l=>exact zde _ _
 | _=>rfl
theorem z4s (h:HC) (k:HC->β):frcH h k=k h:=by
 cases h with
 | dat c=>exact z5u _ _
 | ptr b o=>exact zhd _ _
 | sl b es lo n=>exact (zhd _ _).trans (zhd _ _)
 | _=>rfl
theorem zsf:∀(l:List HC) (k:List HC->β),z91 l k=k l
 | [],_=>rfl
 | _::l,_=>(z4s _ _).trans (zsf l _)
theorem zfk (x:SV) (k:SV->β):frcS x k=k x:=by
 cases x with
 | one h=>exact z4s _ _
 | agg l=>exact zsf _ _
 | tup l=>exact zde _ _
 | _=>rfl
theorem zni:∀(l:List SV) (k:List SV->β),z0x l k=k l
 | [],_=>rfl
 | _::l,_=>(zfk _ _).trans (zni l _)
theorem zpa:∀(l:List (Nat×SV)) (k:List (Nat×SV)->β),frcE l k=k l
 | [],_=>rfl
 | (_,_)::l,_=>(zfk _ _).trans (zpa l _)
theorem zxk (x:SB) (k:SB->β):frcB x k=k x:=by
 cases x with
 | box l T=>exact zsf _ _
 | arr c n T=>exact (z5u _ _).trans (zhd _ _)
 | map es=>exact zde _ _
 | _=>rfl
theorem zl5:∀(l:List (Nat×SB)) (k:List (Nat×SB)->β),z76 l k=k l
 | [],_=>rfl
 | (_,_)::l,_=>(zxk _ _).trans (zl5 l _)
end
def zl4 (ops:List Oper):Option Nat->Bool
 | none=>false
 | some d=>ops.any fun o=>match o.op with
  | .call c=>match c.callee with
   | .builtin .append=>match c.args.toList with
    | [_,.tmp t]=>t==d
    | _=>false
   | _=>false
  | _=>false
section
variable (cD:FuncId->List AV->Option AV) (cH:FuncId->List SB->List SV->Option (List SB×SV×List Nat))
def evDo (o:Oper) (σ:List SV) (η:List SB):HO->Option (List SV×List SB×List Nat)
 | .eff _ _ e h none=>frcE e fun e=>z76 h fun h=>some (appL e σ,appL h η,h.map (·.1))
 | .eff _ _ e h (some x)=>frcE e fun e=>z76 h fun h=>frcB x fun x=>some (appL e σ,appL h η++[x],h.map (·.1))
 | .callD f l _ _ bs=>match cD f l with
  | some res=>match resS η.length res with
   | some (y,none)=>frcS y fun y=>some (appL (zah o y) σ,appL (frzE η bs) η,bs)
   | some (y,some x)=>frcS y fun y=>frcB x fun x=>some (appL (zah o y) σ,appL (frzE η bs) η++[x],bs)
   | none=>none
  | none=>match zjr l with
   | some sl=>match cH f (appL (frzE η bs) η) sl with
    | some (η',res,ch)=>frcS res fun res=>frcL η' fun η'=>some (appL (zah o res) σ,η',bs++ch)
    | none=>none
   | none=>none
 | .callH f l _=>match cH f η l with
  | some (η',res,ch)=>frcS res fun res=>frcL η' fun η'=>some (appL (zah o res) σ,η',ch)
  | none=>none
 | .look r z ok _ _=>match o.dst with
  | some _=>frcS (zkp ok r z) fun y=>some (appL (zah o y) σ,η,[])
  | none=>none
 | _=>none
def evGd (P:Program) (Γ:List (Nat×List Cell)) (ops:List Oper) (o:Oper) (σ:List SV) (η:List SB):GR->Option (List SV×List SB×List Nat)
 | .plain=>evDo cD cH o σ η (opF P Γ (zl4 ops o.dst) false σ η η.length o)
 | .when _ c b=>if c=b then evDo cD cH o σ η (opF P Γ (zl4 ops o.dst) false σ η η.length o) else some (appL (zah o .undef) σ,η,[])
 | .skip _=>some (appL (zah o .undef) σ,η,[])
 | .bad=>none
def zu2 (P:Program) (Γ:List (Nat×List Cell)) (ops:List Oper):List Oper->List SV->List SB->List Nat->Option (List SV×List SB×List Nat)
 | [],σ,η,wl=>some (σ,η,wl)
 | o::r,σ,η,wl=>match evGd cD cH P Γ ops o σ η (zcd ops σ o) with
  | some (σ',η',ws)=>frcL σ' fun σ'=>frcL η' fun η'=>zu2 P Γ ops r σ' η' (ws++wl)
  | none=>none
def opRd:Op->List Nat
 | .move x=>orr x
 | .assign x=>orr x
 | .pick c x y=>orr c++orr x++orr y
 | .binOp _ _ x y _=>orr x++orr y
 | .unOp _ _ x=>orr x
 | .load _ x=>orr x
 | .fieldAddr _ x _=>orr x
 | .indexAddr _ x y=>orr x++orr y
 | .field _ x _=>orr x
 | .index _ x y=>orr x++orr y
 | .extract x _=>orr x
 | .nilCheck x=>orr x
 | .build _ ps=>orrs ps.toList
 | .slice _ x lo hi _=>orr x++orrO lo++orrO hi
 | .convert _ _ x=>orr x
 | .lookup _ x y _=>orr x++orr y
 | .call c=>(match c.callee with
  | .value (.tmp t)=>[t]
  | _=>[])++orrL c.args.toList
 | _=>[]
def sRd (o:Oper):List Nat:=zdn o++opRd o.op
def gRd (ops:List Oper) (o:Oper):List Nat:=match o.guard with
 | none=>[]
 | some (j,_)=>match (ops[j]?).bind (·.dst) with
  | some d=>[d]
  | none=>[]
def sHR (ops:List Oper) (o:Oper):HR:=⟨gRd ops o++sRd o,[],zah o .any,[]⟩
def inRd (l r:List Nat):Bool:=l.all fun x=>r.contains x
def zn7 (o:Oper) (σ:List SV) (η:List SB):HO->Option (List SV×List SB×List Nat)
 | .eff rd _ [(d,x)] [] none=>if inRd rd (sRd o)=true/\o.dst=some d then frcS x fun x=>some (σ.set d x,η,[]) else none
 | .callD f l rd _ []=>match cD f l,o.dst with
  | some res,some d=>if inRd rd (sRd o)=true then match resS η.length res with
   | some (y,none)=>frcS y fun y=>some (σ.set d y,η,[])
   | _=>none
   else none
  | _,_=>none
 | _=>none
def z2u (P:Program) (Γ:List (Nat×List Cell)) (ops:List Oper) (o:Oper) (σ:List SV) (η:List SB):GR->Option (List SV×List SB×List Nat)
 | .plain=>zn7 cD o σ η (opF P Γ (zl4 ops o.dst) false σ η η.length o)
 | .when _ c b=>if c=b then zn7 cD o σ η (opF P Γ (zl4 ops o.dst) false σ η η.length o) else some (appL (zah o .undef) σ,η,[])
 | .skip _=>some (appL (zah o .undef) σ,η,[])
 | .bad=>none
def zjn (P:Program) (Γ:List (Nat×List Cell)) (ops:List Oper):List Oper->List SV->List SB->List Nat->Option (List SV×List SB×List Nat)
 | [],σ,η,wl=>some (σ,η,wl)
 | o::r,σ,η,wl=>match z2u cD P Γ ops o σ η (zcd ops σ o) with
  | some (σ',η',ws)=>zjn P Γ ops r σ' η' (ws++wl)
  | none=>none
def ykg (o:Oper):Bool:=match o.op with
 | .alloc _=>false
 | .box _ _=>false
 | .store _ _ _=>false
 | .buildSlice _ _ _=>false
 | .makeMap _ _=>false
 | .makeFunc _ _ _=>false
 | .mapUpdate _ _ _ _=>false
 | .call c=>match c.callee with
  | .value _=>true
  | .builtin b=>match b with
   | .len=>true
   | _=>false
  | _=>false
 | _=>true
def mkM:List Nat->Nat
 | []=>0
 | i::l=>Nat.lor (Nat.pow 2 i) (mkM l)
def getM:List Nat->Nat->Nat
 | [],_=>0
 | x::_,0=>x
 | _::l,i+1=>getM l i
def z6q (acc:List Nat):List Nat->Nat
 | []=>0
 | d::l=>Nat.lor (Nat.lor (Nat.pow 2 d) (getM acc d)) (z6q acc l)
def befM:List Oper->List Nat->List Nat
 | [],acc=>acc
 | o::r,acc=>frcN (z6q acc (direct o)) fun m=>befM r (acc++[m])
def apM:Nat->Nat->Nat->Nat->List (Nat×Nat)->Bool
 | _,_,_,_,[]=>true
 | b,r,w,i,(r',w')::l=>(Nat.beq (Nat.land (Nat.shiftRight b i) 1) 1||(Nat.beq (Nat.land w' r) 0&&Nat.beq (Nat.land w r') 0))&&apM b r w (i+1) l
def indM:List Nat->List (Nat×Nat)->List (Nat×Nat)->Bool
 | [],_,[]=>true
 | b::bs,before,(r,w)::l=>apM b r w 0 before&&indM bs (before++[(r,w)]) l
 | _,_,_=>false
def frcM:List HR->(List (Nat×Nat)->Bool)->Bool
 | [],k=>k []
 | s::l,k=>frcN (mkM s.rd) fun r=>frcN (mkM s.ws) fun w=>frcM l fun l=>k ((r,w)::l)
def z4w (l:List Oper) (recs:List HR):Bool:=
 zga 0 l&&(recs.all fun s=>(s.ws.all fun x=>s.rd.contains x)&&isNil s.heff)&&frcM recs fun rs=>indM (befM l []) [] rs
def stOk (ops:List Oper):Bool:=ops.all ykg&&z4w ops (ops.map (sHR ops))
def zz9 (P:Program) (Γ:List (Nat×List Cell)) (ops:List Oper) (σ:List SV) (η:List SB) (wl:List Nat):Option (List SV×List SB×List Nat):=match stOk ops with
 | true=>zjn cD P Γ ops ops σ η wl
 | false=>none
def zvg (o:Oper) (nb:Nat) (η:List SB):HO->Option HR
 | .eff rd rh e h none=>some ⟨rd,rh,e,h⟩
 | .eff rd rh e h (some x)=>if zgb η nb=true then some ⟨rd,nb::rh,e,h++[(nb,x)]⟩ else none
 | .callD f l rd rh bs=>match cD f l with
  | some res=>match resS nb res with
   | some (y,none)=>some ⟨rd,rh++bs,zah o y,frzE η bs⟩
   | some (y,some x)=>if zgb η nb=true then some ⟨rd,nb::(rh++bs),zah o y,frzE η bs++[(nb,x)]⟩ else none
   | none=>none
  | none=>none
 | .callH f l rd=>match cH f η l with
  | some (η',res,ch)=>if η'.length=η.length then some ⟨rd,List.range η.length,zah o res,ch.map fun i=>(i,gB η' i)⟩ else none
  | none=>none
 | .look r z ok rd rh=>match o.dst with
  | some _=>some ⟨rd,rh,zah o (zkp ok r z),[]⟩
  | none=>none
 | _=>none
def onD (d:Nat) (s:HR):HR:=⟨d::s.rd,s.rh,s.eff,s.heff⟩
def ya3 (P:Program) (Γ:List (Nat×List Cell)) (ops:List Oper) (nb:Nat) (o:Oper) (σ:List SV) (η:List SB):GR->Option HR
 | .plain=>zvg cD cH o nb η (opF P Γ (zl4 ops o.dst) false σ η nb o)
 | .when d c b=>if c=b then (zvg cD cH o nb η (opF P Γ (zl4 ops o.dst) false σ η nb o)).map (onD d) else some ⟨d::zdn o,[],zah o .undef,[]⟩
 | .skip d=>some ⟨d::zdn o,[],zah o .undef,[]⟩
 | .bad=>none
def zrl (P:Program) (Γ:List (Nat×List Cell)) (ops:List Oper) (nb:Nat):List Oper->List HR->List SV->List SB->List Nat->Option (List SV×List SB×List Nat)
 | [],acc,σ,η,wl=>if zfd ops acc=true then some (σ,η,wl) else none
 | o::r,acc,σ,η,wl=>match ya3 cD cH P Γ ops nb o σ η (zcd ops σ o) with
  | some s=>frcE s.eff fun e=>z76 s.heff fun h=>frcL (appL e σ) fun σ=>frcL (appL h η) fun η=>zrl P Γ ops nb r (acc++[s]) σ η (s.heff.map (·.1)++wl)
  | none=>none
def znd (n:Nat) (η:List SB):List SB:=match η.drop n with
 | [.fresh]=>η.take n
 | _=>η
def zq2 (body:List SV->List SB->List Nat->Option (Exit×List SV×List SB×List Nat)):Nat->List SV->List SB->List Nat->Option (Exit×List SV×List SB×List Nat)
 | 0,_,_,_=>none
 | n+1,σ,η,wl=>match body σ η wl with
  | some (.normal,σ',η',wl')=>zq2 body n σ' η' wl'
  | r=>r
def zbk (P:Program) (Γ:List (Nat×List Cell)) (N:Nat):Code->List SV->List SB->List Nat->Option (Exit×List SV×List SB×List Nat)
 | .skip,σ,η,wl=>some (.normal,σ,η,wl)
 | .region _ ops false,σ,η,wl=>match zu2 cD cH P Γ ops.toList ops.toList σ η wl with
  | some (s,h,wl)=>some (.normal,s,h,wl)
  | none=>none
 | .region _ ops true,σ,η,wl=>if P.follows .mixedOrders=true then (match zz9 cD P Γ ops.toList σ η wl with
  | some (s,h,wl)=>some (.normal,s,h,wl)
  | none=>match zrl cD cH P Γ ops.toList η.length ops.toList [] σ (η++[.fresh]) wl with
   | some (s,h,wl)=>some (.normal,s,znd η.length h,wl)
   | none=>none) else none
 | .seq x y,σ,η,wl=>match zbk P Γ N x σ η wl with
  | some (.normal,s,h,wl)=>zbk P Γ N y s h wl
  | r=>r
 | .cond c x y,σ,η,wl=>match opdS Γ σ c with
  | .one (.dat (.raw (.bool true)))=>zbk P Γ N x σ η wl
  | .one (.dat (.raw (.bool false)))=>zbk P Γ N y σ η wl
  | _=>none
 | .block id x,σ,η,wl=>match zbk P Γ N x σ η wl with
  | some (.exit j,s,h,wl)=>if j=id then some (.normal,s,h,wl) else some (.exit j,s,h,wl)
  | r=>r
 | .loop x,σ,η,wl=>zq2 (zbk P Γ N x) N σ η wl
 | .exit id,σ,η,wl=>some (.exit id,σ,η,wl)
 | .ret,σ,η,wl=>some (.ret,σ,η,wl)
 | .label _,σ,η,wl=>some (.normal,σ,η,wl)
 | .scope x,σ,η,wl=>match zbk P Γ N x σ η wl with
  | some (.goto _,_,_,_)=>none
  | r=>r
 | _,_,_,_=>none
end
def zqk (cD:FuncId->List AV->Option AV) (cH:FuncId->List SB->List SV->Option (List SB×SV×List Nat)) (P:Program) (Γ:List (Nat×List Cell)) (N:Nat) (f:FuncId) (l:List SV) (η:List SB):Option (SV×List SB×List Nat):=match P.funcs[f]? with
 | some fn=>match fn.body,fn.name == "runtime.NumGoroutine" with
  | some c,false=>match z0x (l++List.replicate (fn.ntmps-l.length) .undef) fun σ=>zbk cD cH P Γ N c σ η [] with
   | some (.ret,σ,h,wl)=>(zhf P σ h fn.results.toList).map fun x=>(x,h,wl)
   | some (.normal,σ,h,wl)=>(zhf P σ h fn.results.toList).map fun x=>(x,h,wl)
   | _=>none
  | _,_=>none
 | none=>none
def ltB (m:Nat) (l:List Nat):Bool:=l.all fun b=>decide (b<m)
def zmr (n:Nat) (x:SV) (η:List SB):List SB×SV:=match zdt η x with
 | some (av,bs)=>match bs.all (fun b=>decide (n<=b)),resS 0 av with
  | true,some (y,none)=>(appL (frzE η bs) η,y)
  | _,_=>(η,x)
 | none=>(η,x)
def zoy (n:Nat) (r:List SB×SV):List SB×SV:=if (ltB n (zg7 r.2)&&(r.1.take n).all (fun b=>ltB n (zk7 b)))=true then (r.1.take n,r.2) else r
mutual
def evD (P : Program) (Γ : List (Nat × List Cell)) (known : FuncId → List AV → Option AV) (N : Nat) : Nat → FuncId → List AV → Option AV
 | 0,_,_=>none
 | n + 1, f, l => match known f l with
  | some r=>some r
  | none=>match zjr l with
   | some sl=>match zqk (evD P Γ known N n) (evH P Γ known N n) P Γ N f sl [] with
    | some (x,η,_)=>(zdt η x).map (·.1)
    | none=>none
   | none=>none
def evH (P:Program) (Γ:List (Nat×List Cell)) (known:FuncId->List AV->Option AV) (N:Nat):Nat->FuncId->List SB->List SV->Option (List SB×SV×List Nat)
 | 0,_,_,_=>none
 | n+1,f,η,l=>match zqk (evD P Γ known N n) (evH P Γ known N n) P Γ N f l η with
  | some (x,h,wl)=>match zoy η.length (zmr η.length x h) with
   | (h',y)=>some (h',y,wl.filter (fun i=>decide (i<η.length)))
  | none=>none
end
end Go.Hp
