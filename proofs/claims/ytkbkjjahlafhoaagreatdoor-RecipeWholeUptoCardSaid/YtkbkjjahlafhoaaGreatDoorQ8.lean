/- The proof, part Q8: Hj, Hz. -/
import Derived.Test.YtkbkjjahlafhoaaGreatDoorQ7
import Derived.ChangeKeysEq
import Derived.Laws.BytesArg
import Derived.Lib.UnsafeStr
namespace Go.Hp
open Go Go.RowKit Go.Slot
variable {P:Program} {Γ:List (Nat×List Cell)}
variable {d:Nat} {t T kt et:TypeId} {ds:TypeDesc} {k a b:Value} {l:List Value} {r:Bool} {o:Oper} {J:List SV} {η:List SB} {x y:Operand} {sh:Sh} {ti tk:TI} {es:List (Value×SV)}
def w1m (g:TypeId->Option Nat):List Field->Nat->Option Nat
 | [],acc=>some acc
 | f::fs,acc=>match g f.type with
  | some k=>if f.name != "_" &&f.offset==acc then w1m g fs (acc+k) else none
  | none=>none
def zl7 (P:Program):Nat->TypeId->Option Nat
 | 0,_=>none
 | d + 1, t => match P.underlying t, P.info? t with
  | some ds,some i=>match ds with
   | .int _=>if i.size==1 then some 1 else none
   | .string=>if i.size==1 then some 1 else none
   | .bool=>if i.size==1 then some 1 else none
   | .array n e=>match zl7 P d e with
    | some k=>if i.size==n*k then some (n*k) else none
    | none=>none
   | .struct fs=>if P.stoodInHeld t then none else match w1m (zl7 P d) fs.toList 0 with
    | some n=>if i.size==n then some n else none
    | none=>none
   | _=>none
  | _,_=>none
def aggT (P:Program) (t:TypeId):Bool:=match P.underlying t with
 | some (.struct _)=>true
 | some (.array _ _)=>true
 | _=>false
def valT (P:Program) (t:TypeId) (l:List Value):Value:=if aggT P t then .agg l.toArray else l.getD 0 Go.undef
theorem z4s:∀{a b:List Value} {r:Bool},eqL a b=some r->a.length=b.length
 | [],[],_,_=>rfl
 | a::as,b::bs,r,h=>by
  simp only [eqL] at h;split at h
  . rename_i p q h1 h2;simp [z4s h2]
  . cases h
theorem vop:∀(k:Nat) {a b:List Value} {r:Bool},eqL a b=some r->∃ p q,eqL (a.take k) (b.take k)=some p/\eqL (a.drop k) (b.drop k)=some q/\r=(p&&q)
 | 0,a,b,r,h=>⟨true,r,by simp [eqL],by simpa using h,by simp⟩
 | k+1,[],[],r,h=>⟨true,true,by simp [eqL],by simp [eqL],by simp [eqL] at h;simp [h]⟩
 | k+1,[],_::_,r,h=>by simp [eqL] at h
 | k+1,_::_,[],r,h=>by simp [eqL] at h
 | k+1,a::as,b::bs,r,h=>by
  simp only [eqL] at h;split at h
  . rename_i p q h1 h2
    cases h;obtain ⟨p',q',h3,h4,rfl⟩:=vop k h2;exact ⟨p&&p',q',by simp [eqL,h1,h3],by simpa using h4,by simp [Bool.and_assoc]⟩
  . cases h
theorem wlo {n : Nat} (h : zl7 P d t = some n) : ∃ i, P.info? t = some i ∧ i.size = n := by
 cases d with
 | zero=>cases h
 | succ d=>
  unfold zl7 at h;split at h
  . rename_i ds i hu hi;refine ⟨i,hi,?_⟩;split at h
    . split at h
      . rename_i hs;cases h;simpa using hs
      . cases h
    . split at h
      . rename_i hs;cases h;simpa using hs
      . cases h
    . split at h
      . rename_i hs;cases h;simpa using hs
      . cases h
    . split at h
      . split at h
        . rename_i hs;cases h;simpa using hs
        . cases h
      . cases h
    . split at h
      . cases h
      . split at h
        . split at h
          . rename_i hs;cases h;simpa using hs
          . cases h
        . cases h
    . cases h
  . cases h
theorem wcj (hu:P.underlying t=some ds) (w:World):(isAgg t).run P w=.ok (aggT P t) w:=by
 unfold aggT;rw [hu]
 cases ds<;>simp [isAgg,y9m hu]
theorem zps {n:Nat} (h:zl7 P d t=some n):∃ ds,P.underlying t=some ds:=by
 cases d with
 | zero=>cases h
 | succ d=>
  unfold zl7 at h;split at h
  . rename_i ds i hu hi;exact ⟨ds,hu⟩
  . cases h
theorem wvq {k:Nat} (h:zl7 P d t=some k) {off:Nat} (hfit:off+k<=l.length) (hk:aggT P t=false->0<k) (w:World):(part t l.toArray off).run P w=.ok (valT P t ((l.drop off).take k)) w:=by
 obtain ⟨ds,hu⟩:=zps h;obtain ⟨i,hi,hs⟩:=wlo h;unfold part valT;simp only [Sem.run_bind,wcj hu,Result.andThen_ok]
 cases ha:aggT P t
 . have hk:=hk ha
   have hlt:off<l.length:=by omega
   simp only [Bool.false_eq_true,if_false,List.getElem?_toArray,List.getElem?_eq_getElem hlt,Sem.run_pure]
   congr 1
   rw [List.getD_eq_getElem?_getD,List.getElem?_take,if_pos hk,List.getElem?_drop,Nat.add_zero,List.getElem?_eq_getElem hlt];rfl
 . simp only [if_true,Sem.run_bind,ynn hi,hs,Result.andThen_ok,Sem.run_pure]
   congr 1
   simp [List.extract_eq_take_drop]
theorem wa9 {n:Nat} (h:zl7 P d t=some n) (ha:aggT P t=false):n=1/\∃ ds,P.underlying t=some ds/\((∃ k,ds=.int k)\/ds=.string\/ds=.bool):=by
 cases d with
 | zero=>cases h
 | succ d=>
  unfold zl7 at h;split at h
  . rename_i ds i hu hi;unfold aggT at ha;rw [hu] at ha;split at h
    . split at h<;>cases h;exact ⟨rfl,_,hu,.inl ⟨_,rfl⟩⟩
    . split at h<;>cases h;exact ⟨rfl,_,hu,.inr (.inl rfl)⟩
    . split at h<;>cases h;exact ⟨rfl,_,hu,.inr (.inr rfl)⟩
    . cases ha
    . cases ha
    . cases h
  . cases h
theorem wgt (hu:P.underlying t=some ds) (hd:(∃ k,ds=.int k)\/ds=.string\/ds=.bool) (h:kEq0 a b=some r) (ht:(∀ k,ds=.int k->∃ q n,a=.int q n)/\(ds=.string->∃ s,a=.string s)/\(ds=.bool->∃ p,a=.bool p)) (d:Nat) (w:World) :
 (Op.equalIn (d+1) t a b).run P w=.ok r w:=by
 rcases hd with ⟨k,rfl⟩ | rfl | rfl
 . obtain ⟨q,n,rfl⟩:=ht.1 k rfl
   cases b<;>simp only [kEq0] at h<;>first | (cases h;done) | skip
   split at h
   . rename_i e;subst e;cases h;simp [Op.equalIn,y9m hu]
   . cases h
 . obtain ⟨s,rfl⟩:=ht.2.1 rfl
   cases b<;>simp only [kEq0] at h<;>first | (cases h;done) | skip
   cases h;simp [Op.equalIn,y9m hu,beq_toListBytes,seq]
 . obtain ⟨p,rfl⟩:=ht.2.2 rfl
   cases b<;>simp only [kEq0] at h<;>first | (cases h;done) | skip
   cases h;simp [Op.equalIn,y9m hu]
def fitD:TypeDesc->Value->Bool
 | .int k,.int k' _=>k==k'
 | .string,.string _=>true
 | .bool,.bool _=>true
 | _,_=>false
def fitF (g:TypeId->List Value->Bool) (sz:TypeId->Nat):List Field->List Value->Bool
 | [],_=>true
 | f::fs,l=>g f.type (l.take (sz f.type))&&fitF g sz fs (l.drop (sz f.type))
def fitN (g:List Value->Bool) (k:Nat):Nat->List Value->Bool
 | 0,_=>true
 | n+1,l=>g (l.take k)&&fitN g k n (l.drop k)
def fitT (P:Program):Nat->TypeId->List Value->Bool
 | 0,_,_=>false
 | d+1,t,l=>match P.underlying t with
  | some (.array n e)=>fitN (fitT P d e) (P.cellsOf e) n l
  | some (.struct fs)=>fitF (fitT P d) P.cellsOf fs.toList l
  | some ds=>match l with
   | [v]=>fitD ds v
   | _=>false
  | none=>false
theorem zdc:∀(d:Nat) {t:TypeId} {n:Nat},zl7 P d t=some n->∀(m:Nat) {l l':List Value} {r:Bool},l.length=n->fitT P d t l=true->eqL l l'=some r->∀ w,(Op.equalIn (d+m) t (valT P t l) (valT P t l')).run P w=.ok r w
 | 0,_,_,h=>by cases h
 | d + 1, t, n, h => fun m l l' r hl hfit he w => by
  have hll:=z4s he
  cases ha:aggT P t with
  | false=>
   obtain ⟨rfl,ds,hu,hd⟩:=wa9 h ha;unfold fitT at hfit;rw [hu] at hfit
   match l,l',hl,hll,he with
   | [a],[b],_,_,he=>
    unfold valT;rw [ha];simp only [Bool.false_eq_true,if_false,List.getD_cons_zero]
    have hk:kEq0 a b=some r:=by
     simp only [eqL] at he;split at he
     . rename_i p q h1 h2;cases h2;cases he;rw [h1];simp
     . cases he
    rw [show d+1+m=d+m+1 by omega];refine wgt hu hd hk ?_ (d+m) w
    rcases hd with ⟨k,rfl⟩ | rfl | rfl
    . refine ⟨fun k' _=>?_,fun e=>(by cases e),fun e=>(by cases e)⟩
      cases a<;>simp [fitD] at hfit
      exact ⟨_,_,rfl⟩
    . refine ⟨fun k' e=>(by cases e),fun _=>?_,fun e=>(by cases e)⟩
      cases a<;>simp [fitD] at hfit
      exact ⟨_,rfl⟩
    . refine ⟨fun k' e=>(by cases e),fun e=>(by cases e),fun _=>?_⟩
      cases a<;>simp [fitD] at hfit
      exact ⟨_,rfl⟩
  | true=>
   unfold valT;rw [ha];simp only [if_true];unfold zl7 at h;split at h
   case h_2=>cases h
   rename_i ds i hu hi;unfold fitT at hfit;rw [hu] at hfit;split at h
   case h_1 | h_2 | h_3 | h_6=>first | (unfold aggT at ha;rw [hu] at ha;cases ha) | cases h
   ·
    rename_i nn e;split at h
    case h_2=>cases h
    rename_i k hk;split at h
    case isFalse=>cases h
    cases h;obtain ⟨ie,hie,hse⟩:=wlo hk
    have hce:P.cellsOf e=k:=by simp [Program.cellsOf,hie,hse]
    rw [show d+1+m=d+m+1 by omega,run_equalIn_array w (d+m) l.toArray l'.toArray hu hie,hce];simp only [hce] at hfit
    have key:∀(c j:Nat) {r:Bool},c+j=nn->fitN (fitT P d e) k c (l.drop (j*k))=true->eqL (l.drop (j*k)) (l'.drop (j*k))=some r->(Op.eqItems (d+m) e k l.toArray l'.toArray (List.range' j c)).run P w=.ok r w:=by
     intro c
     induction c with
     | zero=>
      intro j r hj _ he
      have:l.drop (j*k)=[]:=List.drop_eq_nil_of_le (by rw [hl,<-hj];simp)
      have h2:l'.drop (j*k)=[]:=List.drop_eq_nil_of_le (by rw [<-hll,hl,<-hj];simp);rw [this,h2] at he
      cases he;simp [Op.eqItems]
     | succ c ih=>
      intro j r hj hf he;simp only [fitN,Bool.and_eq_true] at hf;obtain ⟨p,q,h1,h2,rfl⟩:=vop k he
      have hfit1:j*k+k<=l.length:=by
       rw [hl,<-hj]
       have:(j+1)*k<=(c+1+j)*k:=Nat.mul_le_mul_right _ (by omega)
       rw [Nat.add_mul,Nat.one_mul] at this;exact this
      have hpos:aggT P e=false->0<k:=fun ha=>by rw [(wa9 hk ha).1];exact Nat.one_pos
      rw [List.range'_succ];have h3:=zdc d hk m (by simp;omega) hf.1 h1 w;simp only [Op.eqItems,Sem.run_bind,wvq hk hfit1 hpos,wvq hk (l:=l') (by rw [<-hll];exact hfit1) hpos,Result.andThen_ok,h3];rw [List.drop_drop,List.drop_drop,show j*k+k=(j+1)*k by rw [Nat.add_mul,Nat.one_mul]] at h2;have hf2:=hf.2;rw [List.drop_drop,show j*k+k=(j+1)*k by rw [Nat.add_mul,Nat.one_mul]] at hf2
      cases p
      . simp
      . simp only [Bool.not_true,Bool.false_eq_true,if_false,Bool.true_and];exact ih (j+1) (by omega) hf2 h2
    rw [List.range_eq_range'];exact key nn 0 (by omega) (by simpa using hfit) (by simpa using he)
   ·
    rename_i fs;split at h
    . cases h
    rename_i hsi;split at h
    case h_2=>cases h
    rename_i nn hff;split at h
    case isFalse=>cases h
    cases h
    have hfo:P.fieldsOf t=fs:=by simp [Program.fieldsOf,hu]
    rw [show d+1+m=d+m+1 by omega,run_equalIn_struct w (d+m) t _ _ (by rw [hfo];exact hu) (by simpa using hsi),hfo]
    have key:∀(fs:List Field) (acc:Nat) {r:Bool},w1m (zl7 P d) fs acc=some n->fitF (fitT P d) P.cellsOf fs (l.drop acc)=true->eqL (l.drop acc) (l'.drop acc)=some r->(Op.eqFields (d+m) l.toArray l'.toArray fs).run P w=.ok r w:=by
     intro fs
     induction fs with
     | nil=>
      intro acc r hf _ he;simp only [w1m,Option.some.injEq] at hf
      have:l.drop acc=[]:=List.drop_eq_nil_of_le (by omega)
      have h2:l'.drop acc=[]:=List.drop_eq_nil_of_le (by omega);rw [this,h2] at he
      cases he;simp [Op.eqFields]
     | cons f fs ih=>
      intro acc r hf hfi he;simp only [w1m] at hf;split at hf
      case h_2=>cases hf
      rename_i k hk;split at hf
      case isFalse=>cases hf
      rename_i hc;simp only [Bool.and_eq_true,bne_iff_ne,ne_eq,beq_iff_eq] at hc;obtain ⟨ie,hie,hse⟩:=wlo hk
      have hce:P.cellsOf f.type=k:=by simp [Program.cellsOf,hie,hse]
      simp only [fitF,hce,Bool.and_eq_true] at hfi;obtain ⟨p,q,h1,h2,rfl⟩:=vop k he
      have hmono:∀(fs:List Field) (a n:Nat),w1m (zl7 P d) fs a=some n->a<=n:=by
       intro fs
       induction fs with
       | nil=>intro a n h;simp only [w1m,Option.some.injEq] at h;omega
       | cons f fs ih=>
        intro a n h;simp only [w1m] at h;split at h
        . split at h
          . have:=ih _ _ h;omega
          . cases h
        . cases h
      have hfit1:acc+k<=l.length:=by have:=hmono _ _ _ hf;omega
      have hpos:aggT P f.type=false->0<k:=fun ha=>by rw [(wa9 hk ha).1];exact Nat.one_pos
      have h3:=zdc d hk m (by simp;omega) hfi.1 h1 w;simp only [Op.eqFields,hc.1,ne_eq,not_false_eq_true,if_true,hc.2,Sem.run_bind,wvq hk hfit1 hpos,wvq hk (l:=l') (by rw [<-hll];exact hfit1) hpos,Result.andThen_ok,h3];rw [List.drop_drop,List.drop_drop] at h2;have hf2:=hfi.2;rw [List.drop_drop] at hf2
      cases p
      . simp
      . simp only [Bool.not_true,Bool.false_eq_true,if_false,Bool.true_and];exact ih (acc+k) hf hf2 h2
    exact key fs.toList 0 hff (by simpa using hfit) (by simpa using he)
def yfz:List HC->Option (List Value)
 | []=>some []
 | .dat (.raw v)::r=>(yfz r).map (v::·)
 | _::_=>none
theorem v7j {η:List SB} {ρ:Nat->Value} {M:Nat->Nat->Prop} {w:World}:∀{hs:List HC} {l vs:List Value},yfz hs=some l->HRL η ρ M w vs hs->vs=l
 | [],l,vs,h,hr=>by
  cases h
  cases vs with
  | nil=>rfl
  | cons _ _=>exact hr.elim
 | x::hs,l,vs,h,hr=>by
  cases vs with
  | nil=>exact hr.elim
  | cons v vs=>
   unfold yfz at h;split at h
   . rename_i heq;cases heq
   . rename_i u r heq
     cases heq;obtain ⟨l',hl,rfl⟩:=Option.map_eq_some_iff.1 h;rw [v7j hl hr.2,RdC.v7q hr.1]
   . cases h
def eqOf (op:BinOp) (r:Bool):Option Bool:=match op with
 | .eql=>some r
 | .neq=>some (!r)
 | _=>none
def wyv (P:Program) (T:TypeId) (op:BinOp) (x y:SV):Option SV:=match x,y with
 | .agg hx,.agg hy=>match yfz hx,yfz hy with
  | some lx,some ly=>if zl7 P 9 T=some lx.length/\aggT P T=true/\P.eqGuardType P.depth T=false/\fitT P 9 T lx=true then
   match eqL lx ly with
   | some r=>(eqOf op r).map fun b=>.one (.dat (.raw (.bool b)))
   | none=>none
   else none
  | _,_=>none
 | _,_=>none
theorem y13 {op:BinOp} {U:TypeId} (ho:o.op=.binOp op T x y U) (hdst:o.dst=some d) {v:SV} (h:wyv P T op (opdS Γ J x) (opdS Γ J y)=some v) :
 x6g Γ P o J η (d::(orr x++orr y)) [] [(d,v)] []:=by
 refine x6g.pure hdst (fun E ρ J' η' a w hag hah hI=>?_);have hx:=hI.opd x;have hy:=hI.opd y;rw [hag.opd (fun t ht=>by simp [ht])] at hx hy;unfold wyv at h;split at h
 case h_2=>cases h
 rename_i hsx hsy ex ey;split at h
 case h_2=>cases h
 rename_i lx ly h1 h2;split at h
 case isFalse=>cases h
 rename_i hc;split at h
 case h_2=>cases h
 rename_i r hr;obtain ⟨b,hb,rfl⟩:=Option.map_eq_some_iff.1 h;rw [ex] at hx;rw [ey] at hy;obtain ⟨vx,hvx,hrx⟩:=hx;obtain ⟨vy,hvy,hry⟩:=hy;rw [v7j h1 hrx] at hvx;rw [v7j h2 hry] at hvy;have hrun:=zdc 9 hc.1 9991 rfl hc.2.2.2 hr w;unfold valT at hrun;rw [hc.2.1] at hrun;simp only [if_true,Nat.reduceAdd] at hrun
 have hg:∀ ox oy,(eqGuard op T ox oy (.agg lx.toArray) (.agg ly.toArray)).run P w=.ok () w:=fun ox oy=>run_eqGuard_agg w op T ox oy _ _ hc.2.2.1
 refine ⟨.bool b,?_,RdC.raw rfl⟩;unfold eqOf at hb;split at hb
 . cases hb;simp only [execOp,ho,hvx,hvy,Sem.run_bind,hg,Result.andThen_ok,run_eql_struct,hrun,Sem.run_pure]
 . cases hb;simp only [execOp,ho,hvx,hvy,Sem.run_bind,hg,Result.andThen_ok,run_neq_struct,hrun,Sem.run_pure]
 . cases hb
def zpa (η:List SB):SV->Option (List Int×List Nat)
 | .one h=>match xf6 η h with
  | some (c,bs)=>(w8m .u8 c).map fun l=>(l,bs)
  | none=>none
 | _=>none
theorem vd7 {S D e:TypeId} (ho:o.op=.convert S D x) (hdst:o.dst=some d) (hS:P.underlying S=some (.slice e)) (he:P.underlying e=some (.int .u8)) (hD:P.underlying D=some .string)
 {l:List Int} {bs:List Nat} (h:zpa η (opdS Γ J x)=some (l,bs)):x6g Γ P o J η (d::orr x) bs [(d,.one (.dat (.raw (.string (strOfNums l)))))] (frzE η bs):=by
 refine x6g.val hdst (fun E ρ J' η' a w hag hah hI=>?_);have hx:=hI.opd x;rw [hag.opd (fun t ht=>by simp [ht])] at hx;unfold zpa at h;split at h
 case h_2=>cases h
 rename_i hc hxe;split at h
 case h_2=>cases h
 rename_i c bs' hd;obtain ⟨l',hl,he'⟩:=Option.map_eq_some_iff.1 h
 cases he';rw [hxe] at hx
 have hgb:∀ b∈bs,gB η' b=gB η b:=fun b hb=>hah.gB hb
 have hd':=y5z hd hgb;obtain ⟨hw1,_,hfz⟩:=Went.frz bs η' hI.inv rfl (v5z hd') (fun _=>.inl rfl);have hx0:HRd η' ρ (MX E.Mo ρ η') w (a.eval x) hc:=hx;have hr:=zrl hw1.inv hd' hfz (HRd.mv hw1.mv hx0);rw [<-y2c hgb];obtain ⟨⟨ad,cap,hv⟩,hcells⟩:=hr.xh8 hl;refine ⟨.string (strOfNums l),w,ρ,?_,hw1,RdC.raw rfl⟩
 have hexec:∀ u,(convert S D (a.eval x)).run P w=.ok u w->(execOp a.eval o).run P w=.ok (.value u) w:=fun u hr=>by
  unfold execOp;rw [ho];simp only [Sem.run_bind,hr,Result.andThen_ok,Sem.run_pure]
 apply hexec;rw [hv]
 rcases hcells with hnil | ⟨b,off,cap',e1,hc⟩
 . have hl0:l=[]:=by simpa using hnil
   subst hl0
   cases ad with
   | none=>rw [run_convert_bytes_nil w S e hS he _ _ D hD];rfl
   | some ad=>
    rw [run_convert_bytes_string w S D e (some ad) _ cap hS he hD,run_bytesToString w ad _ cap [] (by simp [loadCells,loadCellsFrom])];rfl
 . rw [hv] at e1
   cases e1
   exact run_convert_bytes_arg w S e hS he b off l.length _ l rfl (fun i hi=>by
    have:=(hc i (.int .u8 l[i]) (by simp [hi])).2
    rw [this]
    simp [List.getD,hi]) D hD
def wna (P:Program) (t:TypeId):Bool:=match P.underlying t with
 | some (.int _)=>true
 | some .string=>true
 | some .bool=>true
 | _=>false
def keyT (P:Program) (kt:TypeId) (l:List Value):Bool:=match P.underlying kt with
 | some (.struct fs)=>fs.toList.all (fun f=>wna P f.type)&&decide (zl7 P 2 kt=some l.length)&&fitT P 2 kt l
 | _=>false
theorem yfa (h:keyT P kt l=true):∃ fs,P.underlying kt=some (.struct fs)/\(∀ f∈fs.toList,wna P f.type=true)/\zl7 P 2 kt=some l.length/\fitT P 2 kt l=true:=by
 unfold keyT at h;split at h
 . rename_i fs hu;simp only [Bool.and_eq_true,List.all_eq_true,decide_eq_true_eq] at h;exact ⟨fs,hu,h.1.1,h.1.2,h.2⟩
 . cases h
theorem y2k {g:TypeId->Option Nat}:∀(fs:List Field) (a n:Nat),w1m g fs a=some n->a<=n
 | [],a,n,h=>by simp only [w1m,Option.some.injEq] at h;omega
 | f::fs,a,n,h=>by
  simp only [w1m] at h;split at h
  . split at h
    . have:=y2k fs _ _ h;omega
    . cases h
  . cases h
theorem yj4 (h:wna P t=true) (b:Bool) (n:Nat) (v:Value) (w:World):(Instr.checkKey b (n+1) t v).run P w=.ok () w:=by
 unfold wna at h;split at h
 . rename_i hu;simp [Instr.checkKey,y9m hu]
 . rename_i hu;simp [Instr.checkKey,y9m hu]
 . rename_i hu;simp [Instr.checkKey,y9m hu]
 . cases h
theorem vxd (hk:keyT P kt l=true) (b:Bool) (n:Nat) (w:World):(Instr.checkKey b (n+2) kt (.agg l.toArray)).run P w=.ok () w:=by
 obtain ⟨fs,hu,hlf,hfl,hfit⟩:=yfa hk;unfold zl7 at hfl;split at hfl
 case h_2=>cases hfl
 rename_i ds i hu' hi;rw [hu] at hu'
 cases hu';dsimp only at hfl;split at hfl
 . cases hfl
 split at hfl
 case h_2=>cases hfl
 rename_i nn hff;split at hfl
 case isFalse=>cases hfl
 have hnn:=Option.some.inj hfl
 have key:∀(fs:List Field) (acc:Nat),(∀ f∈fs,wna P f.type=true)->w1m (zl7 P 1) fs acc=some nn->∀ w,(forIn (m:=Sem) fs PUnit.unit fun f _=>(do
  if f.name≠"_" then Instr.checkKey b (n+1) f.type (<-part f.type l.toArray f.offset)
  pure (ForInStep.yield PUnit.unit):Sem (ForInStep PUnit))).run P w=.ok () w:=by
  intro fs
  induction fs with
  | nil=>intro acc _ _ w;simp
  | cons f fs ih=>
   intro acc hl hf w;simp only [w1m] at hf;split at hf
   case h_2=>cases hf
   rename_i k hk1;split at hf
   case isFalse=>cases hf
   rename_i hc;simp only [Bool.and_eq_true,bne_iff_ne,beq_iff_eq] at hc;have h1:=ih (acc+k) (fun g hg=>hl g (List.mem_cons_of_mem _ hg)) hf w;have h2:=y2k _ _ _ hf
   have hpos:aggT P f.type=false->0<k:=fun ha=>by rw [(wa9 hk1 ha).1];exact Nat.one_pos
   have h3:=wvq hk1 (l:=l) (off:=f.offset) (by rw [hc.2];omega) hpos w;have h4:=yj4 (hl f (List.mem_cons_self ..)) b n (valT P f.type ((l.drop f.offset).take k)) w;rw [List.forIn_cons];simp only [ne_eq,hc.1,not_false_eq_true,if_true,Sem.run_bind,h3,Result.andThen_ok,h4,Sem.run_pure];exact h1
 have:=key fs.toList 0 hlf hff w
 rw [show n+2=n+1+1 from rfl];rw [Instr.checkKey];simp only [Sem.run_bind,y9m hu,Result.andThen_ok];rw [<-Array.forIn_toList];simp at this ⊢;rw [this];rfl
theorem vjy {l':List Value} (hk:keyT P kt l=true) (he:eqL l l'=some r) (w:World):(Op.equal kt (.agg l.toArray) (.agg l'.toArray)).run P w=.ok r w:=by
 obtain ⟨fs,hu,hlf,hfl,hfit⟩:=yfa hk;have h:=zdc 2 hfl 9998 rfl hfit he w
 have ha:aggT P kt=true:=by unfold aggT;rw [hu]
 unfold valT at h;rw [ha] at h;exact h
theorem y0s (h:kEq (.agg l.toArray) k=some r):∃ l',k=.agg (List.toArray l')/\eqL l l'=some r:=by
 cases k with
 | agg a=>exact ⟨a.toList,by simp,by simpa [kEq] using h⟩
 | _=>cases h
section
variable {η:List SB} {ρ:Nat->Value} {M:Nat->Nat->Prop} {w:World}
theorem zmo {kt:TypeId} {k:List Value} (hk:keyT P kt k=true) (w':World):∀{es:List MapEntry} {l:List (Value×SV)} (i:Nat),EnR η ρ M w es l->∀{r:Option SV},y6f l (.agg k.toArray)=some r->
 (r=none/\(Instr.findAsking kt (.agg k.toArray) es i).run P w'=.ok none w')\/∃ x j v,r=some x/\(Instr.findAsking kt (.agg k.toArray) es i).run P w'=.ok (some (j,v)) w'/\SVR0 η ρ M w v x
 | [],[],i,_,r,h=>by cases h;exact .inl ⟨rfl,rfl⟩
 | e::es,(k',x)::l,i,hr,r,h=>by
  simp only [y6f] at h;have hk1:e.key=k':=hr.1.1;rw [<-hk1] at h;unfold Instr.findAsking;split at h
  . rename_i he
    cases h;obtain ⟨l',e1,e2⟩:=y0s he;refine .inr ⟨x,i,e.val,rfl,?_,hr.1.2⟩;rw [e1];simp only [Sem.run_bind,vjy hk e2,Result.andThen_ok,if_true,Sem.run_pure]
  . rename_i he;obtain ⟨l',e1,e2⟩:=y0s he;rw [e1];simp only [Sem.run_bind,vjy hk e2,Result.andThen_ok,Bool.false_eq_true,if_false];exact zmo hk w' (i+1) hr.2 h
  . cases h
theorem xnv {kt:TypeId} {k:List Value} (hk:keyT P kt k=true) (w':World) {v:Value} {x:SV} (hv:SVR0 η ρ M w v x) (clk:Nat):∀{es:List MapEntry} {l l':List (Value×SV)} (i:Nat),EnR η ρ M w es l->updM l (.agg k.toArray) x=some l'->
 ((Instr.findAsking kt (.agg k.toArray) es i).run P w'=.ok none w'/\EnR η ρ M w (es++[{ key:=.agg k.toArray,val:=v,born:=clk }]) l')\/
 ∃ j u e,(Instr.findAsking kt (.agg k.toArray) es i).run P w'=.ok (some (i+j,u)) w'/\es[j]? = some e/\kEq (.agg k.toArray) e.key=some true/\EnR η ρ M w (es.modify j fun e=>{ e with key:=.agg k.toArray,val:=v }) l'
 | [],[],l',i,_,h=>by cases h;exact .inl ⟨rfl,⟨⟨rfl,hv⟩,trivial⟩⟩
 | e::es,(k',y)::l,l',i,hr,h=>by
  simp only [updM] at h;have hk1:e.key=k':=hr.1.1;rw [<-hk1] at h;unfold Instr.findAsking;split at h
  . rename_i he
    cases h;obtain ⟨l',e1,e2⟩:=y0s he;refine .inr ⟨0,e.val,e,?_,rfl,he,⟨⟨rfl,hv⟩,hr.2⟩⟩;rw [e1];simp only [Sem.run_bind,vjy hk e2,Result.andThen_ok,if_true,Sem.run_pure,Nat.add_zero]
  . rename_i he;obtain ⟨l2,h2,rfl⟩:=Option.map_eq_some_iff.1 h;obtain ⟨l',e1,e2⟩:=y0s he;rw [e1];simp only [Sem.run_bind,vjy hk e2,Result.andThen_ok,Bool.false_eq_true,if_false]
    rcases xnv hk w' hv clk (i+1) hr.2 h2 with ⟨h3,h4⟩ | ⟨j,u,e',h3,h4,h5,h6⟩
    . exact .inl ⟨h3,⟨⟨e1,hr.1.2⟩,h4⟩⟩
    . exact .inr ⟨j+1,u,e',by rw [show i+(j+1)=i+1+j by omega];exact h3,by simpa using h4,h5,⟨⟨e1,hr.1.2⟩,h6⟩⟩
  . cases h
end
theorem y0u {k:List Value} (hk:keyT P kt k=true) (es:List MapEntry) (w:World):(Instr.findKey kt (.agg k.toArray) es).run P w=(Instr.findAsking kt (.agg k.toArray) es 0).run P w:=by
 obtain ⟨fs,hu,_⟩:=yfa hk
 cases es with
 | nil=>simp [Instr.findKey,y9m hu,Instr.findNow,Instr.findAsking]
 | cons e es=>simp [Instr.findKey,y9m hu,Instr.findNow,Instr.sameNow]
theorem ztt (h:kEq0 a b=some true) (n:Nat):Instr.sameBits n b a=true:=by
 cases a<;>cases b<;>simp only [kEq0] at h<;>first | (cases h;done) | skip
 . simp at h;subst h;simp [Instr.sameBits]
 . split at h
   . rename_i e;simp at h;subst e;subst h;simp [Instr.sameBits]
   . cases h
 . have e:=(MapKept.bytes_beq _ _).1 ((beq_toListBytes _ _).trans (Option.some.inj h));subst e;simp only [Instr.sameBits];exact (MapKept.bytes_beq _ _).2 rfl
theorem zer (n:Nat):∀{a b:List Value},eqL a b=some true->(b.zip a).all (fun p=>Instr.sameBits n p.1 p.2)=true
 | [],[],_=>rfl
 | a::as,b::bs,h=>by
  simp only [eqL] at h;split at h
  . rename_i p q h1 h2;simp only [Option.some.injEq,Bool.and_eq_true] at h;rw [h.1] at h1;rw [h.2] at h2;simp only [List.zip_cons_cons,List.all_cons,ztt h1,zer n h2,Bool.and_self]
  . cases h
 | [],_::_,h=>by cases h
 | _::_,[],h=>by cases h
theorem voi {k:List Value} {k':Value} (h:kEq (.agg k.toArray) k'=some true) (n:Nat):Instr.sameBits (n+1) k' (.agg k.toArray)=true:=by
 obtain ⟨l',rfl,he⟩:=y0s h;have h1:=z4s he;have h2:=zer n he;simp only [Instr.sameBits,List.size_toArray,h1,beq_self_eq_true,Bool.true_and];exact h2
def rawL:List HC->Option (List Value)
 | []=>some []
 | .dat (.raw v)::l=>(rawL l).map (v::·)
 | _=>none
theorem yzm {η:List SB} {ρ:Nat->Value} {M:Nat->Nat->Prop} {w:World}:∀{hs:List HC} {l vs:List Value},rawL hs=some l->HRL η ρ M w vs hs->vs=l
 | [],l,[],h,_=>by cases h;rfl
 | .dat (.raw v)::hs,l,u::vs,h,hr=>by
  simp only [rawL] at h;obtain ⟨l',h1,rfl⟩:=Option.map_eq_some_iff.1 h;rw [yzm h1 hr.2,RdC.v7q hr.1]
def keyX:SV->Option Value
 | .one (.dat (.raw v))=>some v
 | .agg hs=>(rawL hs).map fun l=>.agg l.toArray
 | _=>none
def xg7 (P:Program) (kt:TypeId) (sh:Sh):Value->Bool
 | .agg a=>keyT P kt a.toList
 | v=>yt9 sh v
theorem wzh {k:IntKind} {n:Int}:xg7 P kt sh (.int k n)=yt9 sh (.int k n):=rfl
theorem ymr {s:ByteArray}:xg7 P kt sh (.string s)=yt9 sh (.string s):=rfl
theorem v9t {b:Bool}:xg7 P kt sh (.bool b)=yt9 sh (.bool b):=rfl
theorem wle:xg7 P kt sh (.agg l.toArray)=keyT P kt l:=rfl
theorem v1k {ρ:Nat->Value} {M:Nat->Nat->Prop} {w:World} {x:SV} {v:Value} (h:keyX x=some k) (hr:SVR η ρ M w v x):v=k:=by
 unfold keyX at h;split at h
 . cases h;exact RdC.v7q hr
 . obtain ⟨l,h1,rfl⟩:=Option.map_eq_some_iff.1 h;obtain ⟨vs,rfl,hr⟩:=hr;rw [yzm h1 hr]
 . cases h
theorem yfl {x:SV} (h:keyX x=some k) (hk:∀ a,k≠.agg a):keyV x=some k:=by
 unfold keyX at h;split at h
 . cases h;rfl
 . obtain ⟨l,h1,rfl⟩:=Option.map_eq_some_iff.1 h;exact absurd rfl (hk _)
 . cases h
theorem wxt (h:xg7 P kt sh k=true) (hk:∀ a,k≠.agg a):yt9 sh k=true:=by
 unfold xg7 at h;split at h
 . exact absurd rfl (hk _)
 . exact h
theorem ymw {ok:Bool} {b:Nat} (ho:o.op=.lookup T x y ok) (hdst:o.dst=some d) (hti:mkTI P T=some ti) (hsh:ti.sh=.map kt et) (htk:mkTI P kt=some tk)
 (hm:wox η (opdS Γ J x)=some (b,es)) (hkv:keyX (opdS Γ J y)=some k) (hk:xg7 P kt tk.sh k=true) {r:Option SV} (hr:y6f es k=some r) {zero:SV} (hz:zxg P et=some zero) :
 x6g Γ P o J η (d::(orr x++orr y)) [b] [(d,wnl ok r zero)] []:=by
 by_cases hag0:∀ a,k≠.agg a
 . exact y4c ho hdst hti hsh htk hm (yfl hkv hag0) (wxt hk hag0) hr hz
 obtain ⟨ka,hka⟩:=Classical.not_forall.1 hag0;have hka:=Classical.not_not.1 hka;subst hka;obtain ⟨kl,rfl⟩:∃ kl,ka=List.toArray kl:=⟨ka.toList,by simp⟩
 have hkt:keyT P kt kl=true:=by simpa [xg7] using hk
 refine x6g.pure hdst (fun E ρ J' η' a w hag hah hI=>?_);have hx:=hI.opd x;have hy:=hI.opd y;rw [hag.opd (fun t ht=>by simp [ht])] at hx hy;unfold wox at hm;split at hm
 case h_2=>cases hm
 rename_i b' hxe;split at hm
 case h_2=>cases hm
 rename_i es' hb
 cases hm;rw [hxe] at hx
 have hb':gB η' b=.map es:=by rw [hah.gB (by simp)];exact hb
 obtain ⟨bb,ents,clk,he,hh,hen,hB⟩:=hI.sbr hb' (by simp);have hkey:=v1k hkv hy;obtain ⟨dd,i,z,hd,hi,hz',_,_,_,_,_,hsh'⟩:=(xat hti).ex;have hmap:=ywi (hsh'.symm.trans hsh);subst hmap
 have hmv:a.eval x=.map (some bb):=by rw [hx.2.1,he]
 obtain ⟨zv,hzrun,hzr⟩:=wtb hz;have hck:=vxd hkt ents.isEmpty 9998 w
 have hrun:∀ fo,(Instr.findAsking kt (.agg kl.toArray) ents.toList 0).run P w=.ok fo w->(Instr.lookup T (.map (some bb)) (.agg kl.toArray) ok).run P w=.ok (if ok then .tuple #[(fo.map (·.2)).getD zv,.bool fo.isSome] else (fo.map (·.2)).getD zv) w:=fun fo hfo=>by
  cases fo with
  | none=>cases ok<;>simp [Instr.lookup,y9m hd,getObj,Sem.run,hh,hck,y0u hkt,hfo,hzrun]
  | some p=>cases ok<;>simp [Instr.lookup,y9m hd,getObj,Sem.run,hh,hck,y0u hkt,hfo]
 rcases zmo hkt w 0 hen hr with ⟨rfl,hf⟩ | ⟨xx,j,v,rfl,hf,hv⟩
 . refine ⟨_,by simp only [execOp,ho,hmv,hkey,Sem.run_bind,hrun _ hf];rfl,?_⟩
   cases ok
   . exact SVR.of0 (hzr _ _ _ _)
   . exact ⟨[zv,.bool false],rfl,hzr _ _ _ _,RdC.raw rfl,trivial⟩
 . refine ⟨_,by simp only [execOp,ho,hmv,hkey,Sem.run_bind,hrun _ hf];rfl,?_⟩
   cases ok
   . exact SVR.of0 hv
   . exact ⟨[v,.bool true],rfl,hv,RdC.raw rfl,trivial⟩
theorem z1r {z:Operand} {b:Nat} (ho:o.op=.mapUpdate T x y z) (hdst:o.dst=none) (hti:mkTI P T=some ti) (hsh:ti.sh=.map kt et) (htk:mkTI P kt=some tk)
 {es':List (Value×SV)} (hm:wox η (opdS Γ J x)=some (b,es)) (hkv:keyX (opdS Γ J y)=some k) (hk:xg7 P kt tk.sh k=true) (hn:y5y (opdS Γ J z)=true) (hu:updM es k (opdS Γ J z)=some es') :
 x6g Γ P o J η (orr x++orr y++orr z) [b] [] [(b,.map es')]:=by
 by_cases hag0:∀ a,k≠.agg a
 . exact vr2 (.inl ho) hdst hti hsh htk hm (yfl hkv hag0) (wxt hk hag0) hn hu
 obtain ⟨ka,hka⟩:=Classical.not_forall.1 hag0;have hka:=Classical.not_not.1 hka;subst hka;obtain ⟨kl,rfl⟩:∃ kl,ka=List.toArray kl:=⟨ka.toList,by simp⟩
 have hkt:keyT P kt kl=true:=by simpa [xg7] using hk
 refine x6g.skip hdst (fun E ρ J' η' a w hag hah hI=>?_);have hx:=hI.opd x;have hy:=hI.opd y;have hz:=hI.opd z;rw [hag.opd (fun t ht=>by simp [ht])] at hx hy hz;unfold wox at hm;split at hm
 case h_2=>cases hm
 rename_i b' hxe;split at hm
 case h_2=>cases hm
 rename_i es0 hb
 cases hm;rw [hxe] at hx
 have hb':gB η' b=.map es:=by rw [hah.gB (by simp)];exact hb
 obtain ⟨bb,ents,clk,he,hh,hen,hB⟩:=hI.sbr hb' (by simp);have hkey:=v1k hkv hy;obtain ⟨dd,i,zz,hd,hi,hz',_,_,_,_,_,hsh'⟩:=(xat hti).ex;have hmap:=ywi (hsh'.symm.trans hsh);subst hmap
 have hmv:a.eval x=.map (some bb):=by rw [hx.2.1,he]
 have hck:=vxd hkt false 9998 w
 have hbk:bk (ρ b)=bb:=by rw [he];rfl
 have fin:∀ ob:Obj,(∃ en' clk',ob=.map en' clk'/\EnR η' ρ (MX E.Mo ρ η') w en'.toList es'/\z5q en' clk')->(Instr.mapUpdate T (.map (some bb)) (.agg kl.toArray) (a.eval z)).run P w=.ok () { w with heap:=w.heap.setIfInBounds bb ob }->
  ∃ w' ρ',(execOp a.eval o).run P w=.ok .skip w'/\Went Γ E.Mo ρ η' w ρ' (appL [(b,.map es')] η') w':=fun ob hob hrun=>by
  obtain ⟨en',clk',rfl,hen',hB'⟩:=hob;have hlt:bb<w.heap.size:=(Array.getElem?_eq_some_iff.1 hh).1;refine ⟨{ w with heap:=w.heap.setIfInBounds bb (.map en' clk') },ρ,?_,Went.write hI.inv (w5n hb' (by simp)) rfl (by rw [he];simp [real]) rfl (fun o=>Iff.rfl) (by simp) rfl rfl rfl (fun kk hkk=>?_) (fun i arr T fz hi'=>?_) (fun oo u _ hc=>?_) (fun m=>⟨bb,en',clk',he,by simp [hlt],hen'.mv m,hB'⟩)⟩
  . simp [execOp,ho,hmv,hkey,hrun]
  . rw [hbk] at hkk;simp only [Array.getElem?_setIfInBounds_ne (Ne.symm hkk)]
  . by_cases e:i=bb
    . subst e;rw [hh] at hi';cases hi'
    . exact ⟨arr,T,fz,by simp only [Array.getElem?_setIfInBounds_ne (Ne.symm e)];exact hi',Nat.le_refl _⟩
  . rw [hbk] at hc;simp [World.cell?,hh] at hc
 rcases xnv hkt w (hz.to0 hn) clk 0 hen hu with ⟨hf,hen'⟩ | ⟨j,u,e,hf,hj,hq,hen'⟩
 . refine fin (.map (ents.push { key:=.agg kl.toArray,val:=a.eval z,born:=clk }) (clk+1)) ⟨_,_,rfl,by simpa using hen',hB.push _ _⟩ ?_;simp [Instr.mapUpdate,y9m hd,getObj,setObj,Sem.run,hh,hck,y0u hkt,hf]
 . refine fin (.map (ents.modify j fun e=>{ e with key:=.agg kl.toArray,val:=a.eval z }) clk) ⟨_,_,rfl,by simpa using hen',hB.modify _ _ (fun _=>rfl)⟩ ?_;rw [Nat.zero_add] at hf
   have hj':ents[j]? = some e:=by simpa using hj
   have hsb:=voi hq 9999;simp [Instr.mapUpdate,y9m hd,getObj,setObj,Sem.run,hh,hck,y0u hkt,hf,Instr.keyThatStays,hj',hsb]
end Go.Hp
