/- The proof, part X15: Hj, Hl, Hy. -/
import Derived.Test.YtpkininnjhbeaaaGreatDoorX14
import Derived.Test.YtpkininnjhbeaaaGreatDoorX13
import Derived.ChangeKeysEq
import Derived.Laws.BytesArg
import Derived.Lib.UnsafeStr
import Derived.Lib.Builder
import Derived.LaidEql
import Derived.Laws.Externs
import Derived.KernelRfl
namespace Go.Hp
open Go Go.RowKit Go.Slot
variable {P:Program} {Γ:List (Nat×List Cell)}
variable {t T S D e:TypeId} {ds:TypeDesc} {l:List Int} {off b es m:Nat} {r:Bool} {o:Oper} {I:List SV} {J J':List SB} {x y:Operand} {v:Value} {j:TypeInfo} {f:FuncId} {ts:Array TypeId} {rs:List (List Cell)} {rb:List Nat} {z:SB}
def eqL:List Value->List Value->Option Bool
 | [],[]=>some true
 | a::as,b::bs=>match kEq a b,eqL as bs with
  | some p,some q=>some (p&&q)
  | _,_=>none
 | _,_=>none
def v2z (g:TypeId->Option Nat):List Field->Nat->Option Nat
 | [],acc=>some acc
 | f::fs,acc=>match g f.type with
  | some k=>if f.name != "_" &&f.offset==acc then v2z g fs (acc+k) else none
  | none=>none
def v2p (P:Program):Nat->TypeId->Option Nat
 | 0,_=>none
 | d + 1, t => match P.underlying t, P.info? t with
  | some ds,some i=>match ds with
   | .int _=>if i.size==1 then some 1 else none
   | .string=>if i.size==1 then some 1 else none
   | .bool=>if i.size==1 then some 1 else none
   | .array n e=>match v2p P d e with
    | some k=>if i.size==n*k then some (n*k) else none
    | none=>none
   | .struct fs=>if P.stoodInHeld t then none else match v2z (v2p P d) fs.toList 0 with
    | some n=>if i.size==n then some n else none
    | none=>none
   | _=>none
  | _,_=>none
def aggT (P:Program) (t:TypeId):Bool:=match P.underlying t with
 | some (.struct _)=>true
 | some (.array _ _)=>true
 | _=>false
def valT (P:Program) (t:TypeId) (l:List Value):Value:=if aggT P t then .agg l.toArray else l.getD 0 Go.undef
theorem xog:∀{a b:List Value} {r:Bool},eqL a b=some r->a.length=b.length
 | [],[],_,_=>rfl
 | a::as,b::bs,r,h=>by
  simp only [eqL] at h;split at h
  . rename_i p q h1 h2;simp [xog h2]
  . cases h
theorem x9b:∀(k:Nat) {a b:List Value} {r:Bool},eqL a b=some r->∃ p q,eqL (a.take k) (b.take k)=some p/\eqL (a.drop k) (b.drop k)=some q/\r=(p&&q)
 | 0,a,b,r,h=>⟨true,r,by simp [eqL],by simpa using h,by simp⟩
 | k+1,[],[],r,h=>⟨true,true,by simp [eqL],by simp [eqL],by simp [eqL] at h;simp [h]⟩
 | k+1,[],_::_,r,h=>by simp [eqL] at h
 | k+1,_::_,[],r,h=>by simp [eqL] at h
 | k+1,a::as,b::bs,r,h=>by
  simp only [eqL] at h;split at h
  . rename_i p q h1 h2
    cases h;obtain ⟨p',q',h3,h4,rfl⟩:=x9b k h2;exact ⟨p&&p',q',by simp [eqL,h1,h3],by simpa using h4,by simp [Bool.and_assoc]⟩
  . cases h
theorem yow {d : Nat} {n : Nat} (h : v2p P d t = some n) : ∃ i, P.info? t = some i ∧ i.size = n := by
 cases d with
 | zero=>cases h
 | succ d=>
  unfold v2p at h;split at h
  . rename_i ds i hu hi;refine ⟨i,hi,?_⟩;split at h
    . split at h
      . rename_i hs;cases h;simpa using hs
      . cases h
    . split at h
      . rename_i hs;cases h;simpa using hs
      . cases h
    . split at h
      . rename_i hs;cases h;simpa using hs
      . cases h
    . split at h
      . split at h
        . rename_i hs;cases h;simpa using hs
        . cases h
      . cases h
    . split at h
      . cases h
      . split at h
        . split at h
          . rename_i hs;cases h;simpa using hs
          . cases h
        . cases h
    . cases h
  . cases h
theorem zhg (hu:P.underlying t=some ds) (w:World):(isAgg t).run P w=.ok (aggT P t) w:=by
 unfold aggT;rw [hu]
 cases ds<;>simp [isAgg,w9c hu]
theorem vit {d:Nat} {n:Nat} (h:v2p P d t=some n):∃ ds,P.underlying t=some ds:=by
 cases d with
 | zero=>cases h
 | succ d=>
  unfold v2p at h;split at h
  . rename_i ds i hu hi;exact ⟨ds,hu⟩
  . cases h
theorem wyg {d:Nat} {k:Nat} (h:v2p P d t=some k) {l:List Value} (hfit:off+k<=l.length) (hk:aggT P t=false->0<k) (w:World):(part t l.toArray off).run P w=.ok (valT P t ((l.drop off).take k)) w:=by
 obtain ⟨ds,hu⟩:=vit h;obtain ⟨i,hi,hs⟩:=yow h;unfold part valT;simp only [Sem.run_bind,zhg hu,Result.andThen_ok]
 cases ha:aggT P t
 . have hk:=hk ha
   have hlt:off<l.length:=by omega
   simp only [Bool.false_eq_true,if_false,List.getElem?_toArray,List.getElem?_eq_getElem hlt,Sem.run_pure]
   congr 1
   rw [List.getD_eq_getElem?_getD,List.getElem?_take,if_pos hk,List.getElem?_drop,Nat.add_zero,List.getElem?_eq_getElem hlt];rfl
 . simp only [if_true,Sem.run_bind,yyt hi,hs,Result.andThen_ok,Sem.run_pure]
   congr 1
   simp [List.extract_eq_take_drop]
theorem xyg {d:Nat} {n:Nat} (h:v2p P d t=some n) (ha:aggT P t=false):n=1/\∃ ds,P.underlying t=some ds/\((∃ k,ds=.int k)\/ds=.string\/ds=.bool):=by
 cases d with
 | zero=>cases h
 | succ d=>
  unfold v2p at h;split at h
  . rename_i ds i hu hi;unfold aggT at ha;rw [hu] at ha;split at h
    . split at h<;>cases h;exact ⟨rfl,_,hu,.inl ⟨_,rfl⟩⟩
    . split at h<;>cases h;exact ⟨rfl,_,hu,.inr (.inl rfl)⟩
    . split at h<;>cases h;exact ⟨rfl,_,hu,.inr (.inr rfl)⟩
    . cases ha
    . cases ha
    . cases h
  . cases h
theorem v6r (hu:P.underlying t=some ds) (hd:(∃ k,ds=.int k)\/ds=.string\/ds=.bool) {a b:Value} (h:kEq a b=some r) (ht:(∀ k,ds=.int k->∃ q n,a=.int q n)/\(ds=.string->∃ s,a=.string s)/\(ds=.bool->∃ p,a=.bool p)) (d:Nat) (w:World) :
 (Op.equalIn (d+1) t a b).run P w=.ok r w:=by
 rcases hd with ⟨k,rfl⟩ | rfl | rfl
 . obtain ⟨q,n,rfl⟩:=ht.1 k rfl
   cases b<;>simp only [kEq] at h<;>first | (cases h;done) | skip
   split at h
   . rename_i e;subst e;cases h;simp [Op.equalIn,w9c hu]
   . cases h
 . obtain ⟨s,rfl⟩:=ht.2.1 rfl
   cases b<;>simp only [kEq] at h<;>first | (cases h;done) | skip
   cases h;simp [Op.equalIn,w9c hu,beq_toListBytes,seq]
 . obtain ⟨p,rfl⟩:=ht.2.2 rfl
   cases b<;>simp only [kEq] at h<;>first | (cases h;done) | skip
   cases h;simp [Op.equalIn,w9c hu]
def fitD:TypeDesc->Value->Bool
 | .int k,.int k' _=>k==k'
 | .string,.string _=>true
 | .bool,.bool _=>true
 | _,_=>false
def fitF (g:TypeId->List Value->Bool) (sz:TypeId->Nat):List Field->List Value->Bool
 | [],_=>true
 | f::fs,l=>g f.type (l.take (sz f.type))&&fitF g sz fs (l.drop (sz f.type))
def fitN (g:List Value->Bool) (k:Nat):Nat->List Value->Bool
 | 0,_=>true
 | n+1,l=>g (l.take k)&&fitN g k n (l.drop k)
def fitT (P:Program):Nat->TypeId->List Value->Bool
 | 0,_,_=>false
 | d+1,t,l=>match P.underlying t with
  | some (.array n e)=>fitN (fitT P d e) (P.cellsOf e) n l
  | some (.struct fs)=>fitF (fitT P d) P.cellsOf fs.toList l
  | some ds=>match l with
   | [v]=>fitD ds v
   | _=>false
  | none=>false
theorem x5j:∀(d:Nat) {t:TypeId} {n:Nat},v2p P d t=some n->∀(m:Nat) {l l':List Value} {r:Bool},l.length=n->fitT P d t l=true->eqL l l'=some r->∀ w,(Op.equalIn (d+m) t (valT P t l) (valT P t l')).run P w=.ok r w
 | 0,_,_,h=>by cases h
 | d + 1, t, n, h => fun m l l' r hl hfit he w => by
  have hll:=xog he
  cases ha:aggT P t with
  | false=>
   obtain ⟨rfl,ds,hu,hd⟩:=xyg h ha;unfold fitT at hfit;rw [hu] at hfit
   match l,l',hl,hll,he with
   | [a],[b],_,_,he=>
    unfold valT;rw [ha];simp only [Bool.false_eq_true,if_false,List.getD_cons_zero]
    have hk:kEq a b=some r:=by
     simp only [eqL] at he;split at he
     . rename_i p q h1 h2;cases h2;cases he;rw [h1];simp
     . cases he
    rw [show d+1+m=d+m+1 by omega];refine v6r hu hd hk ?_ (d+m) w
    rcases hd with ⟨k,rfl⟩ | rfl | rfl
    . refine ⟨fun k' _=>?_,fun e=>(by cases e),fun e=>(by cases e)⟩
      cases a<;>simp [fitD] at hfit
      exact ⟨_,_,rfl⟩
    . refine ⟨fun k' e=>(by cases e),fun _=>?_,fun e=>(by cases e)⟩
      cases a<;>simp [fitD] at hfit
      exact ⟨_,rfl⟩
    . refine ⟨fun k' e=>(by cases e),fun e=>(by cases e),fun _=>?_⟩
      cases a<;>simp [fitD] at hfit
      exact ⟨_,rfl⟩
  | true=>
   unfold valT;rw [ha];simp only [if_true];unfold v2p at h;split at h
   case h_2=>cases h
   rename_i ds i hu hi;unfold fitT at hfit;rw [hu] at hfit;split at h
   case h_1 | h_2 | h_3 | h_6=>first | (unfold aggT at ha;rw [hu] at ha;cases ha) | cases h
   ·
    rename_i nn e;split at h
    case h_2=>cases h
    rename_i k hk;split at h
    case isFalse=>cases h
    cases h;obtain ⟨ie,hie,hse⟩:=yow hk
    have hce:P.cellsOf e=k:=by simp [Program.cellsOf,hie,hse]
    rw [show d+1+m=d+m+1 by omega,run_equalIn_array w (d+m) l.toArray l'.toArray hu hie,hce];simp only [hce] at hfit
    have key:∀(c j:Nat) {r:Bool},c+j=nn->fitN (fitT P d e) k c (l.drop (j*k))=true->eqL (l.drop (j*k)) (l'.drop (j*k))=some r->(Op.eqItems (d+m) e k l.toArray l'.toArray (List.range' j c)).run P w=.ok r w:=by
     intro c
     induction c with
     | zero=>
      intro j r hj _ he
      have:l.drop (j*k)=[]:=List.drop_eq_nil_of_le (by rw [hl,<-hj];simp)
      have h2:l'.drop (j*k)=[]:=List.drop_eq_nil_of_le (by rw [<-hll,hl,<-hj];simp);rw [this,h2] at he
      cases he;simp [Op.eqItems]
     | succ c ih=>
      intro j r hj hf he;simp only [fitN,Bool.and_eq_true] at hf;obtain ⟨p,q,h1,h2,rfl⟩:=x9b k he
      have hfit1:j*k+k<=l.length:=by
       rw [hl,<-hj]
       have:(j+1)*k<=(c+1+j)*k:=Nat.mul_le_mul_right _ (by omega)
       rw [Nat.add_mul,Nat.one_mul] at this;exact this
      have hpos:aggT P e=false->0<k:=fun ha=>by rw [(xyg hk ha).1];exact Nat.one_pos
      rw [List.range'_succ];have h3:=x5j d hk m (by simp;omega) hf.1 h1 w;simp only [Op.eqItems,Sem.run_bind,wyg hk hfit1 hpos,wyg hk (l:=l') (by rw [<-hll];exact hfit1) hpos,Result.andThen_ok,h3];rw [List.drop_drop,List.drop_drop,show j*k+k=(j+1)*k by rw [Nat.add_mul,Nat.one_mul]] at h2;have hf2:=hf.2;rw [List.drop_drop,show j*k+k=(j+1)*k by rw [Nat.add_mul,Nat.one_mul]] at hf2
      cases p
      . simp
      . simp only [Bool.not_true,Bool.false_eq_true,if_false,Bool.true_and];exact ih (j+1) (by omega) hf2 h2
    rw [List.range_eq_range'];exact key nn 0 (by omega) (by simpa using hfit) (by simpa using he)
   ·
    rename_i fs;split at h
    . cases h
    rename_i hsi;split at h
    case h_2=>cases h
    rename_i nn hff;split at h
    case isFalse=>cases h
    cases h
    have hfo:P.fieldsOf t=fs:=by simp [Program.fieldsOf,hu]
    rw [show d+1+m=d+m+1 by omega,run_equalIn_struct w (d+m) t _ _ (by rw [hfo];exact hu) (by simpa using hsi),hfo]
    have key:∀(fs:List Field) (acc:Nat) {r:Bool},v2z (v2p P d) fs acc=some n->fitF (fitT P d) P.cellsOf fs (l.drop acc)=true->eqL (l.drop acc) (l'.drop acc)=some r->(Op.eqFields (d+m) l.toArray l'.toArray fs).run P w=.ok r w:=by
     intro fs
     induction fs with
     | nil=>
      intro acc r hf _ he;simp only [v2z,Option.some.injEq] at hf
      have:l.drop acc=[]:=List.drop_eq_nil_of_le (by omega)
      have h2:l'.drop acc=[]:=List.drop_eq_nil_of_le (by omega);rw [this,h2] at he
      cases he;simp [Op.eqFields]
     | cons f fs ih=>
      intro acc r hf hfi he;simp only [v2z] at hf;split at hf
      case h_2=>cases hf
      rename_i k hk;split at hf
      case isFalse=>cases hf
      rename_i hc;simp only [Bool.and_eq_true,bne_iff_ne,ne_eq,beq_iff_eq] at hc;obtain ⟨ie,hie,hse⟩:=yow hk
      have hce:P.cellsOf f.type=k:=by simp [Program.cellsOf,hie,hse]
      simp only [fitF,hce,Bool.and_eq_true] at hfi;obtain ⟨p,q,h1,h2,rfl⟩:=x9b k he
      have hmono:∀(fs:List Field) (a n:Nat),v2z (v2p P d) fs a=some n->a<=n:=by
       intro fs
       induction fs with
       | nil=>intro a n h;simp only [v2z,Option.some.injEq] at h;omega
       | cons f fs ih=>
        intro a n h;simp only [v2z] at h;split at h
        . split at h
          . have:=ih _ _ h;omega
          . cases h
        . cases h
      have hfit1:acc+k<=l.length:=by have:=hmono _ _ _ hf;omega
      have hpos:aggT P f.type=false->0<k:=fun ha=>by rw [(xyg hk ha).1];exact Nat.one_pos
      have h3:=x5j d hk m (by simp;omega) hfi.1 h1 w;simp only [Op.eqFields,hc.1,ne_eq,not_false_eq_true,if_true,hc.2,Sem.run_bind,wyg hk hfit1 hpos,wyg hk (l:=l') (by rw [<-hll];exact hfit1) hpos,Result.andThen_ok,h3];rw [List.drop_drop,List.drop_drop] at h2;have hf2:=hfi.2;rw [List.drop_drop] at hf2
      cases p
      . simp
      . simp only [Bool.not_true,Bool.false_eq_true,if_false,Bool.true_and];exact ih (acc+k) hf hf2 h2
    exact key fs.toList 0 hff (by simpa using hfit) (by simpa using he)
def zk2:List HC->Option (List Value)
 | []=>some []
 | .dat (.raw v)::r=>(zk2 r).map (v::·)
 | _::_=>none
theorem w4o {J:List SB} {ρ:Nat->Value} {M:Nat->Nat->Prop} {w:World}:∀{hs:List HC} {l vs:List Value},zk2 hs=some l->HRL J ρ M w vs hs->vs=l
 | [],l,vs,h,hr=>by
  cases h
  cases vs with
  | nil=>rfl
  | cons _ _=>exact hr.elim
 | x::hs,l,vs,h,hr=>by
  cases vs with
  | nil=>exact hr.elim
  | cons v vs=>
   unfold zk2 at h;split at h
   . rename_i heq;cases heq
   . rename_i u r heq
     cases heq;obtain ⟨l',hl,rfl⟩:=Option.map_eq_some_iff.1 h;rw [w4o hl hr.2,RdC.x18 hr.1]
   . cases h
def eqOf (op:BinOp) (r:Bool):Option Bool:=match op with
 | .eql=>some r
 | .neq=>some (!r)
 | _=>none
def yxi (P:Program) (T:TypeId) (op:BinOp) (x y:SV):Option SV:=match x,y with
 | .agg hx,.agg hy=>match zk2 hx,zk2 hy with
  | some lx,some ly=>if v2p P 9 T=some lx.length/\aggT P T=true/\P.eqGuardType P.depth T=false/\fitT P 9 T lx=true then
   match eqL lx ly with
   | some r=>(eqOf op r).map fun b=>.one (.dat (.raw (.bool b)))
   | none=>none
   else none
  | _,_=>none
 | _,_=>none
theorem z9c {op:BinOp} {U:TypeId} {d:Nat} (ho:o.op=.binOp op T x y U) (hdst:o.dst=some d) {v:SV} (h:yxi P T op (opdS Γ I x) (opdS Γ I y)=some v) :
 vbd Γ P o I J (d::(orr x++orr y)) [] [(d,v)] []:=by
 refine vbd.pure hdst (fun E ρ I' J' a w hag hah hI=>?_);have hx:=hI.opd x;have hy:=hI.opd y;rw [hag.opd (fun t ht=>by simp [ht])] at hx hy;unfold yxi at h;split at h
 case h_2=>cases h
 rename_i hsx hsy ex ey;split at h
 case h_2=>cases h
 rename_i lx ly h1 h2;split at h
 case isFalse=>cases h
 rename_i hc;split at h
 case h_2=>cases h
 rename_i r hr;obtain ⟨b,hb,rfl⟩:=Option.map_eq_some_iff.1 h;rw [ex] at hx;rw [ey] at hy;obtain ⟨vx,hvx,hrx⟩:=hx;obtain ⟨vy,hvy,hry⟩:=hy;rw [w4o h1 hrx] at hvx;rw [w4o h2 hry] at hvy;have hrun:=x5j 9 hc.1 9991 rfl hc.2.2.2 hr w;unfold valT at hrun;rw [hc.2.1] at hrun;simp only [if_true,Nat.reduceAdd] at hrun
 have hg:∀ ox oy,(eqGuard op T ox oy (.agg lx.toArray) (.agg ly.toArray)).run P w=.ok () w:=fun ox oy=>run_eqGuard_agg w op T ox oy _ _ hc.2.2.1
 refine ⟨.bool b,?_,RdC.raw rfl⟩;unfold eqOf at hb;split at hb
 . cases hb;simp only [execOp,ho,hvx,hvy,Sem.run_bind,hg,Result.andThen_ok,run_eql_struct,hrun,Sem.run_pure]
 . cases hb;simp only [execOp,ho,hvx,hvy,Sem.run_bind,hg,Result.andThen_ok,run_neq_struct,hrun,Sem.run_pure]
 . cases hb
def wha (J:List SB):SV->Option (List Int×List Nat)
 | .one h=>match zyf J h with
  | some (c,bs)=>(wxa .u8 c).map fun l=>(l,bs)
  | none=>none
 | _=>none
theorem zcf {d:Nat} (ho:o.op=.convert S D x) (hdst:o.dst=some d) (hS:P.underlying S=some (.slice e)) (he:P.underlying e=some (.int .u8)) (hD:P.underlying D=some .string)
 {bs:List Nat} (h:wha J (opdS Γ I x)=some (l,bs)):vbd Γ P o I J (d::orr x) bs [(d,.one (.dat (.raw (.string (strOfNums l)))))] (frzE J bs):=by
 refine vbd.val hdst (fun E ρ I' J' a w hag hah hI=>?_);have hx:=hI.opd x;rw [hag.opd (fun t ht=>by simp [ht])] at hx;unfold wha at h;split at h
 case h_2=>cases h
 rename_i hc hxe;split at h
 case h_2=>cases h
 rename_i c bs' hd;obtain ⟨l',hl,he'⟩:=Option.map_eq_some_iff.1 h
 cases he';rw [hxe] at hx
 have hgb:∀ b∈bs,gB J' b=gB J b:=fun b hb=>hah.gB hb
 have hd':=xm5 hd hgb;obtain ⟨hw1,_,hfz⟩:=Went.frz bs J' hI.inv rfl (wtq hd') (fun _=>.inl rfl);have hx0:HRd J' ρ (MX E.Mo ρ J') w (a.eval x) hc:=hx;have hr:=yw5 hw1.inv hd' hfz (HRd.mv hw1.mv hx0);rw [<-zii hgb];obtain ⟨⟨ad,cap,hv⟩,hcells⟩:=hr.v7h hl;refine ⟨.string (strOfNums l),w,ρ,?_,hw1,RdC.raw rfl⟩
 have hexec:∀ u,(convert S D (a.eval x)).run P w=.ok u w->(execOp a.eval o).run P w=.ok (.value u) w:=fun u hr=>by
  unfold execOp;rw [ho];simp only [Sem.run_bind,hr,Result.andThen_ok,Sem.run_pure]
 apply hexec;rw [hv]
 rcases hcells with hnil | ⟨b,off,cap',e1,hc⟩
 . have hl0:l=[]:=by simpa using hnil
   subst hl0
   cases ad with
   | none=>rw [run_convert_bytes_nil w S e hS he _ _ D hD];rfl
   | some ad=>
    rw [run_convert_bytes_string w S D e (some ad) _ cap hS he hD,run_bytesToString w ad _ cap [] (by simp [loadCells,loadCellsFrom])];rfl
 . rw [hv] at e1
   cases e1
   exact run_convert_bytes_arg w S e hS he b off l.length _ l rfl (fun i hi=>by
    have:=(hc i (.int .u8 l[i]) (by simp [hi])).2
    rw [this]
    simp [List.getD,hi]) D hD
def zbh:SV->Option Bool
 | .one (.dat (.raw (.pointer none)))=>some true
 | .one (.ptr _ _) | .one (.pel _ _ _ _) | .elt _=>some false
 | _=>none
def wcj:SV->SV->Bool
 | .one (.ptr b f),.one (.ptr b' f')=>b==b'&&f==f'
 | _,_=>false
def xra (op:BinOp) (x y:SV):Option SV:=match zbh y with
 | some true=>match zbh x with
  | some r=>(eqOf op r).map fun b=>.one (.dat (.raw (.bool b)))
  | none=>none
 | _=>match wcj x y with
  | true=>(eqOf op true).map fun b=>.one (.dat (.raw (.bool b)))
  | false=>none
theorem x0o (hT:P.underlying T=some (.pointer t)) (v:Value) (r:Bool) (hv:(r=true/\v=.pointer none)\/(r=false/\∃ a,v=.pointer (some a))) (d:Nat) (w:World):(Op.equalIn (d+1) T v (.pointer none)).run P w=.ok r w:=by
 rcases hv with ⟨rfl,rfl⟩ | ⟨rfl,a,rfl⟩<;>simp [Op.equalIn,w9c hT]
theorem y4d (hT:P.underlying T=some (.pointer t)) (ht:P.info? t=some j) (a:Addr) (d:Nat) (w:World):(Op.equalIn (d+1) T (.pointer (some a)) (.pointer (some a))).run P w=.ok true w:=by
 simp [Op.equalIn,w9c hT,sizeOf,typeInfo,ht,run_sameAddr_same]
theorem w2q {op:BinOp} {x y:Option Addr} {b:Bool} (hb:eqOf op r=some b) (h:∀ d w,(Op.equalIn (d+1) T (.pointer x) (.pointer y)).run P w=.ok r w) (w:World):(binOp op T (.pointer x) (.pointer y)).run P w=.ok (.bool b) w:=by
 unfold eqOf at hb
 split at hb<;>first | (cases hb;done) | skip
 . cases hb;simp only [binOp];simp [Op.equal,Op.maxDepth,h 9999]
 . cases hb;simp only [binOp];simp [Op.equal,Op.maxDepth,h 9999]
theorem vrx {op:BinOp} {U:TypeId} {d:Nat} (ho:o.op=.binOp op T x y U) (hdst:o.dst=some d) (hT:P.underlying T=some (.pointer t)) (ht:P.info? t=some j) {v:SV}
 (h:xra op (opdS Γ I x) (opdS Γ I y)=some v):vbd Γ P o I J (d::(orr x++orr y)) [] [(d,v)] []:=by
 refine vbd.pure hdst (fun E ρ I' J' a w hag hah hI=>?_);have hx:=hI.opd x;have hy:=hI.opd y;rw [hag.opd (fun t ht=>by simp [ht])] at hx hy
 have nilv:∀{v:Value} {s:SV} {r:Bool},SVR J' ρ (MX E.Mo ρ J') w v s->zbh s=some r->(r=true/\v=.pointer none)\/(r=false/\∃ a,v=.pointer (some a)):=fun {v s r} hv hr=>by
  unfold zbh at hr
  split at hr<;>first | (cases hr;done) | (cases hr;skip)
  . exact .inl ⟨rfl,RdC.x18 hv⟩
  . exact .inr ⟨rfl,_,hv.2⟩
  . exact .inr ⟨rfl,_,hv.2⟩
  . obtain ⟨b,oo,vs,e,_⟩:=hv;exact .inr ⟨rfl,_,e⟩
 have hexec:∀(ax ay:Option Addr) (b:Bool),a.eval x=.pointer ax->a.eval y=.pointer ay->(binOp op T (.pointer ax) (.pointer ay)).run P w=.ok (.bool b) w->(execOp a.eval o).run P w=.ok (.value (.bool b)) w:=fun ax ay b e1 e2 hr=>by
  have hg:∀ ox oy,(eqGuard op T ox oy (.pointer ax) (.pointer ay)).run P w=.ok () w:=fun ox oy=>by cases op<;>simp [eqGuard]
  unfold execOp;rw [ho];simp only [e1,e2,Sem.run_bind,hg,Result.andThen_ok,hr,Sem.run_pure]
 unfold xra at h;split at h
 . rename_i hny;split at h
   . rename_i r hnx;obtain ⟨b,hb,rfl⟩:=Option.map_eq_some_iff.1 h
     rcases nilv hy hny with ⟨_,e2⟩ | ⟨e,_⟩
     . have hv:=nilv hx hnx
       have hv':∃ ax,a.eval x=.pointer ax:=by rcases hv with ⟨_,e⟩ | ⟨_,ad,e⟩<;>exact ⟨_,e⟩
       obtain ⟨ax,ex⟩:=hv';refine ⟨.bool b,hexec ax none b ex e2 (w2q hb (fun d w=>x0o hT _ r (by rw [<-ex];exact hv) d w) w),RdC.raw rfl⟩
     . cases e
   . cases h
 . split at h
   . rename_i hs;obtain ⟨b,hb,rfl⟩:=Option.map_eq_some_iff.1 h
     have hsv:∃ bb f,opdS Γ I x=.one (.ptr bb f)/\opdS Γ I y=.one (.ptr bb f):=by
      generalize opdS Γ I x=sx at hs;generalize opdS Γ I y=sy at hs;unfold wcj at hs;split at hs
      . simp only [Bool.and_eq_true,beq_iff_eq] at hs;obtain ⟨rfl,rfl⟩:=hs;exact ⟨_,_,rfl,rfl⟩
      . cases hs
     obtain ⟨bb,f,e1,e2⟩:=hsv;rw [e1] at hx;rw [e2] at hy;exact ⟨.bool b,hexec _ _ b hx.2 hy.2 (w2q hb (fun d w=>y4d hT ht _ d w) w),RdC.raw rfl⟩
   . cases h
def x7k (J:List SB):SV->Option (Nat×Nat×TypeId×Nat)
 | .one (.ptr b off)=>match gB J b with
  | .box hs (some T)=>if off<hs.length then some (b,off,T,hs.length) else none
  | _=>none
 | _=>none
theorem xxz {E : HEnv} {ρ : Nat → Value} {I' : List SV} {a : Act} {w : World} (hI : RI Γ E ρ I' J' a w) {x : SV} {n:Nat} (h : x7k J x = some (b, off, T, n)) (hb : gB J' b = gB J b) (hx : SVR J' ρ (MX E.Mo ρ J') w v x) :
 x=.one (.ptr b off)/\∃ ad:Addr,v=.pointer (some ad)/\ad.off=off/\off<n/\w.shape? ad.block=some (T,n):=by
 unfold x7k at h;split at h
 . rename_i b' off';split at h
   . rename_i hs T' hg;split at h
     . rename_i hlt
       cases h
       have hg':gB J' b=.box hs (some T):=by rw [hb];exact hg
       obtain ⟨bb,vs,T2,e,hh,hr,hT⟩:=hI.sbr hg' (by simp)
       have hbk:bk (ρ b)=bb:=by rw [e];rfl
       refine ⟨rfl,_,hx.2,rfl,hlt,?_⟩;simp only [hbk];unfold World.shape?;rw [hh,hT T rfl];simp [hr.length]
     . cases h
   . cases h
 . cases h
theorem zw8 {d n:Nat} (ho:o.op=.convert S D x) (hdst:o.dst=some d) (hS:P.underlying S=some (.pointer t)) (hD:P.underlying D=some .unsafePointer) (ht:P.info? t=some j) (hj:j.size≠0)
 (hb:x7k J (opdS Γ I x)=some (b,off,T,n)):vbd Γ P o I J (d::orr x) [b] [(d,.one (.ptr b off))] []:=by
 refine vbd.pure hdst (fun E ρ I' J' a w hag hah hI=>?_);have hx:=hI.opd x;rw [hag.opd (fun t ht=>by simp [ht])] at hx;obtain ⟨e0,ad,e1,e2,e3,e4⟩:=xxz hI hb (hah.gB (by simp)) hx;rw [e0] at hx;have hrun:=Go.Lib.run_to_unsafe (P:=P) w ad hS hD ht hj e4 (by omega);refine ⟨a.eval x,?_,hx⟩;unfold execOp;rw [ho];simp only [e1,Sem.run_bind,hrun,Result.andThen_ok,Sem.run_pure]
theorem xyx {u:TypeId} {d n:Nat} (ho:o.op=.convert S D x) (hdst:o.dst=some d) (hS:P.underlying S=some .unsafePointer) (hD:P.underlying D=some (.pointer u)) (hu:P.info? u=some j)
 (hlies:liesAt P P.depth T (n / P.cellsOf T) off u 1=true) (hb:x7k J (opdS Γ I x)=some (b,off,T,n)):vbd Γ P o I J (d::orr x) [b] [(d,.one (.ptr b off))] []:=by
 refine vbd.pure hdst (fun E ρ I' J' a w hag hah hI=>?_);have hx:=hI.opd x;rw [hag.opd (fun t ht=>by simp [ht])] at hx;obtain ⟨e0,ad,e1,e2,e3,e4⟩:=xxz hI hb (hah.gB (by simp)) hx;rw [e0] at hx;have hrun:=Go.Lib.run_from_unsafe (P:=P) w ad hS hD hu e4 (by rw [e2];exact hlies);refine ⟨a.eval x,?_,hx⟩;unfold execOp;rw [ho];simp only [e1,Sem.run_bind,hrun,Result.andThen_ok,Sem.run_pure]
def xts (P:Program) (f:FuncId):Bool:=match P.funcs[f]? with
 | some fn=>fn.body.isNone&&fn.name == "internal/abi.NoEscape" &&fn.origin == ""
 | none=>false
theorem z8b:Extern.allNextRows.lookup "internal/abi.NoEscape" = none/\Extern.allNextRows.lookup "" = none/\Extern.allGenericRows.lookup "internal/abi.NoEscape" = none/\Extern.allTypedRows.lookup "internal/abi.NoEscape" = none:=by
 refine ⟨?_,?_,?_,?_⟩<;>kernel_rfl
theorem yki:Extern.allRows.lookup "internal/abi.NoEscape" = some Extern.AbiNoEscape.same:=by kernel_rfl
theorem yxz (h:xts P f=true) (v:Value) (w:World):(callFunc f #[v]).run P w=.ok (.value v) w:=by
 unfold xts at h;split at h
 . rename_i fn hf;simp only [Bool.and_eq_true,beq_iff_eq] at h;obtain ⟨⟨hb,hn⟩,ho⟩:=h;obtain ⟨r1,r2,r3,r4⟩:=z8b
   have h1:Extern.findNext fn=none:=by
    unfold Extern.findNext;simp only [hn,ho,r1,r2,Option.map_none];rfl
   have h2:Extern.find fn=some Extern.AbiNoEscape.same:=by
    unfold Extern.find;simp only [hn,ho,r3,r4,yki,Option.map_none];rfl
   rw [run_callFunc_extern hf (by rw [hn];rfl) hb h1 h2,Go.Lib.run_noEscape];rfl
 . cases h
theorem zde {d:Nat} (ho:o.op=.call { callee:=.value (.func f),args:=#[x],argTypes:=ts }) (hdst:o.dst=some d) (hf:xts P f=true):vbd Γ P o I J (d::orr x) [] [(d,opdS Γ I x)] []:=by
 refine vbd.pure hdst (fun E ρ I' J' a w hag hah hI=>?_);have hx:=hI.opd x;rw [hag.opd (fun t ht=>by simp [ht])] at hx;refine ⟨a.eval x,?_,hx⟩;have hrun:=yxz hf (a.eval x) w;have he:a.eval (.func f)=.func (.func f) #[] #[]:=rfl;unfold execOp;rw [ho];simp [resolve,Deferred.ofValue,he,invoke,hrun]
def usdH:SV->Option SV
 | .one (.sl b 1 0 n)=>if 0<n then some (.one (.pel b 1 0 0)) else none
 | _=>none
theorem z4z {d:Nat} (ho:o.op=.call { callee:=.builtin .unsafeSliceData,args:=#[x],argTypes:=ts }) (hdst:o.dst=some d) {v:SV} (h:usdH (opdS Γ I x)=some v) :
 vbd Γ P o I J (d::orr x) [] [(d,v)] []:=by
 refine vbd.pure hdst (fun E ρ I' J' a w hag hah hI=>?_);have hx:=hI.opd x;rw [hag.opd (fun t ht=>by simp [ht])] at hx;unfold usdH at h;split at h
 . rename_i b n e;split at h
   . rename_i hn
     cases h;rw [e] at hx;obtain ⟨hob,ad,cap,hv,hle,hcap⟩:=hx;obtain ⟨_,had,_⟩:=hcap (by omega);subst had;refine ⟨.pointer (some ⟨bk (ρ b),0*1,none⟩),?_,hob,rfl⟩;rw [zs6 ho,show (#[x]:Array Operand).map a.eval=#[a.eval x] from by simp,hv];simp only [builtin,Sem.run_bind,Go.Lib.run_unsafeSliceData_row w ts o.type ⟨bk (ρ b),0*1,none⟩ n cap (by omega)];rfl
   . cases h
 . cases h
def vjd (P:Program) (t:TypeId):Option TypeId:=match P.underlying t with
 | some (.pointer e)=>some e
 | _=>none
theorem ylq (h:vjd P t=some e):P.underlying t=some (.pointer e):=by
 unfold vjd at h;split at h
 . rename_i e' hu;cases h;exact hu
 . cases h
def x7g (n:Int):Bool:=decide (0<=n)&&decide (n<256)
def usH (P:Program) (J:List SB) (pt:TypeId) (x y:SV):Option (Nat×List Int):=match x,y with
 | .one (.pel b 1 0 0),.one (.dat (.raw (.int .i64 n)))=>match gB J b with
  | .arr (.ints .u8 l) _ (some e)=>if vjd P pt=some e/\P.cellsOf e=1/\n=(l.length:Int)/\0<l.length/\l.length<=9223372036854775807/\l.all x7g=true then some (b,l) else none
  | _=>none
 | _,_=>none
theorem World.x1j (w:World) (a:Addr) (n k:Nat) (h:k≠a.block):(w.freeze a n).heap[k]? = w.heap[k]?:=by
 unfold World.freeze
 split
 . rfl
 . simp only [Array.getElem?_modify];rw [if_neg (Ne.symm h)]
theorem s_us {pt it:TypeId} {d:Nat} (ho:o.op=.call { callee:=.builtin .unsafeString,args:=#[x,y],argTypes:=#[pt,it] }) (hdst:o.dst=some d) (h:usH P J pt (opdS Γ I x) (opdS Γ I y)=some (b,l)) :
 vbd Γ P o I J (d::(orr x++orr y)) [b] [(d,.one (.dat (.raw (.string (strOfNums l)))))] [(b,.dead)]:=by
 refine vbd.val hdst (fun E ρ I' J' a w hag hah hI=>?_);have hx:=hI.opd x;have hy:=hI.opd y;rw [hag.opd (fun t ht=>by simp [ht])] at hx hy;unfold usH at h;split at h
 case h_2=>cases h
 rename_i b' n ex ey;split at h
 case h_2=>cases h
 rename_i l' k e hb;split at h
 case isFalse=>cases h
 rename_i hc
 cases h;obtain ⟨hpt,hce,rfl,hl0,h63,hby⟩:=hc;have hpt:=ylq hpt;rw [ex] at hx;rw [ey] at hy
 have hb':gB J' b=.arr (.ints .u8 l) k (some e):=by rw [hah.gB (by simp)];exact hb
 have hbs:=xuw hb' (by simp);obtain ⟨⟨hu,hk⟩,h0 | ⟨bb,vs,q,T2,e1,hh,hr,hT⟩⟩:=hI.sbr hb' (by simp)
 . have h1:=h0.1;simp [Cell.cnt] at h1;rw [h1] at hl0;simp at hl0
 have hbk:bk (ρ b)=bb:=by rw [e1];rfl
 have hT:=hT e rfl;subst hT
 have ev:a.eval x=.pointer (some ⟨bb,0,none⟩):=by rw [hx.2,hbk]
 have ey':a.eval y=.int .i64 (l.length:Int):=RdC.x18 hy
 have hvs:vs=l.map (Value.int .u8):=xrp (k:=.u8) hr (by
  have:∀ l:List Int,w6n .u8 (l.map fun n=>Cell.raw (.int .u8 n))=some l:=by
   intro l
   induction l with
   | nil=>rfl
   | cons n l ih=>simp [w6n,ih]
  exact this l)
 have hsh:w.shape? bb=some (T2,(vs++q).length):=by simp [World.shape?,hh]
 have hbyte:∀ n∈l,0<=n/\n<256:=fun n hn=>by
  have:=(List.all_eq_true.1 hby) n hn
  simpa [x7g] using this
 have hcell:∀(j:Nat) (u:UInt8),(l.map fun n=>UInt8.ofNat n.toNat)[j]? = some u->w.cell? ((⟨bb,0,none⟩:Addr).add j)=some (.int .u8 u.toNat):=fun j u hj=>by
  rw [v4h,Nat.zero_add];rw [List.getElem?_map] at hj;obtain ⟨n,hn,rfl⟩:=Option.map_eq_some_iff.1 hj;have h2:=hbyte n (List.mem_of_getElem? hn)
  have h3:((UInt8.ofNat n.toNat).toNat:Int)=n:=by
   rw [UInt8.toNat_ofNat']
   have:n.toNat % 2 ^ 8=n.toNat:=Nat.mod_eq_of_lt (by omega)
   rw [this];omega
  rw [h3];exact xbn hh (by rw [hvs,List.getElem?_map,hn];rfl)
 have hrun:=Go.Lib.run_unsafeString_row (P:=P) w pt it o.type T2 hpt hce bb _ hsh (l.map fun n=>UInt8.ofNat n.toNat) (by intro e;simp at e;subst e;simp at hl0) (by simp [hvs]) (by simpa using h63) hcell;simp only [List.length_map] at hrun;have hres:(⟨(l.map fun n=>UInt8.ofNat n.toNat).toArray⟩:ByteArray)=strOfNums l:=rfl;rw [hres] at hrun;have hw1:=Went.kill hI.inv hbs
 have hfz:(w.freeze ⟨bb,0,none⟩ l.length).heap[bb]? = some (.cells (vs++q).toArray T2 (if (0:Nat)==0 then (0,0+l.length) else (min 0 0,max 0 (0+l.length)))):=by
  unfold World.freeze;rw [if_neg (by omega)];simp only [Array.getElem?_modify,if_true];rw [hh];rfl
 have hother:=fun k hk=>World.x1j w ⟨bb,0,none⟩ l.length k hk
 have hsz:(w.freeze ⟨bb,0,none⟩ l.length).heap.size=w.heap.size:=by
  unfold World.freeze;split<;>simp
 have hos:(w.freeze ⟨bb,0,none⟩ l.length).os=w.os/\(w.freeze ⟨bb,0,none⟩ l.length).tape=w.tape/\(w.freeze ⟨bb,0,none⟩ l.length).output=w.output:=by
  unfold World.freeze;split<;>exact ⟨rfl,rfl,rfl⟩
 have hcells:∀ c oo u,w.cell? ⟨c,oo,none⟩=some u->(w.freeze ⟨bb,0,none⟩ l.length).cell? ⟨c,oo,none⟩=some u:=fun c oo u hc=>by
  by_cases e2:c=bb
  . subst e2;unfold World.cell? at hc ⊢;dsimp only at hc ⊢;rw [hh] at hc;rw [hfz];exact hc
  . unfold World.cell? at hc ⊢;dsimp only at hc ⊢;rw [hother c e2];exact hc
 have hkeep:∀ M,wf2 M M w (w.freeze ⟨bb,0,none⟩ l.length):=fun M c oo u h1 h2=>⟨h1,hcells c oo u h2⟩
 have hgrow:Grow w (w.freeze ⟨bb,0,none⟩ l.length):=fun i arr T fz hi=>by
  by_cases e2:i=bb
  . subst e2;rw [hh] at hi;cases hi;exact ⟨_,_,_,hfz,Nat.le_refl _⟩
  . exact ⟨arr,T,fz,by rw [hother i e2];exact hi,Nat.le_refl _⟩
 have hnotown:∀ i z,(J'.set b .dead)[i]? = some z->z.own=true->real (ρ i)->bk (ρ i)≠bb:=fun i z hi hz hri e2=>by
  rcases yu6 hi with ⟨_,rfl⟩ | ⟨hn,hi⟩
  . cases hz
  . exact hn (hI.inv.inj i b z _ hi hbs hz rfl hri (by rw [e1];simp [real]) (by rw [hbk];exact e2))
 have hinv2:HInv Γ E.Mo ρ (J'.set b .dead) (w.freeze ⟨bb,0,none⟩ l.length):=
  ⟨fun c oo hm=>by rw [hsz];exact hw1.inv.bnd c oo hm,fun i z hi=>(hw1.inv.blk i z hi).mv ⟨fun _ h=>h,fun _ _=>rfl,hkeep _,hgrow⟩ (fun ho' hr'=>hother _ (hnotown i z hi ho' hr')),hw1.inv.inj,hw1.inv.sep,hw1.inv.glob.keep (hkeep _)⟩
 have hrb:real (ρ b):=by rw [e1];simp [real]
 refine ⟨_,w.freeze ⟨bb,0,none⟩ l.length,ρ,?_,⟨hw1.ok,hw1.rho,hw1.keep.trans (hkeep _),hgrow,hinv2,by rw [hsz];exact Nat.le_refl _,hos.1,hos.2.1,hos.2.2,fun k _ hk=>hother k (fun e2=>hk ⟨b,_,hbs,rfl,hrb,by rw [hbk];exact e2.symm⟩),fun k hk=>hw1.fresh k hk⟩,RdC.raw rfl⟩;rw [zs6 ho,show (#[x,y]:Array Operand).map a.eval=#[a.eval x,a.eval y] from by simp,ev,ey'];simp only [builtin,Sem.run_bind,hrun];rfl
theorem ykp {α:Type} {n:Nat}:∀{l:List (List α)},(∀ r∈l,r.length=n)->∀ k,(l.take k).flatten=l.flatten.take (k*n)
 | [],_,k=>by simp
 | r::l,h,0=>by simp
 | r::l,h,k+1=>by
  have hr:=h r (by simp);rw [List.take_succ_cons,List.flatten_cons,List.flatten_cons,ykp (fun s hs=>h s (by simp [hs])) k,Nat.succ_mul,Nat.add_comm (k*n) n,<-hr,List.take_length_add_append]
theorem zuq {α:Type} {n:Nat}:∀{l:List (List α)},(∀ r∈l,r.length=n)->∀ k,(l.drop k).flatten=l.flatten.drop (k*n)
 | [],_,k=>by simp
 | r::l,h,0=>by simp
 | r::l,h,k+1=>by
  have hr:=h r (by simp);rw [List.drop_succ_cons,List.flatten_cons,zuq (fun s hs=>h s (by simp [hs])) k,Nat.succ_mul,Nat.add_comm (k*n) n,<-hr,List.drop_length_add_append]
theorem w3f {α:Type} {n:Nat}:∀{l:List (List α)},(∀ r∈l,r.length=n)->l.flatten.length=l.length*n
 | [],_=>by simp
 | r::l,h=>by rw [List.flatten_cons,List.length_append,w3f (fun s hs=>h s (by simp [hs])),h r (by simp),List.length_cons,Nat.succ_mul,Nat.add_comm]
def v8q (J:List SB) (es:Nat):SV->Option (List (List Cell)×List Nat)
 | .one (.dat c)=>(vbz es c).map fun l=>(l,[])
 | .one (.sl b es' lo n)=>match gB J b with
  | .arr (.sl es2 rows) _ _=>if es'=es/\es2=es/\lo+n<=rows.length then some ((rows.drop lo).take n,[b]) else none
  | _=>none
 | _=>none
def z5s (J:List SB) (es:Nat) (x y:SV):Option (Nat×SB×Nat×List Nat):=match x with
 | .one (.sl b es' lo n)=>match gB J b with
  | .arr (.sl es2 rows) k T=>match v8q J es y with
   | some (rs,rb)=>if es'=es/\es2=es/\k<=lo*es/\lo+n<=rows.length then
    some (b,.arr (.sl es (rows.take lo++(rs.take (min n rs.length)++rows.drop (lo+min n rs.length)))) k T,min n rs.length,b::rb) else none
   | none=>none
  | _=>none
 | _=>none
theorem zp1 {x : SV} (h : v8q J es x = some (rs, rb)) : ∀ b ∈ rb, y10 (gB J b) = true := by
 unfold v8q at h;split at h
 . obtain ⟨l,_,e⟩:=Option.map_eq_some_iff.1 h
   cases e;intro b hb;cases hb
 . split at h
   . rename_i hb;split at h
     . cases h;intro b' hb';rw [List.mem_singleton.1 hb',hb];rfl
     . cases h
   . cases h
 . cases h
theorem xwf {x y:SV} (h:z5s J es x y=some (b,z,m,rb)):b∈rb/\∀ b∈rb,y10 (gB J b)=true:=by
 unfold z5s at h;split at h
 case h_2=>cases h
 split at h
 case h_2=>cases h
 rename_i hb;split at h
 case h_2=>cases h
 rename_i hs;split at h
 case isFalse=>cases h
 cases h;refine ⟨by simp,fun b' hb'=>?_⟩
 rcases List.mem_cons.1 hb' with rfl | hb'
 . rw [hb];rfl
 . exact zp1 hs b' hb'
theorem z1y {x : SV} (h : v8q J es x = some (rs, rb)) (hg : ∀ b ∈ rb, gB J' b = gB J b) : v8q J' es x = some (rs, rb) := by
 unfold v8q at h ⊢;split at h
 . exact h
 . rename_i b es' lo n
   cases hb:gB J b with
   | arr c k T =>
    rw [hb] at h
    have hm:b∈rb:=by
     split at h
     . split at h
       . cases h;simp
       . cases h
     . cases h
    simp only [hg b hm,hb];exact h
   | _=>rw [hb] at h;cases h
 . cases h
theorem x4y {x y:SV} (h:z5s J es x y=some (b,z,m,rb)) (hg:∀ b∈rb,gB J' b=gB J b):z5s J' es x y=some (b,z,m,rb):=by
 unfold z5s at h ⊢;split at h
 case h_2=>cases h
 rename_i b' es' lo n;split at h
 case h_2=>cases h
 rename_i es2 rows k T hb;split at h
 case h_2=>cases h
 rename_i rs rb' hs;split at h
 case isFalse=>cases h
 rename_i hc
 cases h;simp only [hg b (by simp),hb,z1y hs (fun c hc=>hg c (by simp [hc])),hc,and_self,if_true]
theorem x0m {Mo:Nat->Nat->Prop} {ρ:Nat->Value} {w:World} (hes:0<es) (h:HInv Γ Mo ρ J w) {x:SV} (hs:v8q J es x=some (rs,rb)) (hv:SVR J ρ (MX Mo ρ J) w v x) :
 ∃(us:List Value) (ad:Option Addr) (cap:Nat),v=.slice ad rs.length cap/\us.length=rs.length*es/\RdD (MX Mo ρ J) w us rs.flatten/\(∀ r∈rs,r.length=es)/\
  (us=[]\/∃ b off,ad=some ⟨b,off,none⟩/\∀ j u,us[j]? = some u->w.cell? ⟨b,off+j,none⟩=some u):=by
 unfold v8q at hs;split at hs
 . rename_i c;obtain ⟨l,hl,e⟩:=Option.map_eq_some_iff.1 hs
   cases e;obtain ⟨⟨ad,cap,hyl⟩,hyn,us,hul,hur,hyc⟩:=(show RdC (MX Mo ρ J) w v c from hv).vy2 hes hl;refine ⟨us,ad,cap,hyl,hul,hur,hyn,?_⟩
   rcases hyc with hyc | ⟨b,off,cap',e,hc⟩
   . exact .inl hyc
   . rw [hyl] at e
     cases e;exact .inr ⟨b,off,rfl,fun j u hj=>(hc j u hj).2⟩
 . rename_i b es' lo n;split at hs
   case h_2=>cases hs
   rename_i es2 rows k T hb;split at hs
   case isFalse=>cases hs
   rename_i hc;obtain ⟨rfl,rfl,hfit⟩:=hc
   cases hs;obtain ⟨_,ad,cap,hvs,hle,hcap⟩:=hv;obtain ⟨⟨hu,hk⟩,h0⟩:=h.blk b _ (xuw hb (by simp));have hu:∀ r∈rows,r.length=es2:=hu
   have hlen:((rows.drop lo).take n).length=n:=by rw [List.length_take,List.length_drop];omega
   have hmem:∀ r∈(rows.drop lo).take n,r.length=es2:=fun r hr=>hu r (List.mem_of_mem_drop (List.mem_of_mem_take hr))
   by_cases hn0:n=0
   . subst hn0;exact ⟨[],ad,cap,by rw [hlen];exact hvs,by simp,by simp;trivial,hmem,.inl rfl⟩
   . obtain ⟨hre,had,arr,Tb,fz,hheap,hsz⟩:=hcap (by omega)
     rcases h0 with ⟨_,e1⟩ | ⟨bb,vs,q,Tb',e1,hh,hr,hT⟩
     . exact absurd e1 hre
     have hbk:bk (ρ b)=bb:=by rw [e1];rfl
     rw [hbk] at had;have hr:RdD (MX Mo ρ J) w vs rows.flatten:=hr;have hvl:=hr.length;rw [w3f hu] at hvl
     have hfit2:lo*es2+n*es2<=rows.length*es2:=by rw [<-Nat.add_mul];exact Nat.mul_le_mul_right _ hfit
     refine ⟨(vs.drop (lo*es2)).take (n*es2),ad,cap,by rw [hlen];exact hvs,by rw [hlen,List.length_take,List.length_drop];omega,?_,hmem,.inr ⟨bb,lo*es2,had,fun j u hj=>?_⟩⟩
     . rw [ykp (fun r hr=>hu r (List.mem_of_mem_drop hr)),zuq hu];exact (hr.drop (lo*es2)).take (n*es2)
     . have hj2:(vs.drop (lo*es2))[j]? = some u:=by
        rw [List.getElem?_take] at hj;split at hj
        . exact hj
        . cases hj
       rw [List.getElem?_drop] at hj2;exact xbn hh hj2
 . cases hs
theorem x1i {d eb:Nat} {ik:Option IntKind} (ho:o.op=.call { callee:=.builtin .copy,args:=#[x,y],argTypes:=#[T,T] }) (hdst:o.dst=some d)
 {ti:TI} (hti:mkTI P T=some ti) (hsh:ti.sh=.slice e es eb ik) (h:z5s J es (opdS Γ I x) (opdS Γ I y)=some (b,z,m,rb)) :
 vbd Γ P o I J (d::(orr x++orr y)) rb [(d,.one (.dat (.raw (.int .i64 (m:Int)))))] [(b,z)]:=by
 have hin:=xwf h;refine vbd.val hdst (fun E ρ I' J' a w hag hah hI=>?_);obtain ⟨d0,i,zz,hd0,hi,hz,_,_,_,_,_,hsh'⟩:=(wgk hti).ex;obtain ⟨rfl,j,z',hj,hz',hjs,hjb,hes0,hzs,hik⟩:=zu3 (hsh'.symm.trans hsh)
 have hes:0<es:=by omega
 have hx:=hI.opd x;have hy:=hI.opd y;rw [hag.opd (fun t ht=>by simp [ht])] at hx hy;have h:=x4y h (J':=J') (fun b hb=>hah.gB hb);unfold z5s at h;split at h
 case h_2=>cases h
 rename_i b' es' lo n hxe;split at h
 case h_2=>cases h
 rename_i es2 rows k T0 hb;split at h
 case h_2=>cases h
 rename_i rs rb' hs;split at h
 case isFalse=>cases h
 rename_i hc;obtain ⟨rfl,rfl,hk,hfit⟩:=hc
 cases h;rw [hxe] at hx;obtain ⟨_,ad,cap,hvx,hle,hcap⟩:=hx;obtain ⟨us,yad,ycap,hvy,hul,hur,hun,huc⟩:=x0m hes hI.inv hs hy;have hb1:=xuw hb (by simp);obtain ⟨⟨hu,hk2⟩,h0⟩:=hI.sbr hb (by simp);have hu:∀ r∈rows,r.length=es2:=hu;generalize hm:min n rs.length=m
 have hm1:m<=n:=by omega
 have hm2:m<=rs.length:=by omega
 have hmin:Nat.min rs.length n=m:=by rw [<-hm];exact Nat.min_comm _ _
 have hml:(us.take (m*es2)).length=m*es2:=by
  have:=Nat.mul_le_mul_right es2 hm2
  rw [List.length_take];omega
 have hf:(Builtin.firstCells j.size m (.slice yad rs.length ycap)).run P w=.ok (us.take (m*es2)).toArray w:=by
  rcases huc with rfl | ⟨g,off,rfl,hc⟩
  . rw [List.take_nil] at hml ⊢
    cases yad with
    | none=>exact run_firstCells_none _ _ _ _ _
    | some a1=>exact run_firstCells_some w _ _ _ _ _ [] (by rw [hjs];exact hml) (fun j v hj=>by cases hj)
  . exact run_firstCells_some w _ _ _ _ _ _ (by rw [hjs];exact hml) (fun j v hj=>by
     rw [v4h];rw [List.getElem?_take] at hj;split at hj
     . exact hc j v hj
     . cases hj)
 have hexec:∀(w2:World),(Builtin.copy_ #[T,T] o.type #[a.eval x,a.eval y]).run P w=.ok (goInt (m:Int)) w2->(execOp a.eval o).run P w=.ok (.value (goInt (m:Int))) w2:=fun w2 hr=>by
  rw [zs6 ho,show (#[x,y]:Array Operand).map a.eval=#[a.eval x,a.eval y] from by simp];simp only [builtin,Sem.run_bind,hr];rfl
 have hflat:(Cell.sl es2 (rows.take lo++(rs.take m++rows.drop (lo+m)))).flat=rows.flatten.take (lo*es2)++(rs.flatten.take (m*es2)++rows.flatten.drop ((lo+m)*es2)):=by
  show (rows.take lo++(rs.take m++rows.drop (lo+m))).flatten=_;rw [List.flatten_append,List.flatten_append,ykp hu,ykp hun,zuq hu]
 by_cases hm0:m=0
 . subst hm0
   have e1:rows.take lo++(rs.take 0++rows.drop (lo+0))=rows:=by rw [List.take_zero,List.nil_append,Nat.add_zero,List.take_append_drop]
   have e2:J'.set b (.arr (.sl es2 rows) k T0)=J':=by
    apply List.ext_getElem?;intro i;by_cases hib:b=i
    . subst hib;rw [List.getElem?_set_self (List.getElem?_eq_some_iff.1 hb1).1,hb1]
    . rw [List.getElem?_set_ne hib]
   rw [e1];show ∃ v w' ρ',_/\Went Γ E.Mo ρ J' w ρ' (J'.set b (.arr (.sl es2 rows) k T0)) w'/\_
   have hrun:(Builtin.copy_ #[T,T] o.type #[a.eval x,a.eval y]).run P w=.ok (goInt ((0:Nat):Int)) w:=by
    rw [hvx,hvy]
    cases ad<;>simp [Builtin.copy_,run_underlying hd0,Builtin.lenOf,sizeOf,typeInfo,hj,hmin,hf,storeCells]
   refine ⟨_,w,ρ,hexec w hrun,?_,RdC.raw rfl⟩;rw [e2];exact Went.refl hI.inv
 . obtain ⟨hre,had,arr,Tb,fz,hheap,hsz⟩:=hcap (by omega)
   rcases h0 with ⟨_,e1⟩ | ⟨bb,vs,q,Tb',e1,hh,hr,hT⟩
   . exact absurd e1 hre
   have hbk:bk (ρ b)=bb:=by rw [e1];rfl
   rw [hbk] at had hheap;rw [hh] at hheap
   cases hheap;have hr:RdD (MX E.Mo ρ J') w vs rows.flatten:=hr;have hvl:=hr.length;rw [w3f hu] at hvl
   have hfit2:lo*es2+m*es2<=rows.length*es2:=by rw [<-Nat.add_mul];exact Nat.mul_le_mul_right _ (by omega)
   have hones:∀ u∈us.take (m*es2),u.oneCell'=true:=fun u hu=>hur.oneL u (List.mem_of_mem_take hu)
   have hst:=run_storeCells_at P bb (lo*es2) Tb (us.take (m*es2)) 0 (vs++q).toArray w hh (by rw [hml];simp only [List.size_toArray,List.length_append];omega) hones;simp only [Nat.add_zero] at hst;rw [hml] at hst
   have hrun:(Builtin.copy_ #[T,T] o.type #[a.eval x,a.eval y]).run P w=.ok (goInt (m:Int)) (w.setRow bb ((vs++q).toArray.toList.take (lo*es2)++us.take (m*es2)++(vs++q).toArray.toList.drop (lo*es2+m*es2)).toArray):=by
    rw [hvx,hvy,had];simp [Builtin.copy_,run_underlying hd0,Builtin.lenOf,sizeOf,typeInfo,hj,hmin,hf];simp at hst;rw [hst];rfl
   have hnew:(vs++q).toArray.toList.take (lo*es2)++us.take (m*es2)++(vs++q).toArray.toList.drop (lo*es2+m*es2)=(vs.take (lo*es2)++(us.take (m*es2)++vs.drop ((lo+m)*es2)))++q:=by
    show (vs++q).take (lo*es2)++us.take (m*es2)++(vs++q).drop (lo*es2+m*es2)=_;rw [List.take_append_of_le_length (by omega),List.drop_append_of_le_length (by omega),Nat.add_mul];simp [List.append_assoc]
   rw [hnew] at hrun
   have hcnt:(rows.take lo++(rs.take m++rows.drop (lo+m))).length=rows.length:=by
    simp only [List.length_append,List.length_take,List.length_drop];omega
   refine ⟨_,_,ρ,hexec _ hrun,?_,RdC.raw rfl⟩;show Went Γ E.Mo ρ J' w ρ (J'.set b _) _;refine Went.write hI.inv hb1 rfl hre rfl (fun o=>Iff.rfl) (by simp [World.setRow]) rfl rfl rfl (fun kk hk=>setRow_other w bb kk _ (by rw [<-hbk];exact hk)) (zwl hh ?_) (fun oo u hmu hcc=>?_) (fun mv=>?_)
   . simp only [List.size_toArray,List.length_append,hml];simp only [List.length_take,List.length_drop,Nat.add_mul];omega
   . rw [hbk] at hcc ⊢;rw [cell_setRow_same w bb oo _ _ _ _ hh]
     have hlt:oo<lo*es2:=by
      have:¬k<=oo:=hmu
      omega
     simp only [World.cell?,hh,Option.isSome_none,Bool.false_eq_true,if_false,List.getElem?_toArray] at hcc
     have hlt2:oo<vs.length:=by omega
     rw [List.getElem?_append_left hlt2] at hcc
     have hlt3:oo<(vs.take (lo*es2)).length:=by rw [List.length_take];exact Nat.lt_min.2 ⟨hlt,hlt2⟩
     rw [List.getElem?_toArray,List.append_assoc,List.getElem?_append_left hlt3,List.getElem?_take_of_lt hlt];exact hcc
   . refine ⟨⟨fun r hr=>?_,?_⟩,.inr ⟨bb,_,q,Tb,e1,setRow_heap w bb _ _ Tb (0,0) hh,?_,hT⟩⟩
     . rcases List.mem_append.1 hr with h | h
       . exact hu r (List.mem_of_mem_take h)
       . rcases List.mem_append.1 h with h | h
         . exact hun r (List.mem_of_mem_take h)
         . exact hu r (List.mem_of_mem_drop h)
     . show k<=(rows.take lo++(rs.take m++rows.drop (lo+m))).length*es2;rw [hcnt];exact hk2
     . rw [hflat];exact ((hr.take (lo*es2)).app ((hur.take (m*es2)).app (hr.drop ((lo+m)*es2)))).keep mv.keep
end Go.Hp
