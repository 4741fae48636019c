/- The proof, part Y11: Hj, Hz. -/
import Derived.Test.YtocdljjhobaabaaGreatDoorY10
import Derived.ChangeKeysEq
import Derived.Laws.BytesArg
import Derived.Lib.UnsafeStr
namespace Go.Hp
open Go Go.RowKit Go.Slot
variable {P:Program} {Γ:List (Nat×List Cell)}
def zxc (g:TypeId->Option Nat):List Field->Nat->Option Nat
 | [],acc=>some acc
 | f::fs,acc=>match g f.type with
  | some k=>if f.name != "_" &&f.offset==acc then zxc g fs (acc+k) else none
  | none=>none
def vqw (P:Program):Nat->TypeId->Option Nat
 | 0,_=>none
 | d + 1, t => match P.underlying t, P.info? t with
  | some ds,some i=>match ds with
   | .int _=>if i.size==1 then some 1 else none
   | .string=>if i.size==1 then some 1 else none
   | .bool=>if i.size==1 then some 1 else none
   | .array n e=>match vqw P d e with
    | some k=>if i.size==n*k then some (n*k) else none
    | none=>none
   | .struct fs=>if P.stoodInHeld t then none else match zxc (vqw P d) fs.toList 0 with
    | some n=>if i.size==n then some n else none
    | none=>none
   | _=>none
  | _,_=>none
def aggT (P:Program) (t:TypeId):Bool:=match P.underlying t with
 | some (.struct _)=>true
 | some (.array _ _)=>true
 | _=>false
def valT (P:Program) (t:TypeId) (l:List Value):Value:=if aggT P t then .agg l.toArray else l.getD 0 Go.undef
theorem zyz:∀{a b:List Value} {r:Bool},eqL a b=some r->a.length=b.length
 | [],[],_,_=>rfl
 | a::as,b::bs,r,h=>by
  simp only [eqL] at h;split at h
  . rename_i p q h1 h2;simp [zyz h2]
  . cases h
theorem wv7:∀(k:Nat) {a b:List Value} {r:Bool},eqL a b=some r->∃ p q,eqL (a.take k) (b.take k)=some p/\eqL (a.drop k) (b.drop k)=some q/\r=(p&&q)
 | 0,a,b,r,h=>⟨true,r,by simp [eqL],by simpa using h,by simp⟩
 | k+1,[],[],r,h=>⟨true,true,by simp [eqL],by simp [eqL],by simp [eqL] at h;simp [h]⟩
 | k+1,[],_::_,r,h=>by simp [eqL] at h
 | k+1,_::_,[],r,h=>by simp [eqL] at h
 | k+1,a::as,b::bs,r,h=>by
  simp only [eqL] at h;split at h
  . rename_i p q h1 h2
    cases h;obtain ⟨p',q',h3,h4,rfl⟩:=wv7 k h2;exact ⟨p&&p',q',by simp [eqL,h1,h3],by simpa using h4,by simp [Bool.and_assoc]⟩
  . cases h
theorem y82 {d : Nat} {t : TypeId} {n : Nat} (h : vqw P d t = some n) : ∃ i, P.info? t = some i ∧ i.size = n := by
 cases d with
 | zero=>cases h
 | succ d=>
  unfold vqw at h;split at h
  . rename_i ds i hu hi;refine ⟨i,hi,?_⟩;split at h
    . split at h
      . rename_i hs;cases h;simpa using hs
      . cases h
    . split at h
      . rename_i hs;cases h;simpa using hs
      . cases h
    . split at h
      . rename_i hs;cases h;simpa using hs
      . cases h
    . split at h
      . split at h
        . rename_i hs;cases h;simpa using hs
        . cases h
      . cases h
    . split at h
      . cases h
      . split at h
        . split at h
          . rename_i hs;cases h;simpa using hs
          . cases h
        . cases h
    . cases h
  . cases h
theorem yb8 {t:TypeId} {ds:TypeDesc} (hu:P.underlying t=some ds) (w:World):(isAgg t).run P w=.ok (aggT P t) w:=by
 unfold aggT;rw [hu]
 cases ds<;>simp [isAgg,z6x hu]
theorem x23 {d:Nat} {t:TypeId} {n:Nat} (h:vqw P d t=some n):∃ ds,P.underlying t=some ds:=by
 cases d with
 | zero=>cases h
 | succ d=>
  unfold vqw at h;split at h
  . rename_i ds i hu hi;exact ⟨ds,hu⟩
  . cases h
theorem zf6 {d:Nat} {t:TypeId} {k:Nat} (h:vqw P d t=some k) {l:List Value} {off:Nat} (hfit:off+k<=l.length) (hk:aggT P t=false->0<k) (w:World):(part t l.toArray off).run P w=.ok (valT P t ((l.drop off).take k)) w:=by
 obtain ⟨ds,hu⟩:=x23 h;obtain ⟨i,hi,hs⟩:=y82 h;unfold part valT;simp only [Sem.run_bind,yb8 hu,Result.andThen_ok]
 cases ha:aggT P t
 . have hk:=hk ha
   have hlt:off<l.length:=by omega
   simp only [Bool.false_eq_true,if_false,List.getElem?_toArray,List.getElem?_eq_getElem hlt,Sem.run_pure]
   congr 1
   rw [List.getD_eq_getElem?_getD,List.getElem?_take,if_pos hk,List.getElem?_drop,Nat.add_zero,List.getElem?_eq_getElem hlt];rfl
 . simp only [if_true,Sem.run_bind,yg7 hi,hs,Result.andThen_ok,Sem.run_pure]
   congr 1
   simp [List.extract_eq_take_drop]
theorem v27 {d:Nat} {t:TypeId} {n:Nat} (h:vqw P d t=some n) (ha:aggT P t=false):n=1/\∃ ds,P.underlying t=some ds/\((∃ k,ds=.int k)\/ds=.string\/ds=.bool):=by
 cases d with
 | zero=>cases h
 | succ d=>
  unfold vqw at h;split at h
  . rename_i ds i hu hi;unfold aggT at ha;rw [hu] at ha;split at h
    . split at h<;>cases h;exact ⟨rfl,_,hu,.inl ⟨_,rfl⟩⟩
    . split at h<;>cases h;exact ⟨rfl,_,hu,.inr (.inl rfl)⟩
    . split at h<;>cases h;exact ⟨rfl,_,hu,.inr (.inr rfl)⟩
    . cases ha
    . cases ha
    . cases h
  . cases h
theorem xkt {t:TypeId} {ds:TypeDesc} (hu:P.underlying t=some ds) (hd:(∃ k,ds=.int k)\/ds=.string\/ds=.bool) {a b:Value} {r:Bool} (h:kEq0 a b=some r) (ht:(∀ k,ds=.int k->∃ q n,a=.int q n)/\(ds=.string->∃ s,a=.string s)/\(ds=.bool->∃ p,a=.bool p)) (d:Nat) (w:World) :
 (Op.equalIn (d+1) t a b).run P w=.ok r w:=by
 rcases hd with ⟨k,rfl⟩ | rfl | rfl
 . obtain ⟨q,n,rfl⟩:=ht.1 k rfl
   cases b<;>simp only [kEq0] at h<;>first | (cases h;done) | skip
   split at h
   . rename_i e;subst e;cases h;simp [Op.equalIn,z6x hu]
   . cases h
 . obtain ⟨s,rfl⟩:=ht.2.1 rfl
   cases b<;>simp only [kEq0] at h<;>first | (cases h;done) | skip
   cases h;simp [Op.equalIn,z6x hu,beq_toListBytes,seq]
 . obtain ⟨p,rfl⟩:=ht.2.2 rfl
   cases b<;>simp only [kEq0] at h<;>first | (cases h;done) | skip
   cases h;simp [Op.equalIn,z6x hu]
def fitD:TypeDesc->Value->Bool
 | .int k,.int k' _=>k==k'
 | .string,.string _=>true
 | .bool,.bool _=>true
 | _,_=>false
def fitF (g:TypeId->List Value->Bool) (sz:TypeId->Nat):List Field->List Value->Bool
 | [],_=>true
 | f::fs,l=>g f.type (l.take (sz f.type))&&fitF g sz fs (l.drop (sz f.type))
def fitN (g:List Value->Bool) (k:Nat):Nat->List Value->Bool
 | 0,_=>true
 | n+1,l=>g (l.take k)&&fitN g k n (l.drop k)
def fitT (P:Program):Nat->TypeId->List Value->Bool
 | 0,_,_=>false
 | d+1,t,l=>match P.underlying t with
  | some (.array n e)=>fitN (fitT P d e) (P.cellsOf e) n l
  | some (.struct fs)=>fitF (fitT P d) P.cellsOf fs.toList l
  | some ds=>match l with
   | [v]=>fitD ds v
   | _=>false
  | none=>false
theorem vlf:∀(d:Nat) {t:TypeId} {n:Nat},vqw P d t=some n->∀(m:Nat) {l l':List Value} {r:Bool},l.length=n->fitT P d t l=true->eqL l l'=some r->∀ w,(Op.equalIn (d+m) t (valT P t l) (valT P t l')).run P w=.ok r w
 | 0,_,_,h=>by cases h
 | d + 1, t, n, h => fun m l l' r hl hfit he w => by
  have hll:=zyz he
  cases ha:aggT P t with
  | false=>
   obtain ⟨rfl,ds,hu,hd⟩:=v27 h ha;unfold fitT at hfit;rw [hu] at hfit
   match l,l',hl,hll,he with
   | [a],[b],_,_,he=>
    unfold valT;rw [ha];simp only [Bool.false_eq_true,if_false,List.getD_cons_zero]
    have hk:kEq0 a b=some r:=by
     simp only [eqL] at he;split at he
     . rename_i p q h1 h2;cases h2;cases he;rw [h1];simp
     . cases he
    rw [show d+1+m=d+m+1 by omega];refine xkt hu hd hk ?_ (d+m) w
    rcases hd with ⟨k,rfl⟩ | rfl | rfl
    . refine ⟨fun k' _=>?_,fun e=>(by cases e),fun e=>(by cases e)⟩
      cases a<;>simp [fitD] at hfit
      exact ⟨_,_,rfl⟩
    . refine ⟨fun k' e=>(by cases e),fun _=>?_,fun e=>(by cases e)⟩
      cases a<;>simp [fitD] at hfit
      exact ⟨_,rfl⟩
    . refine ⟨fun k' e=>(by cases e),fun e=>(by cases e),fun _=>?_⟩
      cases a<;>simp [fitD] at hfit
      exact ⟨_,rfl⟩
  | true=>
   unfold valT;rw [ha];simp only [if_true];unfold vqw at h;split at h
   case h_2=>cases h
   rename_i ds i hu hi;unfold fitT at hfit;rw [hu] at hfit;split at h
   case h_1 | h_2 | h_3 | h_6=>first | (unfold aggT at ha;rw [hu] at ha;cases ha) | cases h
   ·
    rename_i nn e;split at h
    case h_2=>cases h
    rename_i k hk;split at h
    case isFalse=>cases h
    cases h;obtain ⟨ie,hie,hse⟩:=y82 hk
    have hce:P.cellsOf e=k:=by simp [Program.cellsOf,hie,hse]
    rw [show d+1+m=d+m+1 by omega,run_equalIn_array w (d+m) l.toArray l'.toArray hu hie,hce];simp only [hce] at hfit
    have key:∀(c j:Nat) {r:Bool},c+j=nn->fitN (fitT P d e) k c (l.drop (j*k))=true->eqL (l.drop (j*k)) (l'.drop (j*k))=some r->(Op.eqItems (d+m) e k l.toArray l'.toArray (List.range' j c)).run P w=.ok r w:=by
     intro c
     induction c with
     | zero=>
      intro j r hj _ he
      have:l.drop (j*k)=[]:=List.drop_eq_nil_of_le (by rw [hl,<-hj];simp)
      have h2:l'.drop (j*k)=[]:=List.drop_eq_nil_of_le (by rw [<-hll,hl,<-hj];simp);rw [this,h2] at he
      cases he;simp [Op.eqItems]
     | succ c ih=>
      intro j r hj hf he;simp only [fitN,Bool.and_eq_true] at hf;obtain ⟨p,q,h1,h2,rfl⟩:=wv7 k he
      have hfit1:j*k+k<=l.length:=by
       rw [hl,<-hj]
       have:(j+1)*k<=(c+1+j)*k:=Nat.mul_le_mul_right _ (by omega)
       rw [Nat.add_mul,Nat.one_mul] at this;exact this
      have hpos:aggT P e=false->0<k:=fun ha=>by rw [(v27 hk ha).1];exact Nat.one_pos
      rw [List.range'_succ];have h3:=vlf d hk m (by simp;omega) hf.1 h1 w;simp only [Op.eqItems,Sem.run_bind,zf6 hk hfit1 hpos,zf6 hk (l:=l') (by rw [<-hll];exact hfit1) hpos,Result.andThen_ok,h3];rw [List.drop_drop,List.drop_drop,show j*k+k=(j+1)*k by rw [Nat.add_mul,Nat.one_mul]] at h2;have hf2:=hf.2;rw [List.drop_drop,show j*k+k=(j+1)*k by rw [Nat.add_mul,Nat.one_mul]] at hf2
      cases p
      . simp
      . simp only [Bool.not_true,Bool.false_eq_true,if_false,Bool.true_and];exact ih (j+1) (by omega) hf2 h2
    rw [List.range_eq_range'];exact key nn 0 (by omega) (by simpa using hfit) (by simpa using he)
   ·
    rename_i fs;split at h
    . cases h
    rename_i hsi;split at h
    case h_2=>cases h
    rename_i nn hff;split at h
    case isFalse=>cases h
    cases h
    have hfo:P.fieldsOf t=fs:=by simp [Program.fieldsOf,hu]
    rw [show d+1+m=d+m+1 by omega,run_equalIn_struct w (d+m) t _ _ (by rw [hfo];exact hu) (by simpa using hsi),hfo]
    have key:∀(fs:List Field) (acc:Nat) {r:Bool},zxc (vqw P d) fs acc=some n->fitF (fitT P d) P.cellsOf fs (l.drop acc)=true->eqL (l.drop acc) (l'.drop acc)=some r->(Op.eqFields (d+m) l.toArray l'.toArray fs).run P w=.ok r w:=by
     intro fs
     induction fs with
     | nil=>
      intro acc r hf _ he;simp only [zxc,Option.some.injEq] at hf
      have:l.drop acc=[]:=List.drop_eq_nil_of_le (by omega)
      have h2:l'.drop acc=[]:=List.drop_eq_nil_of_le (by omega);rw [this,h2] at he
      cases he;simp [Op.eqFields]
     | cons f fs ih=>
      intro acc r hf hfi he;simp only [zxc] at hf;split at hf
      case h_2=>cases hf
      rename_i k hk;split at hf
      case isFalse=>cases hf
      rename_i hc;simp only [Bool.and_eq_true,bne_iff_ne,ne_eq,beq_iff_eq] at hc;obtain ⟨ie,hie,hse⟩:=y82 hk
      have hce:P.cellsOf f.type=k:=by simp [Program.cellsOf,hie,hse]
      simp only [fitF,hce,Bool.and_eq_true] at hfi;obtain ⟨p,q,h1,h2,rfl⟩:=wv7 k he
      have hmono:∀(fs:List Field) (a n:Nat),zxc (vqw P d) fs a=some n->a<=n:=by
       intro fs
       induction fs with
       | nil=>intro a n h;simp only [zxc,Option.some.injEq] at h;omega
       | cons f fs ih=>
        intro a n h;simp only [zxc] at h;split at h
        . split at h
          . have:=ih _ _ h;omega
          . cases h
        . cases h
      have hfit1:acc+k<=l.length:=by have:=hmono _ _ _ hf;omega
      have hpos:aggT P f.type=false->0<k:=fun ha=>by rw [(v27 hk ha).1];exact Nat.one_pos
      have h3:=vlf d hk m (by simp;omega) hfi.1 h1 w;simp only [Op.eqFields,hc.1,ne_eq,not_false_eq_true,if_true,hc.2,Sem.run_bind,zf6 hk hfit1 hpos,zf6 hk (l:=l') (by rw [<-hll];exact hfit1) hpos,Result.andThen_ok,h3];rw [List.drop_drop,List.drop_drop] at h2;have hf2:=hfi.2;rw [List.drop_drop] at hf2
      cases p
      . simp
      . simp only [Bool.not_true,Bool.false_eq_true,if_false,Bool.true_and];exact ih (acc+k) hf hf2 h2
    exact key fs.toList 0 hff (by simpa using hfit) (by simpa using he)
def zqi:List HC->Option (List Value)
 | []=>some []
 | .dat (.raw v)::r=>(zqi r).map (v::·)
 | _::_=>none
theorem z8r {η:List SB} {ρ:Nat->Value} {M:Nat->Nat->Prop} {w:World}:∀{hs:List HC} {l vs:List Value},zqi hs=some l->HRL η ρ M w vs hs->vs=l
 | [],l,vs,h,hr=>by
  cases h
  cases vs with
  | nil=>rfl
  | cons _ _=>exact hr.elim
 | x::hs,l,vs,h,hr=>by
  cases vs with
  | nil=>exact hr.elim
  | cons v vs=>
   unfold zqi at h;split at h
   . rename_i heq;cases heq
   . rename_i u r heq
     cases heq;obtain ⟨l',hl,rfl⟩:=Option.map_eq_some_iff.1 h;rw [z8r hl hr.2,RdC.xcn hr.1]
   . cases h
def eqOf (op:BinOp) (r:Bool):Option Bool:=match op with
 | .eql=>some r
 | .neq=>some (!r)
 | _=>none
def xga (P:Program) (T:TypeId) (op:BinOp) (x y:SV):Option SV:=match x,y with
 | .agg hx,.agg hy=>match zqi hx,zqi hy with
  | some lx,some ly=>if vqw P 9 T=some lx.length/\aggT P T=true/\P.eqGuardType P.depth T=false/\fitT P 9 T lx=true then
   match eqL lx ly with
   | some r=>(eqOf op r).map fun b=>.one (.dat (.raw (.bool b)))
   | none=>none
   else none
  | _,_=>none
 | _,_=>none
theorem v3u {o:Oper} {σ:List SV} {η:List SB} {op:BinOp} {T U:TypeId} {x y:Operand} {d:Nat} (ho:o.op=.binOp op T x y U) (hdst:o.dst=some d) {v:SV} (h:xga P T op (opdS Γ σ x) (opdS Γ σ y)=some v) :
 xlu Γ P o σ η (d::(orr x++orr y)) [] [(d,v)] []:=by
 refine xlu.pure hdst (fun E ρ σ' η' a w hag hah hI=>?_);have hx:=hI.opd x;have hy:=hI.opd y;rw [hag.opd (fun t ht=>by simp [ht])] at hx hy;unfold xga at h;split at h
 case h_2=>cases h
 rename_i hsx hsy ex ey;split at h
 case h_2=>cases h
 rename_i lx ly h1 h2;split at h
 case isFalse=>cases h
 rename_i hc;split at h
 case h_2=>cases h
 rename_i r hr;obtain ⟨b,hb,rfl⟩:=Option.map_eq_some_iff.1 h;rw [ex] at hx;rw [ey] at hy;obtain ⟨vx,hvx,hrx⟩:=hx;obtain ⟨vy,hvy,hry⟩:=hy;rw [z8r h1 hrx] at hvx;rw [z8r h2 hry] at hvy;have hrun:=vlf 9 hc.1 9991 rfl hc.2.2.2 hr w;unfold valT at hrun;rw [hc.2.1] at hrun;simp only [if_true,Nat.reduceAdd] at hrun
 have hg:∀ ox oy,(eqGuard op T ox oy (.agg lx.toArray) (.agg ly.toArray)).run P w=.ok () w:=fun ox oy=>run_eqGuard_agg w op T ox oy _ _ hc.2.2.1
 refine ⟨.bool b,?_,RdC.raw rfl⟩;unfold eqOf at hb;split at hb
 . cases hb;simp only [execOp,ho,hvx,hvy,Sem.run_bind,hg,Result.andThen_ok,run_eql_struct,hrun,Sem.run_pure]
 . cases hb;simp only [execOp,ho,hvx,hvy,Sem.run_bind,hg,Result.andThen_ok,run_neq_struct,hrun,Sem.run_pure]
 . cases hb
def x8k (η:List SB):SV->Option (List Int×List Nat)
 | .one h=>match xvg η h with
  | some (c,bs)=>(wei .u8 c).map fun l=>(l,bs)
  | none=>none
 | _=>none
theorem vwc {o:Oper} {σ:List SV} {η:List SB} {S D e:TypeId} {x:Operand} {d:Nat} (ho:o.op=.convert S D x) (hdst:o.dst=some d) (hS:P.underlying S=some (.slice e)) (he:P.underlying e=some (.int .u8)) (hD:P.underlying D=some .string)
 {l:List Int} {bs:List Nat} (h:x8k η (opdS Γ σ x)=some (l,bs)):xlu Γ P o σ η (d::orr x) bs [(d,.one (.dat (.raw (.string (strOfNums l)))))] (frzE η bs):=by
 refine xlu.val hdst (fun E ρ σ' η' a w hag hah hI=>?_);have hx:=hI.opd x;rw [hag.opd (fun t ht=>by simp [ht])] at hx;unfold x8k at h;split at h
 case h_2=>cases h
 rename_i hc hxe;split at h
 case h_2=>cases h
 rename_i c bs' hd;obtain ⟨l',hl,he'⟩:=Option.map_eq_some_iff.1 h
 cases he';rw [hxe] at hx
 have hgb:∀ b∈bs,gB η' b=gB η b:=fun b hb=>hah.gB hb
 have hd':=vkg hd hgb;obtain ⟨hw1,_,hfz⟩:=Went.frz bs η' hI.inv rfl (zzt hd') (fun _=>.inl rfl);have hx0:HRd η' ρ (MX E.Mo ρ η') w (a.eval x) hc:=hx;have hr:=y98 hw1.inv hd' hfz (HRd.mv hw1.mv hx0);rw [<-xuq hgb];obtain ⟨⟨ad,cap,hv⟩,hcells⟩:=hr.zh8 hl;refine ⟨.string (strOfNums l),w,ρ,?_,hw1,RdC.raw rfl⟩
 have hexec:∀ u,(convert S D (a.eval x)).run P w=.ok u w->(execOp a.eval o).run P w=.ok (.value u) w:=fun u hr=>by
  unfold execOp;rw [ho];simp only [Sem.run_bind,hr,Result.andThen_ok,Sem.run_pure]
 apply hexec;rw [hv]
 rcases hcells with hnil | ⟨b,off,cap',e1,hc⟩
 . have hl0:l=[]:=by simpa using hnil
   subst hl0
   cases ad with
   | none=>rw [run_convert_bytes_nil w S e hS he _ _ D hD];rfl
   | some ad=>
    rw [run_convert_bytes_string w S D e (some ad) _ cap hS he hD,run_bytesToString w ad _ cap [] (by simp [loadCells,loadCellsFrom])];rfl
 . rw [hv] at e1
   cases e1
   exact run_convert_bytes_arg w S e hS he b off l.length _ l rfl (fun i hi=>by
    have:=(hc i (.int .u8 l[i]) (by simp [hi])).2
    rw [this]
    simp [List.getD,hi]) D hD
def v17 (P:Program) (t:TypeId):Bool:=match P.underlying t with
 | some (.int _)=>true
 | some .string=>true
 | some .bool=>true
 | _=>false
def keyT (P:Program) (kt:TypeId) (l:List Value):Bool:=match P.underlying kt with
 | some (.struct fs)=>fs.toList.all (fun f=>v17 P f.type)&&decide (vqw P 2 kt=some l.length)&&fitT P 2 kt l
 | _=>false
theorem wex {kt:TypeId} {l:List Value} (h:keyT P kt l=true):∃ fs,P.underlying kt=some (.struct fs)/\(∀ f∈fs.toList,v17 P f.type=true)/\vqw P 2 kt=some l.length/\fitT P 2 kt l=true:=by
 unfold keyT at h;split at h
 . rename_i fs hu;simp only [Bool.and_eq_true,List.all_eq_true,decide_eq_true_eq] at h;exact ⟨fs,hu,h.1.1,h.1.2,h.2⟩
 . cases h
theorem v5w {g:TypeId->Option Nat}:∀(fs:List Field) (a n:Nat),zxc g fs a=some n->a<=n
 | [],a,n,h=>by simp only [zxc,Option.some.injEq] at h;omega
 | f::fs,a,n,h=>by
  simp only [zxc] at h;split at h
  . split at h
    . have:=v5w fs _ _ h;omega
    . cases h
  . cases h
theorem xe5 {t:TypeId} (h:v17 P t=true) (b:Bool) (n:Nat) (v:Value) (w:World):(Instr.checkKey b (n+1) t v).run P w=.ok () w:=by
 unfold v17 at h;split at h
 . rename_i hu;simp [Instr.checkKey,z6x hu]
 . rename_i hu;simp [Instr.checkKey,z6x hu]
 . rename_i hu;simp [Instr.checkKey,z6x hu]
 . cases h
theorem vp4 {kt:TypeId} {l:List Value} (hk:keyT P kt l=true) (b:Bool) (n:Nat) (w:World):(Instr.checkKey b (n+2) kt (.agg l.toArray)).run P w=.ok () w:=by
 obtain ⟨fs,hu,hlf,hfl,hfit⟩:=wex hk;unfold vqw at hfl;split at hfl
 case h_2=>cases hfl
 rename_i ds i hu' hi;rw [hu] at hu'
 cases hu';dsimp only at hfl;split at hfl
 . cases hfl
 split at hfl
 case h_2=>cases hfl
 rename_i nn hff;split at hfl
 case isFalse=>cases hfl
 have hnn:=Option.some.inj hfl
 have key:∀(fs:List Field) (acc:Nat),(∀ f∈fs,v17 P f.type=true)->zxc (vqw P 1) fs acc=some nn->∀ w,(forIn (m:=Sem) fs PUnit.unit fun f _=>(do
  if f.name≠"_" then Instr.checkKey b (n+1) f.type (<-part f.type l.toArray f.offset)
  pure (ForInStep.yield PUnit.unit):Sem (ForInStep PUnit))).run P w=.ok () w:=by
  intro fs
  induction fs with
  | nil=>intro acc _ _ w;simp
  | cons f fs ih=>
   intro acc hl hf w;simp only [zxc] at hf;split at hf
   case h_2=>cases hf
   rename_i k hk1;split at hf
   case isFalse=>cases hf
   rename_i hc;simp only [Bool.and_eq_true,bne_iff_ne,beq_iff_eq] at hc;have h1:=ih (acc+k) (fun g hg=>hl g (List.mem_cons_of_mem _ hg)) hf w;have h2:=v5w _ _ _ hf
   have hpos:aggT P f.type=false->0<k:=fun ha=>by rw [(v27 hk1 ha).1];exact Nat.one_pos
   have h3:=zf6 hk1 (l:=l) (off:=f.offset) (by rw [hc.2];omega) hpos w;have h4:=xe5 (hl f (List.mem_cons_self ..)) b n (valT P f.type ((l.drop f.offset).take k)) w;rw [List.forIn_cons];simp only [ne_eq,hc.1,not_false_eq_true,if_true,Sem.run_bind,h3,Result.andThen_ok,h4,Sem.run_pure];exact h1
 have:=key fs.toList 0 hlf hff w
 rw [show n+2=n+1+1 from rfl];rw [Instr.checkKey];simp only [Sem.run_bind,z6x hu,Result.andThen_ok];rw [<-Array.forIn_toList];simp at this ⊢;rw [this];rfl
theorem xns {kt:TypeId} {l l':List Value} {r:Bool} (hk:keyT P kt l=true) (he:eqL l l'=some r) (w:World):(Op.equal kt (.agg l.toArray) (.agg l'.toArray)).run P w=.ok r w:=by
 obtain ⟨fs,hu,hlf,hfl,hfit⟩:=wex hk;have h:=vlf 2 hfl 9998 rfl hfit he w
 have ha:aggT P kt=true:=by unfold aggT;rw [hu]
 unfold valT at h;rw [ha] at h;exact h
theorem z2a {l:List Value} {k:Value} {r:Bool} (h:kEq (.agg l.toArray) k=some r):∃ l',k=.agg (List.toArray l')/\eqL l l'=some r:=by
 cases k with
 | agg a=>exact ⟨a.toList,by simp,by simpa [kEq] using h⟩
 | _=>cases h
section
variable {η:List SB} {ρ:Nat->Value} {M:Nat->Nat->Prop} {w:World}
theorem z9c {kt:TypeId} {k:List Value} (hk:keyT P kt k=true) (w':World):∀{es:List MapEntry} {l:List (Value×SV)} (i:Nat),EnR η ρ M w es l->∀{r:Option SV},y1p l (.agg k.toArray)=some r->
 (r=none/\(Instr.findAsking kt (.agg k.toArray) es i).run P w'=.ok none w')\/∃ x j v,r=some x/\(Instr.findAsking kt (.agg k.toArray) es i).run P w'=.ok (some (j,v)) w'/\SVR0 η ρ M w v x
 | [],[],i,_,r,h=>by cases h;exact .inl ⟨rfl,rfl⟩
 | e::es,(k',x)::l,i,hr,r,h=>by
  simp only [y1p] at h;have hk1:e.key=k':=hr.1.1;rw [<-hk1] at h;unfold Instr.findAsking;split at h
  . rename_i he
    cases h;obtain ⟨l',e1,e2⟩:=z2a he;refine .inr ⟨x,i,e.val,rfl,?_,hr.1.2⟩;rw [e1];simp only [Sem.run_bind,xns hk e2,Result.andThen_ok,if_true,Sem.run_pure]
  . rename_i he;obtain ⟨l',e1,e2⟩:=z2a he;rw [e1];simp only [Sem.run_bind,xns hk e2,Result.andThen_ok,Bool.false_eq_true,if_false];exact z9c hk w' (i+1) hr.2 h
  . cases h
theorem vxv {kt:TypeId} {k:List Value} (hk:keyT P kt k=true) (w':World) {v:Value} {x:SV} (hv:SVR0 η ρ M w v x) (clk:Nat):∀{es:List MapEntry} {l l':List (Value×SV)} (i:Nat),EnR η ρ M w es l->updM l (.agg k.toArray) x=some l'->
 ((Instr.findAsking kt (.agg k.toArray) es i).run P w'=.ok none w'/\EnR η ρ M w (es++[{ key:=.agg k.toArray,val:=v,born:=clk }]) l')\/
 ∃ j u e,(Instr.findAsking kt (.agg k.toArray) es i).run P w'=.ok (some (i+j,u)) w'/\es[j]? = some e/\kEq (.agg k.toArray) e.key=some true/\EnR η ρ M w (es.modify j fun e=>{ e with key:=.agg k.toArray,val:=v }) l'
 | [],[],l',i,_,h=>by cases h;exact .inl ⟨rfl,⟨⟨rfl,hv⟩,trivial⟩⟩
 | e::es,(k',y)::l,l',i,hr,h=>by
  simp only [updM] at h;have hk1:e.key=k':=hr.1.1;rw [<-hk1] at h;unfold Instr.findAsking;split at h
  . rename_i he
    cases h;obtain ⟨l',e1,e2⟩:=z2a he;refine .inr ⟨0,e.val,e,?_,rfl,he,⟨⟨rfl,hv⟩,hr.2⟩⟩;rw [e1];simp only [Sem.run_bind,xns hk e2,Result.andThen_ok,if_true,Sem.run_pure,Nat.add_zero]
  . rename_i he;obtain ⟨l2,h2,rfl⟩:=Option.map_eq_some_iff.1 h;obtain ⟨l',e1,e2⟩:=z2a he;rw [e1];simp only [Sem.run_bind,xns hk e2,Result.andThen_ok,Bool.false_eq_true,if_false]
    rcases vxv hk w' hv clk (i+1) hr.2 h2 with ⟨h3,h4⟩ | ⟨j,u,e',h3,h4,h5,h6⟩
    . exact .inl ⟨h3,⟨⟨e1,hr.1.2⟩,h4⟩⟩
    . exact .inr ⟨j+1,u,e',by rw [show i+(j+1)=i+1+j by omega];exact h3,by simpa using h4,h5,⟨⟨e1,hr.1.2⟩,h6⟩⟩
  . cases h
end
theorem yz6 {kt:TypeId} {k:List Value} (hk:keyT P kt k=true) (es:List MapEntry) (w:World):(Instr.findKey kt (.agg k.toArray) es).run P w=(Instr.findAsking kt (.agg k.toArray) es 0).run P w:=by
 obtain ⟨fs,hu,_⟩:=wex hk
 cases es with
 | nil=>simp [Instr.findKey,z6x hu,Instr.findNow,Instr.findAsking]
 | cons e es=>simp [Instr.findKey,z6x hu,Instr.findNow,Instr.sameNow]
theorem xma {a b:Value} (h:kEq0 a b=some true) (n:Nat):Instr.sameBits n b a=true:=by
 cases a<;>cases b<;>simp only [kEq0] at h<;>first | (cases h;done) | skip
 . simp at h;subst h;simp [Instr.sameBits]
 . split at h
   . rename_i e;simp at h;subst e;subst h;simp [Instr.sameBits]
   . cases h
 . have e:=(MapKept.bytes_beq _ _).1 ((beq_toListBytes _ _).trans (Option.some.inj h));subst e;simp only [Instr.sameBits];exact (MapKept.bytes_beq _ _).2 rfl
theorem ylw (n:Nat):∀{a b:List Value},eqL a b=some true->(b.zip a).all (fun p=>Instr.sameBits n p.1 p.2)=true
 | [],[],_=>rfl
 | a::as,b::bs,h=>by
  simp only [eqL] at h;split at h
  . rename_i p q h1 h2;simp only [Option.some.injEq,Bool.and_eq_true] at h;rw [h.1] at h1;rw [h.2] at h2;simp only [List.zip_cons_cons,List.all_cons,xma h1,ylw n h2,Bool.and_self]
  . cases h
 | [],_::_,h=>by cases h
 | _::_,[],h=>by cases h
theorem ytj {k:List Value} {k':Value} (h:kEq (.agg k.toArray) k'=some true) (n:Nat):Instr.sameBits (n+1) k' (.agg k.toArray)=true:=by
 obtain ⟨l',rfl,he⟩:=z2a h;have h1:=zyz he;have h2:=ylw n he;simp only [Instr.sameBits,List.size_toArray,h1,beq_self_eq_true,Bool.true_and];exact h2
def rawL:List HC->Option (List Value)
 | []=>some []
 | .dat (.raw v)::l=>(rawL l).map (v::·)
 | _=>none
theorem wt8 {η:List SB} {ρ:Nat->Value} {M:Nat->Nat->Prop} {w:World}:∀{hs:List HC} {l vs:List Value},rawL hs=some l->HRL η ρ M w vs hs->vs=l
 | [],l,[],h,_=>by cases h;rfl
 | .dat (.raw v)::hs,l,u::vs,h,hr=>by
  simp only [rawL] at h;obtain ⟨l',h1,rfl⟩:=Option.map_eq_some_iff.1 h;rw [wt8 h1 hr.2,RdC.xcn hr.1]
def keyX:SV->Option Value
 | .one (.dat (.raw v))=>some v
 | .agg hs=>(rawL hs).map fun l=>.agg l.toArray
 | _=>none
def zw0 (P:Program) (kt:TypeId) (sh:Sh):Value->Bool
 | .agg a=>keyT P kt a.toList
 | v=>vhj sh v
theorem vl2 {kt:TypeId} {sh:Sh} {k:IntKind} {n:Int}:zw0 P kt sh (.int k n)=vhj sh (.int k n):=rfl
theorem zgd {kt:TypeId} {sh:Sh} {s:ByteArray}:zw0 P kt sh (.string s)=vhj sh (.string s):=rfl
theorem x8o {kt:TypeId} {sh:Sh} {b:Bool}:zw0 P kt sh (.bool b)=vhj sh (.bool b):=rfl
theorem yrx {kt:TypeId} {sh:Sh} {l:List Value}:zw0 P kt sh (.agg l.toArray)=keyT P kt l:=rfl
theorem vyb {η:List SB} {ρ:Nat->Value} {M:Nat->Nat->Prop} {w:World} {x:SV} {k v:Value} (h:keyX x=some k) (hr:SVR η ρ M w v x):v=k:=by
 unfold keyX at h;split at h
 . cases h;exact RdC.xcn hr
 . obtain ⟨l,h1,rfl⟩:=Option.map_eq_some_iff.1 h;obtain ⟨vs,rfl,hr⟩:=hr;rw [wt8 h1 hr]
 . cases h
theorem v5m {x:SV} {k:Value} (h:keyX x=some k) (hk:∀ a,k≠.agg a):keyV x=some k:=by
 unfold keyX at h;split at h
 . cases h;rfl
 . obtain ⟨l,h1,rfl⟩:=Option.map_eq_some_iff.1 h;exact absurd rfl (hk _)
 . cases h
theorem ypv {kt:TypeId} {sh:Sh} {k:Value} (h:zw0 P kt sh k=true) (hk:∀ a,k≠.agg a):vhj sh k=true:=by
 unfold zw0 at h;split at h
 . exact absurd rfl (hk _)
 . exact h
theorem z4u {o:Oper} {σ:List SV} {η:List SB} {T kt et:TypeId} {x y:Operand} {ok:Bool} {d b:Nat} (ho:o.op=.lookup T x y ok) (hdst:o.dst=some d) {ti tk:TI} (hti:mkTI P T=some ti) (hsh:ti.sh=.map kt et) (htk:mkTI P kt=some tk)
 {es:List (Value×SV)} (hm:ve1 η (opdS Γ σ x)=some (b,es)) {k:Value} (hkv:keyX (opdS Γ σ y)=some k) (hk:zw0 P kt tk.sh k=true) {r:Option SV} (hr:y1p es k=some r) {zero:SV} (hz:yz9 P et=some zero) :
 xlu Γ P o σ η (d::(orr x++orr y)) [b] [(d,y2m ok r zero)] []:=by
 by_cases hag0:∀ a,k≠.agg a
 . exact z2m ho hdst hti hsh htk hm (v5m hkv hag0) (ypv hk hag0) hr hz
 obtain ⟨ka,hka⟩:=Classical.not_forall.1 hag0;have hka:=Classical.not_not.1 hka;subst hka;obtain ⟨kl,rfl⟩:∃ kl,ka=List.toArray kl:=⟨ka.toList,by simp⟩
 have hkt:keyT P kt kl=true:=by simpa [zw0] using hk
 refine xlu.pure hdst (fun E ρ σ' η' a w hag hah hI=>?_);have hx:=hI.opd x;have hy:=hI.opd y;rw [hag.opd (fun t ht=>by simp [ht])] at hx hy;unfold ve1 at hm;split at hm
 case h_2=>cases hm
 rename_i b' hxe;split at hm
 case h_2=>cases hm
 rename_i es' hb
 cases hm;rw [hxe] at hx
 have hb':gB η' b=.map es:=by rw [hah.gB (by simp)];exact hb
 obtain ⟨bb,ents,clk,he,hh,hen,hB⟩:=hI.sbr hb' (by simp);have hkey:=vyb hkv hy;obtain ⟨dd,i,z,hd,hi,hz',_,_,_,_,_,hsh'⟩:=(xky hti).ex;have hmap:=y3w (hsh'.symm.trans hsh);subst hmap
 have hmv:a.eval x=.map (some bb):=by rw [hx.2.1,he]
 obtain ⟨zv,hzrun,hzr⟩:=v4x hz;have hck:=vp4 hkt ents.isEmpty 9998 w
 have hrun:∀ fo,(Instr.findAsking kt (.agg kl.toArray) ents.toList 0).run P w=.ok fo w->(Instr.lookup T (.map (some bb)) (.agg kl.toArray) ok).run P w=.ok (if ok then .tuple #[(fo.map (·.2)).getD zv,.bool fo.isSome] else (fo.map (·.2)).getD zv) w:=fun fo hfo=>by
  cases fo with
  | none=>cases ok<;>simp [Instr.lookup,z6x hd,getObj,Sem.run,hh,hck,yz6 hkt,hfo,hzrun]
  | some p=>cases ok<;>simp [Instr.lookup,z6x hd,getObj,Sem.run,hh,hck,yz6 hkt,hfo]
 rcases z9c hkt w 0 hen hr with ⟨rfl,hf⟩ | ⟨xx,j,v,rfl,hf,hv⟩
 . refine ⟨_,by simp only [execOp,ho,hmv,hkey,Sem.run_bind,hrun _ hf];rfl,?_⟩
   cases ok
   . exact SVR.of0 (hzr _ _ _ _)
   . exact ⟨[zv,.bool false],rfl,hzr _ _ _ _,RdC.raw rfl,trivial⟩
 . refine ⟨_,by simp only [execOp,ho,hmv,hkey,Sem.run_bind,hrun _ hf];rfl,?_⟩
   cases ok
   . exact SVR.of0 hv
   . exact ⟨[v,.bool true],rfl,hv,RdC.raw rfl,trivial⟩
theorem vok {o:Oper} {σ:List SV} {η:List SB} {T kt et:TypeId} {x y z:Operand} {b:Nat} (ho:o.op=.mapUpdate T x y z) (hdst:o.dst=none) {ti tk:TI} (hti:mkTI P T=some ti) (hsh:ti.sh=.map kt et) (htk:mkTI P kt=some tk)
 {es es':List (Value×SV)} (hm:ve1 η (opdS Γ σ x)=some (b,es)) {k:Value} (hkv:keyX (opdS Γ σ y)=some k) (hk:zw0 P kt tk.sh k=true) (hn:wnb (opdS Γ σ z)=true) (hu:updM es k (opdS Γ σ z)=some es') :
 xlu Γ P o σ η (orr x++orr y++orr z) [b] [] [(b,.map es')]:=by
 by_cases hag0:∀ a,k≠.agg a
 . exact yvu (.inl ho) hdst hti hsh htk hm (v5m hkv hag0) (ypv hk hag0) hn hu
 obtain ⟨ka,hka⟩:=Classical.not_forall.1 hag0;have hka:=Classical.not_not.1 hka;subst hka;obtain ⟨kl,rfl⟩:∃ kl,ka=List.toArray kl:=⟨ka.toList,by simp⟩
 have hkt:keyT P kt kl=true:=by simpa [zw0] using hk
 refine xlu.skip hdst (fun E ρ σ' η' a w hag hah hI=>?_);have hx:=hI.opd x;have hy:=hI.opd y;have hz:=hI.opd z;rw [hag.opd (fun t ht=>by simp [ht])] at hx hy hz;unfold ve1 at hm;split at hm
 case h_2=>cases hm
 rename_i b' hxe;split at hm
 case h_2=>cases hm
 rename_i es0 hb
 cases hm;rw [hxe] at hx
 have hb':gB η' b=.map es:=by rw [hah.gB (by simp)];exact hb
 obtain ⟨bb,ents,clk,he,hh,hen,hB⟩:=hI.sbr hb' (by simp);have hkey:=vyb hkv hy;obtain ⟨dd,i,zz,hd,hi,hz',_,_,_,_,_,hsh'⟩:=(xky hti).ex;have hmap:=y3w (hsh'.symm.trans hsh);subst hmap
 have hmv:a.eval x=.map (some bb):=by rw [hx.2.1,he]
 have hck:=vp4 hkt false 9998 w
 have hbk:bk (ρ b)=bb:=by rw [he];rfl
 have fin:∀ ob:Obj,(∃ en' clk',ob=.map en' clk'/\EnR η' ρ (MX E.Mo ρ η') w en'.toList es'/\xc5 en' clk')->(Instr.mapUpdate T (.map (some bb)) (.agg kl.toArray) (a.eval z)).run P w=.ok () { w with heap:=w.heap.setIfInBounds bb ob }->
  ∃ w' ρ',(execOp a.eval o).run P w=.ok .skip w'/\Went Γ E.Mo ρ η' w ρ' (appL [(b,.map es')] η') w':=fun ob hob hrun=>by
  obtain ⟨en',clk',rfl,hen',hB'⟩:=hob;have hlt:bb<w.heap.size:=(Array.getElem?_eq_some_iff.1 hh).1;refine ⟨{ w with heap:=w.heap.setIfInBounds bb (.map en' clk') },ρ,?_,Went.write hI.inv (ynn hb' (by simp)) rfl (by rw [he];simp [real]) rfl (fun o=>Iff.rfl) (by simp) rfl rfl rfl (fun kk hkk=>?_) (fun i arr T fz hi'=>?_) (fun oo u _ hc=>?_) (fun m=>⟨bb,en',clk',he,by simp [hlt],hen'.mv m,hB'⟩)⟩
  . simp [execOp,ho,hmv,hkey,hrun]
  . rw [hbk] at hkk;simp only [Array.getElem?_setIfInBounds_ne (Ne.symm hkk)]
  . by_cases e:i=bb
    . subst e;rw [hh] at hi';cases hi'
    . exact ⟨arr,T,fz,by simp only [Array.getElem?_setIfInBounds_ne (Ne.symm e)];exact hi',Nat.le_refl _⟩
  . rw [hbk] at hc;simp [World.cell?,hh] at hc
 rcases vxv hkt w (hz.to0 hn) clk 0 hen hu with ⟨hf,hen'⟩ | ⟨j,u,e,hf,hj,hq,hen'⟩
 . refine fin (.map (ents.push { key:=.agg kl.toArray,val:=a.eval z,born:=clk }) (clk+1)) ⟨_,_,rfl,by simpa using hen',hB.push _ _⟩ ?_;simp [Instr.mapUpdate,z6x hd,getObj,setObj,Sem.run,hh,hck,yz6 hkt,hf]
 . refine fin (.map (ents.modify j fun e=>{ e with key:=.agg kl.toArray,val:=a.eval z }) clk) ⟨_,_,rfl,by simpa using hen',hB.modify _ _ (fun _=>rfl)⟩ ?_;rw [Nat.zero_add] at hf
   have hj':ents[j]? = some e:=by simpa using hj
   have hsb:=ytj hq 9999;simp [Instr.mapUpdate,z6x hd,getObj,setObj,Sem.run,hh,hck,yz6 hkt,hf,Instr.keyThatStays,hj',hsb]
end Go.Hp
