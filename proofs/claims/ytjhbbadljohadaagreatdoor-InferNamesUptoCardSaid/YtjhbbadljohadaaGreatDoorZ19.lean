/- The proof, part Z19: Hj, Hl. -/
import Derived.Test.YtjhbbadljohadaaGreatDoorZ18
import Derived.ChangeKeysEq
import Derived.Laws.BytesArg
import Derived.Lib.UnsafeStr
import Derived.Lib.Builder
import Derived.LaidEql
import Derived.Laws.Externs
import Derived.KernelRfl
namespace Go.Hp
open Go Go.RowKit Go.Slot
variable {P:Program} {Γ:List (Nat×List Cell)}
def eqL:List Value→List Value→Option Bool
 | [],[]=>some true
 | a::as,b::bs=>match kEq a b,eqL as bs with
  | some p,some q=>some (p&&q)
  | _,_=>none
 | _,_=>none
def flatF (g:TypeId→Option Nat):List Field→Nat→Option Nat
 | [],acc=>some acc
 | f::fs,acc=>match g f.type with
  | some k=>if f.name != "_" &&f.offset==acc then flatF g fs (acc+k) else none
  | none=>none
def flatT (P:Program):Nat→TypeId→Option Nat
 | 0,_=>none
 | d + 1, t => match P.underlying t, P.info? t with
  | some ds,some i=>match ds with
   | .int _=>if i.size==1 then some 1 else none
   | .string=>if i.size==1 then some 1 else none
   | .bool=>if i.size==1 then some 1 else none
   | .array n e=>match flatT P d e with
    | some k=>if i.size==n*k then some (n*k) else none
    | none=>none
   | .struct fs=>if P.stoodInHeld t then none else match flatF (flatT P d) fs.toList 0 with
    | some n=>if i.size==n then some n else none
    | none=>none
   | _=>none
  | _,_=>none
def aggT (P:Program) (t:TypeId):Bool:=match P.underlying t with
 | some (.struct _)=>true
 | some (.array _ _)=>true
 | _=>false
def valT (P:Program) (t:TypeId) (l:List Value):Value:=if aggT P t then .agg l.toArray else l.getD 0 Go.undef
theorem eqL_len:∀{a b:List Value} {r:Bool},eqL a b=some r→a.length=b.length
 | [],[],_,_=>rfl
 | a::as,b::bs,r,h=>by
  simp only [eqL] at h
  split at h
  · rename_i p q h1 h2;simp [eqL_len h2]
  · cases h
theorem eqL_split:∀(k:Nat) {a b:List Value} {r:Bool},eqL a b=some r→∃ p q,eqL (a.take k) (b.take k)=some p∧eqL (a.drop k) (b.drop k)=some q∧r=(p&&q)
 | 0,a,b,r,h=>⟨true,r,by simp [eqL],by simpa using h,by simp⟩
 | k+1,[],[],r,h=>⟨true,true,by simp [eqL],by simp [eqL],by simp [eqL] at h;simp [h]⟩
 | k+1,[],_::_,r,h=>by simp [eqL] at h
 | k+1,_::_,[],r,h=>by simp [eqL] at h
 | k+1,a::as,b::bs,r,h=>by
  simp only [eqL] at h
  split at h
  · rename_i p q h1 h2
    cases h
    obtain ⟨p',q',h3,h4,rfl⟩:=eqL_split k h2
    exact ⟨p&&p',q',by simp [eqL,h1,h3],by simpa using h4,by simp [Bool.and_assoc]⟩
  · cases h
theorem flatT_size {d : Nat} {t : TypeId} {n : Nat} (h : flatT P d t = some n) : ∃ i, P.info? t = some i ∧ i.size = n := by
 cases d with
 | zero=>cases h
 | succ d=>
  unfold flatT at h
  split at h
  · rename_i ds i hu hi
    refine ⟨i,hi,?_⟩
    split at h
    · split at h
      · rename_i hs;cases h;simpa using hs
      · cases h
    · split at h
      · rename_i hs;cases h;simpa using hs
      · cases h
    · split at h
      · rename_i hs;cases h;simpa using hs
      · cases h
    · split at h
      · split at h
        · rename_i hs;cases h;simpa using hs
        · cases h
      · cases h
    · split at h
      · cases h
      · split at h
        · split at h
          · rename_i hs;cases h;simpa using hs
          · cases h
        · cases h
    · cases h
  · cases h
theorem run_isAgg {t:TypeId} {ds:TypeDesc} (hu:P.underlying t=some ds) (w:World):(isAgg t).run P w=.ok (aggT P t) w:=by
 unfold aggT
 rw [hu]
 cases ds<;>simp [isAgg,run_underlying' hu]
theorem flatT_und {d:Nat} {t:TypeId} {n:Nat} (h:flatT P d t=some n):∃ ds,P.underlying t=some ds:=by
 cases d with
 | zero=>cases h
 | succ d=>
  unfold flatT at h
  split at h
  · rename_i ds i hu hi;exact ⟨ds,hu⟩
  · cases h
theorem run_part {d:Nat} {t:TypeId} {k:Nat} (h:flatT P d t=some k) {l:List Value} {off:Nat} (hfit:off+k≤l.length) (hk:aggT P t=false→0<k) (w:World):(part t l.toArray off).run P w=.ok (valT P t ((l.drop off).take k)) w:=by
 obtain ⟨ds,hu⟩:=flatT_und h
 obtain ⟨i,hi,hs⟩:=flatT_size h
 unfold part valT
 simp only [Sem.run_bind,run_isAgg hu,Result.andThen_ok]
 cases ha:aggT P t
 · have hk:=hk ha
   have hlt:off<l.length:=by omega
   simp only [Bool.false_eq_true,if_false,List.getElem?_toArray,List.getElem?_eq_getElem hlt,Sem.run_pure]
   congr 1
   rw [List.getD_eq_getElem?_getD,List.getElem?_take,if_pos hk,List.getElem?_drop,Nat.add_zero,List.getElem?_eq_getElem hlt]
   rfl
 · simp only [if_true,Sem.run_bind,run_sizeOf' hi,hs,Result.andThen_ok,Sem.run_pure]
   congr 1
   simp [List.extract_eq_take_drop]
theorem flatT_leaf {d:Nat} {t:TypeId} {n:Nat} (h:flatT P d t=some n) (ha:aggT P t=false):n=1∧∃ ds,P.underlying t=some ds∧((∃ k,ds=.int k)∨ds=.string∨ds=.bool):=by
 cases d with
 | zero=>cases h
 | succ d=>
  unfold flatT at h
  split at h
  · rename_i ds i hu hi
    unfold aggT at ha
    rw [hu] at ha
    split at h
    · split at h<;>cases h;exact ⟨rfl,_,hu,.inl ⟨_,rfl⟩⟩
    · split at h<;>cases h;exact ⟨rfl,_,hu,.inr (.inl rfl)⟩
    · split at h<;>cases h;exact ⟨rfl,_,hu,.inr (.inr rfl)⟩
    · cases ha
    · cases ha
    · cases h
  · cases h
theorem run_leaf {t:TypeId} {ds:TypeDesc} (hu:P.underlying t=some ds) (hd:(∃ k,ds=.int k)∨ds=.string∨ds=.bool) {a b:Value} {r:Bool} (h:kEq a b=some r) (ht:(∀ k,ds=.int k→∃ q n,a=.int q n)∧(ds=.string→∃ s,a=.string s)∧(ds=.bool→∃ p,a=.bool p)) (d:Nat) (w:World) :
 (Op.equalIn (d+1) t a b).run P w=.ok r w:=by
 rcases hd with ⟨k,rfl⟩ | rfl | rfl
 · obtain ⟨q,n,rfl⟩:=ht.1 k rfl
   cases b<;>simp only [kEq] at h<;>first | (cases h;done) | skip
   split at h
   · rename_i e;subst e;cases h;simp [Op.equalIn,run_underlying' hu]
   · cases h
 · obtain ⟨s,rfl⟩:=ht.2.1 rfl
   cases b<;>simp only [kEq] at h<;>first | (cases h;done) | skip
   cases h
   simp [Op.equalIn,run_underlying' hu,beq_toListBytes,seq]
 · obtain ⟨p,rfl⟩:=ht.2.2 rfl
   cases b<;>simp only [kEq] at h<;>first | (cases h;done) | skip
   cases h
   simp [Op.equalIn,run_underlying' hu]
def fitD:TypeDesc→Value→Bool
 | .int k,.int k' _=>k==k'
 | .string,.string _=>true
 | .bool,.bool _=>true
 | _,_=>false
def fitF (g:TypeId→List Value→Bool) (sz:TypeId→Nat):List Field→List Value→Bool
 | [],_=>true
 | f::fs,l=>g f.type (l.take (sz f.type))&&fitF g sz fs (l.drop (sz f.type))
def fitN (g:List Value→Bool) (k:Nat):Nat→List Value→Bool
 | 0,_=>true
 | n+1,l=>g (l.take k)&&fitN g k n (l.drop k)
def fitT (P:Program):Nat→TypeId→List Value→Bool
 | 0,_,_=>false
 | d+1,t,l=>match P.underlying t with
  | some (.array n e)=>fitN (fitT P d e) (P.cellsOf e) n l
  | some (.struct fs)=>fitF (fitT P d) P.cellsOf fs.toList l
  | some ds=>match l with
   | [v]=>fitD ds v
   | _=>false
  | none=>false
theorem run_eqT:∀(d:Nat) {t:TypeId} {n:Nat},flatT P d t=some n→∀(m:Nat) {l l':List Value} {r:Bool},l.length=n→fitT P d t l=true→eqL l l'=some r→∀ w,(Op.equalIn (d+m) t (valT P t l) (valT P t l')).run P w=.ok r w
 | 0,_,_,h=>by cases h
 | d + 1, t, n, h => fun m l l' r hl hfit he w => by
  have hll:=eqL_len he
  cases ha:aggT P t with
  | false=>
   obtain ⟨rfl,ds,hu,hd⟩:=flatT_leaf h ha
   unfold fitT at hfit
   rw [hu] at hfit
   match l,l',hl,hll,he with
   | [a],[b],_,_,he=>
    unfold valT
    rw [ha]
    simp only [Bool.false_eq_true,if_false,List.getD_cons_zero]
    have hk:kEq a b=some r:=by
     simp only [eqL] at he
     split at he
     · rename_i p q h1 h2;cases h2;cases he;rw [h1];simp
     · cases he
    rw [show d+1+m=d+m+1 by omega]
    refine run_leaf hu hd hk ?_ (d+m) w
    rcases hd with ⟨k,rfl⟩ | rfl | rfl
    · refine ⟨fun k' _=>?_,fun e=>(by cases e),fun e=>(by cases e)⟩
      cases a<;>simp [fitD] at hfit
      exact ⟨_,_,rfl⟩
    · refine ⟨fun k' e=>(by cases e),fun _=>?_,fun e=>(by cases e)⟩
      cases a<;>simp [fitD] at hfit
      exact ⟨_,rfl⟩
    · refine ⟨fun k' e=>(by cases e),fun e=>(by cases e),fun _=>?_⟩
      cases a<;>simp [fitD] at hfit
      exact ⟨_,rfl⟩
  | true=>
   unfold valT
   rw [ha]
   simp only [if_true]
   unfold flatT at h
   split at h
   case h_2=>cases h
   rename_i ds i hu hi
   unfold fitT at hfit
   rw [hu] at hfit
   split at h
   case h_1 | h_2 | h_3 | h_6=>first | (unfold aggT at ha;rw [hu] at ha;cases ha) | cases h
   ·
    rename_i nn e
    split at h
    case h_2=>cases h
    rename_i k hk
    split at h
    case isFalse=>cases h
    cases h
    obtain ⟨ie,hie,hse⟩:=flatT_size hk
    have hce:P.cellsOf e=k:=by simp [Program.cellsOf,hie,hse]
    rw [show d+1+m=d+m+1 by omega,run_equalIn_array w (d+m) l.toArray l'.toArray hu hie,hce]
    simp only [hce] at hfit
    have key:∀(c j:Nat) {r:Bool},c+j=nn→fitN (fitT P d e) k c (l.drop (j*k))=true→eqL (l.drop (j*k)) (l'.drop (j*k))=some r→(Op.eqItems (d+m) e k l.toArray l'.toArray (List.range' j c)).run P w=.ok r w:=by
     intro c
     induction c with
     | zero=>
      intro j r hj _ he
      have:l.drop (j*k)=[]:=List.drop_eq_nil_of_le (by rw [hl,←hj];simp)
      have h2:l'.drop (j*k)=[]:=List.drop_eq_nil_of_le (by rw [←hll,hl,←hj];simp)
      rw [this,h2] at he
      cases he
      simp [Op.eqItems]
     | succ c ih=>
      intro j r hj hf he
      simp only [fitN,Bool.and_eq_true] at hf
      obtain ⟨p,q,h1,h2,rfl⟩:=eqL_split k he
      have hfit1:j*k+k≤l.length:=by
       rw [hl,←hj]
       have:(j+1)*k≤(c+1+j)*k:=Nat.mul_le_mul_right _ (by omega)
       rw [Nat.add_mul,Nat.one_mul] at this
       exact this
      have hpos:aggT P e=false→0<k:=fun ha=>by rw [(flatT_leaf hk ha).1];exact Nat.one_pos
      rw [List.range'_succ]
      have h3:=run_eqT d hk m (by simp;omega) hf.1 h1 w
      simp only [Op.eqItems,Sem.run_bind,run_part hk hfit1 hpos,run_part hk (l:=l') (by rw [←hll];exact hfit1) hpos,Result.andThen_ok,h3]
      rw [List.drop_drop,List.drop_drop,show j*k+k=(j+1)*k by rw [Nat.add_mul,Nat.one_mul]] at h2
      have hf2:=hf.2
      rw [List.drop_drop,show j*k+k=(j+1)*k by rw [Nat.add_mul,Nat.one_mul]] at hf2
      cases p
      · simp
      · simp only [Bool.not_true,Bool.false_eq_true,if_false,Bool.true_and]
        exact ih (j+1) (by omega) hf2 h2
    rw [List.range_eq_range']
    exact key nn 0 (by omega) (by simpa using hfit) (by simpa using he)
   ·
    rename_i fs
    split at h
    · cases h
    rename_i hsi
    split at h
    case h_2=>cases h
    rename_i nn hff
    split at h
    case isFalse=>cases h
    cases h
    have hfo:P.fieldsOf t=fs:=by simp [Program.fieldsOf,hu]
    rw [show d+1+m=d+m+1 by omega,run_equalIn_struct w (d+m) t _ _ (by rw [hfo];exact hu) (by simpa using hsi),hfo]
    have key:∀(fs:List Field) (acc:Nat) {r:Bool},flatF (flatT P d) fs acc=some n→fitF (fitT P d) P.cellsOf fs (l.drop acc)=true→eqL (l.drop acc) (l'.drop acc)=some r→(Op.eqFields (d+m) l.toArray l'.toArray fs).run P w=.ok r w:=by
     intro fs
     induction fs with
     | nil=>
      intro acc r hf _ he
      simp only [flatF,Option.some.injEq] at hf
      have:l.drop acc=[]:=List.drop_eq_nil_of_le (by omega)
      have h2:l'.drop acc=[]:=List.drop_eq_nil_of_le (by omega)
      rw [this,h2] at he
      cases he
      simp [Op.eqFields]
     | cons f fs ih=>
      intro acc r hf hfi he
      simp only [flatF] at hf
      split at hf
      case h_2=>cases hf
      rename_i k hk
      split at hf
      case isFalse=>cases hf
      rename_i hc
      simp only [Bool.and_eq_true,bne_iff_ne,ne_eq,beq_iff_eq] at hc
      obtain ⟨ie,hie,hse⟩:=flatT_size hk
      have hce:P.cellsOf f.type=k:=by simp [Program.cellsOf,hie,hse]
      simp only [fitF,hce,Bool.and_eq_true] at hfi
      obtain ⟨p,q,h1,h2,rfl⟩:=eqL_split k he
      have hmono:∀(fs:List Field) (a n:Nat),flatF (flatT P d) fs a=some n→a≤n:=by
       intro fs
       induction fs with
       | nil=>intro a n h;simp only [flatF,Option.some.injEq] at h;omega
       | cons f fs ih=>
        intro a n h
        simp only [flatF] at h
        split at h
        · split at h
          · have:=ih _ _ h;omega
          · cases h
        · cases h
      have hfit1:acc+k≤l.length:=by have:=hmono _ _ _ hf;omega
      have hpos:aggT P f.type=false→0<k:=fun ha=>by rw [(flatT_leaf hk ha).1];exact Nat.one_pos
      have h3:=run_eqT d hk m (by simp;omega) hfi.1 h1 w
      simp only [Op.eqFields,hc.1,ne_eq,not_false_eq_true,if_true,hc.2,Sem.run_bind,run_part hk hfit1 hpos,run_part hk (l:=l') (by rw [←hll];exact hfit1) hpos,Result.andThen_ok,h3]
      rw [List.drop_drop,List.drop_drop] at h2
      have hf2:=hfi.2
      rw [List.drop_drop] at hf2
      cases p
      · simp
      · simp only [Bool.not_true,Bool.false_eq_true,if_false,Bool.true_and]
        exact ih (acc+k) hf hf2 h2
    exact key fs.toList 0 hff (by simpa using hfit) (by simpa using he)
def rawsH:List HC→Option (List Value)
 | []=>some []
 | .dat (.raw v)::r=>(rawsH r).map (v::·)
 | _::_=>none
theorem rawsH_ok {η:List SB} {ρ:Nat→Value} {M:Nat→Nat→Prop} {w:World}:∀{hs:List HC} {l vs:List Value},rawsH hs=some l→HRL η ρ M w vs hs→vs=l
 | [],l,vs,h,hr=>by
  cases h
  cases vs with
  | nil=>rfl
  | cons _ _=>exact hr.elim
 | x::hs,l,vs,h,hr=>by
  cases vs with
  | nil=>exact hr.elim
  | cons v vs=>
   unfold rawsH at h
   split at h
   · rename_i heq;cases heq
   · rename_i u r heq
     cases heq
     obtain ⟨l',hl,rfl⟩:=Option.map_eq_some_iff.1 h
     rw [rawsH_ok hl hr.2,RdC.raw_inv hr.1]
   · cases h
def eqOf (op:BinOp) (r:Bool):Option Bool:=match op with
 | .eql=>some r
 | .neq=>some (!r)
 | _=>none
def aggEqH (P:Program) (T:TypeId) (op:BinOp) (x y:SV):Option SV:=match x,y with
 | .agg hx,.agg hy=>match rawsH hx,rawsH hy with
  | some lx,some ly=>if flatT P 9 T=some lx.length∧aggT P T=true∧P.eqGuardType P.depth T=false∧fitT P 9 T lx=true then
   match eqL lx ly with
   | some r=>(eqOf op r).map fun b=>.one (.dat (.raw (.bool b)))
   | none=>none
   else none
  | _,_=>none
 | _,_=>none
theorem s_aggEq {o:Oper} {σ:List SV} {η:List SB} {op:BinOp} {T U:TypeId} {x y:Operand} {d:Nat} (ho:o.op=.binOp op T x y U) (hdst:o.dst=some d) {v:SV} (h:aggEqH P T op (opdS Γ σ x) (opdS Γ σ y)=some v) :
 HStep Γ P o σ η (d::(orr x++orr y)) [] [(d,v)] []:=by
 refine HStep.pure hdst (fun E ρ σ' η' a w hag hah hI=>?_)
 have hx:=hI.opd x
 have hy:=hI.opd y
 rw [hag.opd (fun t ht=>by simp [ht])] at hx hy
 unfold aggEqH at h
 split at h
 case h_2=>cases h
 rename_i hsx hsy ex ey
 split at h
 case h_2=>cases h
 rename_i lx ly h1 h2
 split at h
 case isFalse=>cases h
 rename_i hc
 split at h
 case h_2=>cases h
 rename_i r hr
 obtain ⟨b,hb,rfl⟩:=Option.map_eq_some_iff.1 h
 rw [ex] at hx
 rw [ey] at hy
 obtain ⟨vx,hvx,hrx⟩:=hx
 obtain ⟨vy,hvy,hry⟩:=hy
 rw [rawsH_ok h1 hrx] at hvx
 rw [rawsH_ok h2 hry] at hvy
 have hrun:=run_eqT 9 hc.1 9991 rfl hc.2.2.2 hr w
 unfold valT at hrun
 rw [hc.2.1] at hrun
 simp only [if_true,Nat.reduceAdd] at hrun
 have hg:∀ ox oy,(eqGuard op T ox oy (.agg lx.toArray) (.agg ly.toArray)).run P w=.ok () w:=fun ox oy=>run_eqGuard_agg w op T ox oy _ _ hc.2.2.1
 refine ⟨.bool b,?_,RdC.raw rfl⟩
 unfold eqOf at hb
 split at hb
 · cases hb
   simp only [execOp,ho,hvx,hvy,Sem.run_bind,hg,Result.andThen_ok,run_eql_struct,hrun,Sem.run_pure]
 · cases hb
   simp only [execOp,ho,hvx,hvy,Sem.run_bind,hg,Result.andThen_ok,run_neq_struct,hrun,Sem.run_pure]
 · cases hb
def bytesH (η:List SB):SV→Option (List Int×List Nat)
 | .one h=>match toDat η h with
  | some (c,bs)=>(toInts .u8 c).map fun l=>(l,bs)
  | none=>none
 | _=>none
theorem s_bytesStr {o:Oper} {σ:List SV} {η:List SB} {S D e:TypeId} {x:Operand} {d:Nat} (ho:o.op=.convert S D x) (hdst:o.dst=some d) (hS:P.underlying S=some (.slice e)) (he:P.underlying e=some (.int .u8)) (hD:P.underlying D=some .string)
 {l:List Int} {bs:List Nat} (h:bytesH η (opdS Γ σ x)=some (l,bs)):HStep Γ P o σ η (d::orr x) bs [(d,.one (.dat (.raw (.string (strOfNums l)))))] (frzE η bs):=by
 refine HStep.val hdst (fun E ρ σ' η' a w hag hah hI=>?_)
 have hx:=hI.opd x
 rw [hag.opd (fun t ht=>by simp [ht])] at hx
 unfold bytesH at h
 split at h
 case h_2=>cases h
 rename_i hc hxe
 split at h
 case h_2=>cases h
 rename_i c bs' hd
 obtain ⟨l',hl,he'⟩:=Option.map_eq_some_iff.1 h
 cases he'
 rw [hxe] at hx
 have hgb:∀ b∈bs,gB η' b=gB η b:=fun b hb=>hah.gB hb
 have hd':=toDat_congr hd hgb
 obtain ⟨hw1,_,hfz⟩:=Went.frz bs η' hI.inv rfl (toDat_arr hd') (fun _=>.inl rfl)
 have hx0:HRd η' ρ (MX E.Mo ρ η') w (a.eval x) hc:=hx
 have hr:=toDat_ok hw1.inv hd' hfz (HRd.mv hw1.mv hx0)
 rw [←frzE_congr hgb]
 obtain ⟨⟨ad,cap,hv⟩,hcells⟩:=hr.ints_cells hl
 refine ⟨.string (strOfNums l),w,ρ,?_,hw1,RdC.raw rfl⟩
 have hexec:∀ u,(convert S D (a.eval x)).run P w=.ok u w→(execOp a.eval o).run P w=.ok (.value u) w:=fun u hr=>by
  unfold execOp
  rw [ho]
  simp only [Sem.run_bind,hr,Result.andThen_ok,Sem.run_pure]
 apply hexec
 rw [hv]
 rcases hcells with hnil | ⟨b,off,cap',e1,hc⟩
 · have hl0:l=[]:=by simpa using hnil
   subst hl0
   cases ad with
   | none=>rw [run_convert_bytes_nil w S e hS he _ _ D hD];rfl
   | some ad=>
    rw [run_convert_bytes_string w S D e (some ad) _ cap hS he hD,run_bytesToString w ad _ cap [] (by simp [loadCells,loadCellsFrom])]
    rfl
 · rw [hv] at e1
   cases e1
   exact run_convert_bytes_arg w S e hS he b off l.length _ l rfl (fun i hi=>by
    have:=(hc i (.int .u8 l[i]) (by simp [hi])).2
    rw [this]
    simp [List.getD,hi]) D hD
end Go.Hp

namespace Go.Hp
open Go Go.RowKit Go.Slot
variable {P:Program} {Γ:List (Nat×List Cell)}
def ptrNilC:SV→Option Bool
 | .one (.dat (.raw (.pointer none)))=>some true
 | .one (.ptr _ _) | .one (.pel _ _ _ _) | .elt _=>some false
 | _=>none
def samePtr:SV→SV→Bool
 | .one (.ptr b f),.one (.ptr b' f')=>b==b'&&f==f'
 | _,_=>false
def ptrEqH (op:BinOp) (x y:SV):Option SV:=match ptrNilC y with
 | some true=>match ptrNilC x with
  | some r=>(eqOf op r).map fun b=>.one (.dat (.raw (.bool b)))
  | none=>none
 | _=>match samePtr x y with
  | true=>(eqOf op true).map fun b=>.one (.dat (.raw (.bool b)))
  | false=>none
theorem run_ptr_nil {T t:TypeId} (hT:P.underlying T=some (.pointer t)) (v:Value) (r:Bool) (hv:(r=true∧v=.pointer none)∨(r=false∧∃ a,v=.pointer (some a))) (d:Nat) (w:World):(Op.equalIn (d+1) T v (.pointer none)).run P w=.ok r w:=by
 rcases hv with ⟨rfl,rfl⟩ | ⟨rfl,a,rfl⟩<;>simp [Op.equalIn,run_underlying' hT]
theorem run_ptr_same {T t:TypeId} {j:TypeInfo} (hT:P.underlying T=some (.pointer t)) (ht:P.info? t=some j) (a:Addr) (d:Nat) (w:World):(Op.equalIn (d+1) T (.pointer (some a)) (.pointer (some a))).run P w=.ok true w:=by
 simp [Op.equalIn,run_underlying' hT,sizeOf,typeInfo,ht,run_sameAddr_same]
theorem run_binOp_ptr {op:BinOp} {T:TypeId} {x y:Option Addr} {r b:Bool} (hb:eqOf op r=some b) (h:∀ d w,(Op.equalIn (d+1) T (.pointer x) (.pointer y)).run P w=.ok r w) (w:World):(binOp op T (.pointer x) (.pointer y)).run P w=.ok (.bool b) w:=by
 unfold eqOf at hb
 split at hb<;>first | (cases hb;done) | skip
 · cases hb
   simp only [binOp]
   simp [Op.equal,Op.maxDepth,h 9999]
 · cases hb
   simp only [binOp]
   simp [Op.equal,Op.maxDepth,h 9999]
theorem s_ptrEq {o:Oper} {σ:List SV} {η:List SB} {op:BinOp} {T U t:TypeId} {j:TypeInfo} {x y:Operand} {d:Nat} (ho:o.op=.binOp op T x y U) (hdst:o.dst=some d) (hT:P.underlying T=some (.pointer t)) (ht:P.info? t=some j) {v:SV}
 (h:ptrEqH op (opdS Γ σ x) (opdS Γ σ y)=some v):HStep Γ P o σ η (d::(orr x++orr y)) [] [(d,v)] []:=by
 refine HStep.pure hdst (fun E ρ σ' η' a w hag hah hI=>?_)
 have hx:=hI.opd x
 have hy:=hI.opd y
 rw [hag.opd (fun t ht=>by simp [ht])] at hx hy
 have nilv:∀{v:Value} {s:SV} {r:Bool},SVR η' ρ (MX E.Mo ρ η') w v s→ptrNilC s=some r→(r=true∧v=.pointer none)∨(r=false∧∃ a,v=.pointer (some a)):=fun {v s r} hv hr=>by
  unfold ptrNilC at hr
  split at hr<;>first | (cases hr;done) | (cases hr;skip)
  · exact .inl ⟨rfl,RdC.raw_inv hv⟩
  · exact .inr ⟨rfl,_,hv.2⟩
  · exact .inr ⟨rfl,_,hv.2⟩
  · obtain ⟨b,oo,vs,e,_⟩:=hv;exact .inr ⟨rfl,_,e⟩
 have hexec:∀(ax ay:Option Addr) (b:Bool),a.eval x=.pointer ax→a.eval y=.pointer ay→(binOp op T (.pointer ax) (.pointer ay)).run P w=.ok (.bool b) w→(execOp a.eval o).run P w=.ok (.value (.bool b)) w:=fun ax ay b e1 e2 hr=>by
  have hg:∀ ox oy,(eqGuard op T ox oy (.pointer ax) (.pointer ay)).run P w=.ok () w:=fun ox oy=>by cases op<;>simp [eqGuard]
  unfold execOp
  rw [ho]
  simp only [e1,e2,Sem.run_bind,hg,Result.andThen_ok,hr,Sem.run_pure]
 unfold ptrEqH at h
 split at h
 · rename_i hny
   split at h
   · rename_i r hnx
     obtain ⟨b,hb,rfl⟩:=Option.map_eq_some_iff.1 h
     rcases nilv hy hny with ⟨_,e2⟩ | ⟨e,_⟩
     · have hv:=nilv hx hnx
       have hv':∃ ax,a.eval x=.pointer ax:=by rcases hv with ⟨_,e⟩ | ⟨_,ad,e⟩<;>exact ⟨_,e⟩
       obtain ⟨ax,ex⟩:=hv'
       refine ⟨.bool b,hexec ax none b ex e2 (run_binOp_ptr hb (fun d w=>run_ptr_nil hT _ r (by rw [←ex];exact hv) d w) w),RdC.raw rfl⟩
     · cases e
   · cases h
 · split at h
   · rename_i hs
     obtain ⟨b,hb,rfl⟩:=Option.map_eq_some_iff.1 h
     have hsv:∃ bb f,opdS Γ σ x=.one (.ptr bb f)∧opdS Γ σ y=.one (.ptr bb f):=by
      generalize opdS Γ σ x=sx at hs
      generalize opdS Γ σ y=sy at hs
      unfold samePtr at hs
      split at hs
      · simp only [Bool.and_eq_true,beq_iff_eq] at hs
        obtain ⟨rfl,rfl⟩:=hs
        exact ⟨_,_,rfl,rfl⟩
      · cases hs
     obtain ⟨bb,f,e1,e2⟩:=hsv
     rw [e1] at hx
     rw [e2] at hy
     exact ⟨.bool b,hexec _ _ b hx.2 hy.2 (run_binOp_ptr hb (fun d w=>run_ptr_same hT ht _ d w) w),RdC.raw rfl⟩
   · cases h
def boxAt (η:List SB):SV→Option (Nat×Nat×TypeId×Nat)
 | .one (.ptr b off)=>match gB η b with
  | .box hs (some T)=>if off<hs.length then some (b,off,T,hs.length) else none
  | _=>none
 | _=>none
theorem boxAt_ok {E : HEnv} {ρ : Nat → Value} {σ' : List SV} {η η' : List SB} {a : Act} {w : World} (hI : RI Γ E ρ σ' η' a w) {v : Value} {x : SV} {b off n : Nat} {T : TypeId} (h : boxAt η x = some (b, off, T, n)) (hb : gB η' b = gB η b) (hx : SVR η' ρ (MX E.Mo ρ η') w v x) :
 x=.one (.ptr b off)∧∃ ad:Addr,v=.pointer (some ad)∧ad.off=off∧off<n∧w.shape? ad.block=some (T,n):=by
 unfold boxAt at h
 split at h
 · rename_i b' off'
   split at h
   · rename_i hs T' hg
     split at h
     · rename_i hlt
       cases h
       have hg':gB η' b=.box hs (some T):=by rw [hb];exact hg
       obtain ⟨bb,vs,T2,e,hh,hr,hT⟩:=hI.sbr hg' (by simp)
       have hbk:bk (ρ b)=bb:=by rw [e];rfl
       refine ⟨rfl,_,hx.2,rfl,hlt,?_⟩
       simp only [hbk]
       unfold World.shape?
       rw [hh,hT T rfl]
       simp [hr.length]
     · cases h
   · cases h
 · cases h
theorem s_toUnsafe {o:Oper} {σ:List SV} {η:List SB} {S D t:TypeId} {j:TypeInfo} {x:Operand} {d b off n:Nat} {T:TypeId} (ho:o.op=.convert S D x) (hdst:o.dst=some d) (hS:P.underlying S=some (.pointer t)) (hD:P.underlying D=some .unsafePointer) (ht:P.info? t=some j) (hj:j.size≠0)
 (hb:boxAt η (opdS Γ σ x)=some (b,off,T,n)):HStep Γ P o σ η (d::orr x) [b] [(d,.one (.ptr b off))] []:=by
 refine HStep.pure hdst (fun E ρ σ' η' a w hag hah hI=>?_)
 have hx:=hI.opd x
 rw [hag.opd (fun t ht=>by simp [ht])] at hx
 obtain ⟨e0,ad,e1,e2,e3,e4⟩:=boxAt_ok hI hb (hah.gB (by simp)) hx
 rw [e0] at hx
 have hrun:=Go.Lib.run_to_unsafe (P:=P) w ad hS hD ht hj e4 (by omega)
 refine ⟨a.eval x,?_,hx⟩
 unfold execOp
 rw [ho]
 simp only [e1,Sem.run_bind,hrun,Result.andThen_ok,Sem.run_pure]
theorem s_fromUnsafe {o:Oper} {σ:List SV} {η:List SB} {S D u:TypeId} {j:TypeInfo} {x:Operand} {d b off n:Nat} {T:TypeId} (ho:o.op=.convert S D x) (hdst:o.dst=some d) (hS:P.underlying S=some .unsafePointer) (hD:P.underlying D=some (.pointer u)) (hu:P.info? u=some j)
 (hlies:liesAt P P.depth T (n / P.cellsOf T) off u 1=true) (hb:boxAt η (opdS Γ σ x)=some (b,off,T,n)):HStep Γ P o σ η (d::orr x) [b] [(d,.one (.ptr b off))] []:=by
 refine HStep.pure hdst (fun E ρ σ' η' a w hag hah hI=>?_)
 have hx:=hI.opd x
 rw [hag.opd (fun t ht=>by simp [ht])] at hx
 obtain ⟨e0,ad,e1,e2,e3,e4⟩:=boxAt_ok hI hb (hah.gB (by simp)) hx
 rw [e0] at hx
 have hrun:=Go.Lib.run_from_unsafe (P:=P) w ad hS hD hu e4 (by rw [e2];exact hlies)
 refine ⟨a.eval x,?_,hx⟩
 unfold execOp
 rw [ho]
 simp only [e1,Sem.run_bind,hrun,Result.andThen_ok,Sem.run_pure]
def isNoEsc (P:Program) (f:FuncId):Bool:=match P.funcs[f]? with
 | some fn=>fn.body.isNone&&fn.name == "internal/abi.NoEscape" &&fn.origin == ""
 | none=>false
theorem noEsc_rows:Extern.allNextRows.lookup "internal/abi.NoEscape" = none∧Extern.allNextRows.lookup "" = none∧Extern.allGenericRows.lookup "internal/abi.NoEscape" = none∧Extern.allTypedRows.lookup "internal/abi.NoEscape" = none:=by
 refine ⟨?_,?_,?_,?_⟩<;>kernel_rfl
theorem noEsc_row:Extern.allRows.lookup "internal/abi.NoEscape" = some Extern.AbiNoEscape.same:=by kernel_rfl
theorem run_noEsc {f:FuncId} (h:isNoEsc P f=true) (v:Value) (w:World):(callFunc f #[v]).run P w=.ok (.value v) w:=by
 unfold isNoEsc at h
 split at h
 · rename_i fn hf
   simp only [Bool.and_eq_true,beq_iff_eq] at h
   obtain ⟨⟨hb,hn⟩,ho⟩:=h
   obtain ⟨r1,r2,r3,r4⟩:=noEsc_rows
   have h1:Extern.findNext fn=none:=by
    unfold Extern.findNext
    simp only [hn,ho,r1,r2,Option.map_none]
    rfl
   have h2:Extern.find fn=some Extern.AbiNoEscape.same:=by
    unfold Extern.find
    simp only [hn,ho,r3,r4,noEsc_row,Option.map_none]
    rfl
   rw [run_callFunc_extern hf (by rw [hn];rfl) hb h1 h2,Go.Lib.run_noEscape]
   rfl
 · cases h
theorem s_noEsc {o:Oper} {σ:List SV} {η:List SB} {f:FuncId} {x:Operand} {ts:Array TypeId} {d:Nat} (ho:o.op=.call { callee:=.value (.func f),args:=#[x],argTypes:=ts }) (hdst:o.dst=some d) (hf:isNoEsc P f=true):HStep Γ P o σ η (d::orr x) [] [(d,opdS Γ σ x)] []:=by
 refine HStep.pure hdst (fun E ρ σ' η' a w hag hah hI=>?_)
 have hx:=hI.opd x
 rw [hag.opd (fun t ht=>by simp [ht])] at hx
 refine ⟨a.eval x,?_,hx⟩
 have hrun:=run_noEsc hf (a.eval x) w
 have he:a.eval (.func f)=.func (.func f) #[] #[]:=rfl
 unfold execOp
 rw [ho]
 simp [resolve,Deferred.ofValue,he,invoke,hrun]
def usdH:SV→Option SV
 | .one (.sl b 1 0 n)=>if 0<n then some (.one (.pel b 1 0 0)) else none
 | _=>none
theorem s_usd {o:Oper} {σ:List SV} {η:List SB} {x:Operand} {ts:Array TypeId} {d:Nat} (ho:o.op=.call { callee:=.builtin .unsafeSliceData,args:=#[x],argTypes:=ts }) (hdst:o.dst=some d) {v:SV} (h:usdH (opdS Γ σ x)=some v) :
 HStep Γ P o σ η (d::orr x) [] [(d,v)] []:=by
 refine HStep.pure hdst (fun E ρ σ' η' a w hag hah hI=>?_)
 have hx:=hI.opd x
 rw [hag.opd (fun t ht=>by simp [ht])] at hx
 unfold usdH at h
 split at h
 · rename_i b n e
   split at h
   · rename_i hn
     cases h
     rw [e] at hx
     obtain ⟨hob,ad,cap,hv,hle,hcap⟩:=hx
     obtain ⟨_,had,_⟩:=hcap (by omega)
     subst had
     refine ⟨.pointer (some ⟨bk (ρ b),0*1,none⟩),?_,hob,rfl⟩
     rw [exec_len ho,show (#[x]:Array Operand).map a.eval=#[a.eval x] from by simp,hv]
     simp only [builtin,Sem.run_bind,Go.Lib.run_unsafeSliceData_row w ts o.type ⟨bk (ρ b),0*1,none⟩ n cap (by omega)]
     rfl
   · cases h
 · cases h
def ptrElem (P:Program) (t:TypeId):Option TypeId:=match P.underlying t with
 | some (.pointer e)=>some e
 | _=>none
theorem ptrElem_eq {t e:TypeId} (h:ptrElem P t=some e):P.underlying t=some (.pointer e):=by
 unfold ptrElem at h
 split at h
 · rename_i e' hu;cases h;exact hu
 · cases h
def byteB (n:Int):Bool:=decide (0≤n)&&decide (n<256)
def usH (P:Program) (η:List SB) (pt:TypeId) (x y:SV):Option (Nat×List Int):=match x,y with
 | .one (.pel b 1 0 0),.one (.dat (.raw (.int .i64 n)))=>match gB η b with
  | .arr (.ints .u8 l) _ (some e)=>if ptrElem P pt=some e∧P.cellsOf e=1∧n=(l.length:Int)∧0<l.length∧l.length≤9223372036854775807∧l.all byteB=true then some (b,l) else none
  | _=>none
 | _,_=>none
theorem World.freeze_other (w:World) (a:Addr) (n k:Nat) (h:k≠a.block):(w.freeze a n).heap[k]? = w.heap[k]?:=by
 unfold World.freeze
 split
 · rfl
 · simp only [Array.getElem?_modify]
   rw [if_neg (Ne.symm h)]
theorem s_us {o:Oper} {σ:List SV} {η:List SB} {x y:Operand} {pt it:TypeId} {d:Nat} (ho:o.op=.call { callee:=.builtin .unsafeString,args:=#[x,y],argTypes:=#[pt,it] }) (hdst:o.dst=some d) {b:Nat} {l:List Int} (h:usH P η pt (opdS Γ σ x) (opdS Γ σ y)=some (b,l)) :
 HStep Γ P o σ η (d::(orr x++orr y)) [b] [(d,.one (.dat (.raw (.string (strOfNums l)))))] [(b,.dead)]:=by
 refine HStep.val hdst (fun E ρ σ' η' a w hag hah hI=>?_)
 have hx:=hI.opd x
 have hy:=hI.opd y
 rw [hag.opd (fun t ht=>by simp [ht])] at hx hy
 unfold usH at h
 split at h
 case h_2=>cases h
 rename_i b' n ex ey
 split at h
 case h_2=>cases h
 rename_i l' k e hb
 split at h
 case isFalse=>cases h
 rename_i hc
 cases h
 obtain ⟨hpt,hce,rfl,hl0,h63,hby⟩:=hc
 have hpt:=ptrElem_eq hpt
 rw [ex] at hx
 rw [ey] at hy
 have hb':gB η' b=.arr (.ints .u8 l) k (some e):=by rw [hah.gB (by simp)];exact hb
 have hbs:=gB_some hb' (by simp)
 obtain ⟨⟨hu,hk⟩,h0 | ⟨bb,vs,q,T2,e1,hh,hr,hT⟩⟩:=hI.sbr hb' (by simp)
 · have h1:=h0.1
   simp [Cell.cnt] at h1
   rw [h1] at hl0
   simp at hl0
 have hbk:bk (ρ b)=bb:=by rw [e1];rfl
 have hT:=hT e rfl
 subst hT
 have ev:a.eval x=.pointer (some ⟨bb,0,none⟩):=by rw [hx.2,hbk]
 have ey':a.eval y=.int .i64 (l.length:Int):=RdC.raw_inv hy
 have hvs:vs=l.map (Value.int .u8):=intsOf_ok (k:=.u8) hr (by
  have:∀ l:List Int,intsOf .u8 (l.map fun n=>Cell.raw (.int .u8 n))=some l:=by
   intro l
   induction l with
   | nil=>rfl
   | cons n l ih=>simp [intsOf,ih]
  exact this l)
 have hsh:w.shape? bb=some (T2,(vs++q).length):=by simp [World.shape?,hh]
 have hbyte:∀ n∈l,0≤n∧n<256:=fun n hn=>by
  have:=(List.all_eq_true.1 hby) n hn
  simpa [byteB] using this
 have hcell:∀(j:Nat) (u:UInt8),(l.map fun n=>UInt8.ofNat n.toNat)[j]? = some u→w.cell? ((⟨bb,0,none⟩:Addr).add j)=some (.int .u8 u.toNat):=fun j u hj=>by
  rw [addr_add,Nat.zero_add]
  rw [List.getElem?_map] at hj
  obtain ⟨n,hn,rfl⟩:=Option.map_eq_some_iff.1 hj
  have h2:=hbyte n (List.mem_of_getElem? hn)
  have h3:((UInt8.ofNat n.toNat).toNat:Int)=n:=by
   rw [UInt8.toNat_ofNat']
   have:n.toNat % 2 ^ 8=n.toNat:=Nat.mod_eq_of_lt (by omega)
   rw [this];omega
  rw [h3]
  exact arr_cell hh (by rw [hvs,List.getElem?_map,hn];rfl)
 have hrun:=Go.Lib.run_unsafeString_row (P:=P) w pt it o.type T2 hpt hce bb _ hsh (l.map fun n=>UInt8.ofNat n.toNat) (by intro e;simp at e;subst e;simp at hl0) (by simp [hvs]) (by simpa using h63) hcell
 simp only [List.length_map] at hrun
 have hres:(⟨(l.map fun n=>UInt8.ofNat n.toNat).toArray⟩:ByteArray)=strOfNums l:=rfl
 rw [hres] at hrun
 have hw1:=Went.kill hI.inv hbs
 have hfz:(w.freeze ⟨bb,0,none⟩ l.length).heap[bb]? = some (.cells (vs++q).toArray T2 (if (0:Nat)==0 then (0,0+l.length) else (min 0 0,max 0 (0+l.length)))):=by
  unfold World.freeze
  rw [if_neg (by omega)]
  simp only [Array.getElem?_modify,if_true]
  rw [hh]
  rfl
 have hother:=fun k hk=>World.freeze_other w ⟨bb,0,none⟩ l.length k hk
 have hsz:(w.freeze ⟨bb,0,none⟩ l.length).heap.size=w.heap.size:=by
  unfold World.freeze;split<;>simp
 have hos:(w.freeze ⟨bb,0,none⟩ l.length).os=w.os∧(w.freeze ⟨bb,0,none⟩ l.length).tape=w.tape∧(w.freeze ⟨bb,0,none⟩ l.length).output=w.output:=by
  unfold World.freeze;split<;>exact ⟨rfl,rfl,rfl⟩
 have hcells:∀ c oo u,w.cell? ⟨c,oo,none⟩=some u→(w.freeze ⟨bb,0,none⟩ l.length).cell? ⟨c,oo,none⟩=some u:=fun c oo u hc=>by
  by_cases e2:c=bb
  · subst e2
    unfold World.cell? at hc ⊢
    dsimp only at hc ⊢
    rw [hh] at hc
    rw [hfz];exact hc
  · unfold World.cell? at hc ⊢
    dsimp only at hc ⊢
    rw [hother c e2];exact hc
 have hkeep:∀ M,Keeps M M w (w.freeze ⟨bb,0,none⟩ l.length):=fun M c oo u h1 h2=>⟨h1,hcells c oo u h2⟩
 have hgrow:Grow w (w.freeze ⟨bb,0,none⟩ l.length):=fun i arr T fz hi=>by
  by_cases e2:i=bb
  · subst e2
    rw [hh] at hi;cases hi
    exact ⟨_,_,_,hfz,Nat.le_refl _⟩
  · exact ⟨arr,T,fz,by rw [hother i e2];exact hi,Nat.le_refl _⟩
 have hnotown:∀ i z,(η'.set b .dead)[i]? = some z→z.own=true→real (ρ i)→bk (ρ i)≠bb:=fun i z hi hz hri e2=>by
  rcases set_cases hi with ⟨_,rfl⟩ | ⟨hn,hi⟩
  · cases hz
  · exact hn (hI.inv.inj i b z _ hi hbs hz rfl hri (by rw [e1];simp [real]) (by rw [hbk];exact e2))
 have hinv2:HInv Γ E.Mo ρ (η'.set b .dead) (w.freeze ⟨bb,0,none⟩ l.length):=
  ⟨fun c oo hm=>by rw [hsz];exact hw1.inv.bnd c oo hm,fun i z hi=>(hw1.inv.blk i z hi).mv ⟨fun _ h=>h,fun _ _=>rfl,hkeep _,hgrow⟩ (fun ho' hr'=>hother _ (hnotown i z hi ho' hr')),hw1.inv.inj,hw1.inv.sep,hw1.inv.glob.keep (hkeep _)⟩
 have hrb:real (ρ b):=by rw [e1];simp [real]
 refine ⟨_,w.freeze ⟨bb,0,none⟩ l.length,ρ,?_,⟨hw1.ok,hw1.rho,hw1.keep.trans (hkeep _),hgrow,hinv2,by rw [hsz];exact Nat.le_refl _,hos.1,hos.2.1,hos.2.2,fun k _ hk=>hother k (fun e2=>hk ⟨b,_,hbs,rfl,hrb,by rw [hbk];exact e2.symm⟩),fun k hk=>hw1.fresh k hk⟩,RdC.raw rfl⟩
 rw [exec_len ho,show (#[x,y]:Array Operand).map a.eval=#[a.eval x,a.eval y] from by simp,ev,ey']
 simp only [builtin,Sem.run_bind,hrun]
 rfl
end Go.Hp
