/- The proof, part Q2: Mg, Mh, Mi, Mj, Mk. -/
import Derived.Test.YtkbkjjahlafhoaaGreatDoorQ1
namespace Go.Slot
open Go Go.RowKit
variable {P:Program}
variable {o:Oper} {J:List AV} {rd:List Nat} {av:AV} {r:List Nat×List (Nat×AV)} {x:Operand} {y v:Value} {T:TypeId} {M:Nat->Nat->Prop} {w:World} {ti:TI} {d:TypeDesc} {k:IntKind} {es l cap:Nat} {τ:Nat->TV} {i:TypeInfo}
theorem z7c.pure (h:Slot.val J o rd av=some r) (hav:av.v43=false) (hrf:av.rf=none)
 (hrun:∀(E:Env) (τ:Nat->TV) (M:Nat->Nat->Prop) (J':List AV) (a:Act) (w:World),(∀ x:Operand,(∀ t∈orr x,t∈rd)->opd J' x=opd J x)->(∀ s∈rd,gt J' s=gt J s)->RelI E τ M J' a w->
   ∃ v,(execOp a.eval o).run P w=.ok (.value v) w/\yos M w τ a.tmps v av/\(∀ t,av.zkp t->live J' t)):z7c P o J r.1 [] r.2:=by
 obtain ⟨d,hdst,hn,rfl⟩:=x17 h;refine z7c.val hdst (by simp) hn hav (fun E τ M J' a w hag hI=>?_);obtain ⟨v,h1,h2,h3⟩:=hrun E τ M J' a w (fun x hx=>hag.opd (fun t ht=>by simp [hx t ht])) (fun s hs=>hag.2 s (by simp [hs])) hI;exact ⟨v,w,h1,xr1 w,h2,h3,fun s b hr=>by rw [hrf] at hr;cases hr⟩
def iand (k:IntKind) (a b:Int):Int:=k.wrap (BitVec.ofInt k.bits a &&&BitVec.ofInt k.bits b).toNat
def ior (k:IntKind) (a b:Int):Int:=k.wrap (BitVec.ofInt k.bits a |||BitVec.ofInt k.bits b).toNat
def ishl (k:IntKind) (a b:Int):Int:=k.wrap (a*2 ^ (min b.toNat k.bits))
def ishr (k:IntKind) (a b:Int):Int:=a.fdiv (2 ^ (min b.toNat k.bits))
def seq (a b:ByteArray):Bool:=a.toList==b.toList
def abin (op:BinOp) (x y:Value):Option Value:=
 match x,y with
 | .int k a,.int k' b=>match op with
  | .shl=>if 0<=b then some (.int k (ishl k a b)) else none
  | .shr=>if 0<=b then some (.int k (ishr k a b)) else none
  | .add=>if k=k' then some (.int k (k.wrap (a+b))) else none
  | .sub=>if k=k' then some (.int k (k.wrap (a-b))) else none
  | .mul=>if k=k' then some (.int k (k.wrap (a*b))) else none
  | .quo=>if k=k'/\b≠0 then some (.int k (k.wrap (a.tdiv b))) else none
  | .rem=>if k=k'/\b≠0 then some (.int k (a.tmod b)) else none
  | .and=>if k=k' then some (.int k (iand k a b)) else none
  | .or=>if k=k' then some (.int k (ior k a b)) else none
  | .eql=>if k=k' then some (.bool (a==b)) else none
  | .neq=>if k=k' then some (.bool (a != b)) else none
  | .lss=>if k=k' then some (.bool (decide (a<b))) else none
  | .leq=>if k=k' then some (.bool (decide (a<=b))) else none
  | .gtr=>if k=k' then some (.bool (decide (b<a))) else none
  | .geq=>if k=k' then some (.bool (decide (b<=a))) else none
  | _=>none
 | .string a,.string b=>match op with
  | .eql=>some (.bool (seq a b))
  | .neq=>some (.bool (!seq a b))
  | .add=>if a.size+b.size<=9223372036854775807 then some (.string (a++b)) else none
  | .lss=>some (.bool (Op.bytesLess a.toList b.toList))
  | .leq=>some (.bool (Op.bytesLess a.toList b.toList||seq a b))
  | .gtr=>some (.bool (!(Op.bytesLess a.toList b.toList||seq a b)))
  | .geq=>some (.bool (!Op.bytesLess a.toList b.toList))
  | _=>none
 | _,_=>none
theorem zwi {op:BinOp} {x:Value} (h:abin op x y=some v):v.oneCell'=true:=by
 unfold abin at h;split at h
 . split at h<;>first | (split at h<;>first | (cases h;rfl) | cases h) | cases h
 . split at h<;>first | (cases h;rfl) | (split at h<;>first | (cases h;rfl) | cases h) | cases h
 . cases h
theorem xbk {op:BinOp} {x:Value} (h:abin op x y=some v) (T:TypeId) (w:World):(binOp op T x y).run P w=.ok v w:=by
 unfold abin at h;split at h
 . rename_i k a k' b;split at h
   all_goals first
    | (split at h
       . rename_i hc
         first
          | (obtain ⟨rfl,hb⟩:=hc;cases h;simp [binOp,Op.intDiv,hb])
          | (subst hc;cases h;simp [binOp,Op.intArith,Op.intBits,Op.intCmp,iand,ior])
          | (cases h;have hb:¬b<0:=by omega
             simp [binOp,Op.shift,hb,ishl,ishr])
       . cases h)
    | cases h
 . rename_i a b;split at h
   . cases h;simp [binOp,Op.stringOp,seq]
   . cases h;simp [binOp,Op.stringOp,seq]
   . split at h
     . rename_i hc
       cases h
       have:¬(IntKind.i64.max<((a.size+b.size:Nat):Int)):=by
        have:IntKind.i64.max=9223372036854775807:=by decide
        omega
       simp only [binOp,Op.stringOp];rw [if_neg this];rfl
     . cases h
   . cases h;simp [binOp,Op.stringOp]
   . cases h;simp [binOp,Op.stringOp,seq]
   . cases h;simp [binOp,Op.stringOp,seq]
   . cases h;simp [binOp,Op.stringOp]
   . cases h
 . cases h
theorem xc0 {op:BinOp} {x:Value} (h:abin op x y=some v) (T:TypeId) (ox oy:Operand) (w:World):(eqGuard op T ox oy x y).run P w=.ok () w:=by
 unfold abin at h;unfold eqGuard;split at h
 . cases op<;>rfl
 . cases op<;>rfl
 . cases h
def binA (J:List AV) (op:BinOp) (x y:Operand):Option AV:=
 match opd J x,opd J y with
 | .one (.raw a),.one (.raw b)=>(abin op a b).map fun v=>.one (.raw v)
 | _,_=>none
theorem yx1 {op:BinOp} {U:TypeId} {y:Operand} (ho:o.op=.binOp op T x y U) (hb:binA J op x y=some av)
 (h:val J o (orr x++orr y) av=some r):z7c P o J r.1 [] r.2:=by
 have:∃ a b v,opd J x=.one (.raw a)/\opd J y=.one (.raw b)/\abin op a b=some v/\av=.one (.raw v):=by
  unfold binA at hb;split at hb
  . rename_i a b hx hy;simp only [Option.map_eq_some_iff] at hb;obtain ⟨v,h1,rfl⟩:=hb;exact ⟨a,b,v,hx,hy,h1,rfl⟩
  . cases hb
 obtain ⟨p,q,v,hx,hy,hab,rfl⟩:=this;refine z7c.pure h rfl rfl (fun E τ M J' a w hop _ hI=>⟨v,?_,RdC.raw (zwi hab),fun t ht=>ht.elim⟩);have sx:=hI.opd x;have sy:=hI.opd y;rw [hop x (fun t ht=>by simp [ht]),hx] at sx;rw [hop y (fun t ht=>by simp [ht]),hy] at sy;have ex:a.eval x=p:=RdC.v7q sx;have ey:a.eval y=q:=RdC.v7q sy;simp [execOp,ho,ex,ey,xc0 hab,xbk hab]
def nilC:Cell->Option Bool
 | .raw (.slice none 0 0)=>some true
 | .nn b=>some b
 | .ints _ l=>if 0<l.length then some false else none
 | .sl _ r=>if 0<r.length then some false else none
 | _=>none
def nilA (J:List AV) (ti:TI) (op:BinOp) (x:Operand):Option AV:=
 match ti.sh with
 | .slice _ _ _ _=>match opd J x with
  | .one c=>match nilC c.bare with
   | some b=>match op with
    | .eql=>some (.one (.raw (.bool b)))
    | .neq=>some (.one (.raw (.bool (!b))))
    | _=>none
   | none=>none
  | _=>none
 | _=>none
theorem RdC.isNil {c:Cell} {b:Bool} (h:RdC M w v c) (hb:nilC c=some b):∃ a len cap,v=.slice a len cap/\a.isNone=b:=by
 cases h with
 | raw h=>unfold nilC at hb;split at hb<;>first | (rename_i heq;cases heq;cases hb;exact ⟨_,_,_,rfl,rfl⟩) | (rename_i heq;cases heq;done) | cases hb
 | zc=>cases hb
 | nn=>cases hb;exact ⟨_,_,_,rfl,rfl⟩
 | fnp=>cases hb
 | ints b' off hl hc ha h=>
  simp only [nilC] at hb;split at hb
  . rename_i hp;cases hb;rw [ha (List.length_pos_iff.1 hp)];exact ⟨_,_,_,rfl,rfl⟩
  . cases hb
 | sl b' off u hl hc ha hn hm hr=>
  simp only [nilC] at hb;split at hb
  . rename_i hp;cases hb;rw [ha (List.length_pos_iff.1 hp)];exact ⟨_,_,_,rfl,rfl⟩
  . cases hb
theorem y3x {op:BinOp} {U:TypeId} (ho:o.op=.binOp op T x (.const (.slice none 0 0)) U) (hti:mkTI P T=some ti) (hb:nilA J ti op x=some av)
 (h:val J o (orr x) av=some r):z7c P o J r.1 [] r.2:=by
 obtain ⟨ds,i,z,hd,hi,hz,_,_,_,_,_,hsh'⟩:=(xat hti).ex;unfold nilA at hb;split at hb
 case h_2=>cases hb
 rename_i e es eb ik hsh;obtain ⟨rfl,_⟩:=zz2 (hsh'.symm.trans hsh);split at hb
 case h_2=>cases hb
 rename_i c hx;split at hb
 case h_2=>cases hb
 rename_i b hnil
 have hav:∃ q,av=.one (.raw (.bool q))/\((op=.eql/\q=b)\/(op=.neq/\q = !b)):=by
  split at hb<;>cases hb
  . exact ⟨_,rfl,.inl ⟨rfl,rfl⟩⟩
  . exact ⟨_,rfl,.inr ⟨rfl,rfl⟩⟩
 obtain ⟨q,rfl,hq⟩:=hav;refine z7c.pure h rfl rfl (fun E τ M J' a w hop _ hI=>⟨.bool q,?_,RdC.raw rfl,fun t ht=>ht.elim⟩);have sx:=hI.opd x;rw [hop x (fun t ht=>ht),hx] at sx;obtain ⟨ad,len,cap,hv,hn⟩:=(RdT.bare sx).isNil hnil
 have hd':∀ d,(Op.equalIn (d+1) T (.slice ad len cap) (.slice none 0 0)).run P w=.ok b w:=fun d=>by
  unfold Op.equalIn
  cases ad with
  | none=>cases hn;simp [y9m hd]
  | some ad=>cases hn;simp [y9m hd]
 have he:(Op.equal T (.slice ad len cap) (.slice none 0 0)).run P w=.ok b w:=hd' 9999;have hc0:a.eval (.const (.slice none 0 0))=.slice none 0 0:=rfl
 rcases hq with ⟨rfl,rfl⟩ | ⟨rfl,rfl⟩
 . simp [execOp,ho,hv,eqGuard,binOp,he,hc0]
 . simp [execOp,ho,hv,eqGuard,binOp,he,hc0]
def aun (op:UnOp) (x:Value):Option Value:=
 match op,x with
 | .neg,.int k n=>some (.int k (k.wrap (0-n)))
 | .not,.bool b=>some (.bool (!b))
 | _,_=>none
def unA (J:List AV) (op:UnOp) (x:Operand):Option AV:=
 match opd J x with
 | .one (.raw a)=>(aun op a).map fun v=>.one (.raw v)
 | _=>none
theorem wew {op:UnOp} (ho:o.op=.unOp op T x) (hb:unA J op x=some av)
 (h:val J o (orr x) av=some r):z7c P o J r.1 [] r.2:=by
 have:∃ a v,opd J x=.one (.raw a)/\aun op a=some v/\av=.one (.raw v):=by
  unfold unA at hb;split at hb
  . rename_i a hx;simp only [Option.map_eq_some_iff] at hb;obtain ⟨v,h1,rfl⟩:=hb;exact ⟨a,v,hx,h1,rfl⟩
  . cases hb
 obtain ⟨p,v,hx,hab,rfl⟩:=this
 have hone:v.oneCell'=true:=by unfold aun at hab;split at hab<;>first | (cases hab;rfl) | cases hab
 refine z7c.pure h rfl rfl (fun E τ M J' a w hop _ hI=>⟨v,?_,RdC.raw hone,fun t ht=>ht.elim⟩);have sx:=hI.opd x;rw [hop x (fun t ht=>by simp [ht]),hx] at sx;have ex:a.eval x=p:=RdC.v7q sx;unfold aun at hab;split at hab
 . cases hab;simp [execOp,ho,ex,Op.unary,Op.intArith]
 . cases hab;simp [execOp,ho,ex,Op.unary]
 . cases hab
def ybp (J:List AV) (_ts td:TI) (x:Operand):Option AV:=
 match opd J x,td.sh with
 | .one (.raw (.int _ n)),.int k=>some (.one (.raw (.int k (k.wrap n))))
 | _,_=>none
theorem y2y (h:shOf P d=.int k):d=.int k:=by
 cases d with
 | int k'=>simp [shOf] at h;rw [h]
 | slice e=>
  exfalso;revert h;unfold shOf;dsimp only
  split
  . split
    . split<;>simp
    . simp
  . simp
 | struct fl=>
  exfalso;revert h;unfold shOf;dsimp only;split<;>simp
 | _=>simp [shOf] at h
theorem w4o {S D:TypeId} (ho:o.op=.convert S D x) {ts td:TI} (hts:mkTI P S=some ts) (htd:mkTI P D=some td) (hb:ybp J ts td x=some av)
 (h:val J o (orr x) av=some r):z7c P o J r.1 [] r.2:=by
 have:∃ k' k n,opd J x=.one (.raw (.int k' n))/\td.sh=.int k/\av=.one (.raw (.int k (k.wrap n))):=by
  unfold ybp at hb;split at hb
  . rename_i k' n k hx hk;cases hb;exact ⟨k',k,n,hx,hk,rfl⟩
  . cases hb
 obtain ⟨k',k,n,hx,hk,rfl⟩:=this;obtain ⟨d,i,z,hd,hi,hz,_,_,_,_,_,hsh⟩:=(xat htd).ex;obtain ⟨ds,_,_,hds,_⟩:=(xat hts).ex;have hdk:=y2y (hsh.symm.trans hk);subst hdk;refine z7c.pure h rfl rfl (fun E τ M J' a w hop _ hI=>⟨_,?_,RdC.raw rfl,fun t ht=>ht.elim⟩);have sx:=hI.opd x;rw [hop x (fun t ht=>by simp [ht]),hx] at sx;have ex:a.eval x=.int k' n:=RdC.v7q sx;simp [execOp,ho,ex,convert,y9m hd,y9m hds,Conv.intToInt]
def lenC:Cell->Option Nat
 | .ints _ l=>some l.length
 | .sl _ rows=>some rows.length
 | .zc=>some 0
 | .nn _=>some 0
 | .raw (.slice none 0 0)=>some 0
 | .raw (.string s)=>some s.size
 | .tok _ (.ints _ l)=>some l.length
 | .tok _ (.sl _ rows)=>some rows.length
 | _=>none
def lenA (J:List AV) (x:Operand):Option (List Nat×AV):=
 match opd J x with
 | .one c=>(lenC c).map fun (n:Nat)=>(orr x,.one (.raw (.int .i64 (n:Int))))
 | .arr _ c _=>some (orr x,.one (.raw (.int .i64 (c.cnt:Int))))
 | .asl s=>match gt J s with
  | .arr _ c _=>some (s::orr x,.one (.raw (.int .i64 (c.cnt:Int))))
  | _=>none
 | .awn _ _ _ (n:Nat)=>some (orr x,.one (.raw (.int .i64 (n:Int))))
 | _=>none
theorem run_len_slice (hti:TIok P T ti) {e eb:Nat} {ik:Option IntKind} (hs:ti.sh=.slice e es eb ik) (ty:TypeId) (ad:Option Addr) (len cap:Nat) (w:World) :
 (Builtin.len_ #[T] ty #[.slice ad len cap]).run P w=.ok (.int .i64 len) w:=by
 obtain ⟨d,i,z,hd,hi,hz,_,_,_,_,_,hsh⟩:=hti.ex;obtain ⟨rfl,_⟩:=zz2 (hsh.symm.trans hs);simp [Builtin.len_,y9m hd,goInt]
theorem vgt (h:shOf P d=.string):d=.string:=by
 cases d with
 | string=>rfl
 | slice e=>
  exfalso;revert h;unfold shOf;dsimp only
  split
  . split
    . split<;>simp
    . simp
  . simp
 | struct fl=>
  exfalso;revert h;unfold shOf;dsimp only;split<;>simp
 | _=>simp [shOf] at h
def wi2 (ti:TI):Cell->Bool
 | .raw (.string _)=>match ti.sh with
  | .string=>true
  | _=>false
 | _=>match ti.sh with
  | .slice _ _ _ _=>true
  | _=>false
def wd2 (J:List AV) (ti:TI) (x:Operand):Bool:=
 match opd J x with
 | .one c=>wi2 ti c
 | _=>match ti.sh with
  | .slice _ _ _ _=>true
  | _=>false
theorem RdT.len {c:Cell} {n:Nat} (h:RdT M w τ v c) (hl:lenC c=some n) :
 (∃ ad cap,v=.slice ad n cap/\∀ s,c≠.raw (.string s))\/∃ s,c=.raw (.string s)/\v=.string s/\n=s.size:=by
 have base:∀ c,RdC M w v c->lenC c=some n->(∃ ad cap,v=.slice ad n cap/\∀ s,c≠.raw (.string s))\/∃ s,c=.raw (.string s)/\v=.string s/\n=s.size:=fun c h hl=>by
  cases h with
  | raw h=>
   unfold lenC at hl;split at hl
   case h_5=>rename_i heq;cases heq;cases hl;exact .inl ⟨none,0,rfl,by simp⟩
   case h_6=>rename_i s heq;cases heq;cases hl;exact .inr ⟨s,rfl,rfl,rfl⟩
   all_goals first | (rename_i heq;cases heq;done) | cases hl
  | zc=>cases hl;exact .inl ⟨_,_,rfl,by simp⟩
  | nn=>cases hl;exact .inl ⟨_,_,rfl,by simp⟩
  | fnp=>cases hl
  | ints b off hl' hc ha h=>cases hl;subst hl';exact .inl ⟨_,_,rfl,by simp⟩
  | sl b off u hl' hc ha hn hm hr=>cases hl;subst hl';exact .inl ⟨_,_,rfl,by simp⟩
 cases c with
 | tok d c=>
  have h2:=h.2
  rcases base c h2 (by cases c<;>first | exact hl | cases hl) with ⟨ad,cap,hv,_⟩ | ⟨s,rfl,_⟩
  . exact .inl ⟨ad,cap,hv,by simp⟩
  . cases hl
 | _=>exact base _ h hl
theorem zok (ho:o.op=.call { callee:=.builtin .len,args:=#[x],argTypes:=#[T] }) (hti:mkTI P T=some ti) (hfit:wd2 J ti x=true)
 (hb:lenA J x=some (rd,av)) (h:val J o rd av=some r):z7c P o J r.1 [] r.2:=by
 have hok:=xat hti
 have hsub:(∀ t∈orr x,t∈rd)/\∃ n:Nat,av=.one (.raw (.int .i64 n)):=by
  unfold lenA at hb;split at hb
  . simp only [Option.map_eq_some_iff,Prod.mk.injEq] at hb;obtain ⟨n,_,rfl,rfl⟩:=hb;exact ⟨fun t ht=>ht,n,rfl⟩
  . cases hb;exact ⟨fun t ht=>ht,_,rfl⟩
  . split at hb
    . cases hb;exact ⟨fun t ht=>by simp [ht],_,rfl⟩
    . cases hb
  . cases hb;exact ⟨fun t ht=>ht,_,rfl⟩
  . cases hb
 obtain ⟨hsub,n,rfl⟩:=hsub;refine z7c.pure h rfl rfl (fun E τ M J' a w hop hgt hI=>⟨_,?_,RdC.raw rfl,fun t ht=>ht.elim⟩);have sx:=hI.opd x;rw [hop x hsub] at sx
 have key:(Builtin.len_ #[T] o.type #[a.eval x]).run P w=.ok (.int .i64 n) w:=by
  unfold wd2 at hfit;unfold lenA at hb;split at hb
  . rename_i c hc;rw [hc] at sx;simp only [hc] at hfit;simp only [Option.map_eq_some_iff,Prod.mk.injEq,AV.one.injEq,Cell.raw.injEq,Value.int.injEq,true_and] at hb;obtain ⟨m,hm,rfl,hmn⟩:=hb
    have hmn':m=n:=by exact_mod_cast hmn
    subst hmn'
    rcases RdT.len (show RdT M w τ _ c from sx) hm with ⟨ad,cap,hv,hns⟩ | ⟨s,rfl,hv,rfl⟩
    . rw [hv]
      have:∃ e es eb ik,ti.sh=.slice e es eb ik:=by
       unfold wi2 at hfit;split at hfit
       . exact absurd rfl (hns _)
       . split at hfit
         . rename_i h;exact ⟨_,_,_,_,h⟩
         . cases hfit
      obtain ⟨e,es,eb,ik,hsh⟩:=this;exact run_len_slice hok hsh _ _ _ _ w
    . rw [hv]
      have hsh:ti.sh=.string:=by
       simp only [wi2] at hfit;split at hfit
       . assumption
       . cases hfit
      obtain ⟨d,i,z,hd,hi,hz,_,_,_,_,_,hsh'⟩:=hok.ex
      have:=vgt (hsh'.symm.trans hsh)
      subst this;simp [Builtin.len_,y9m hd,goInt]
  . rename_i pre c post hl
    cases hb;rw [hl] at sx;obtain ⟨b,Tb,vs,q,cap,e1,_⟩:=sx;rw [e1];simp only [hl] at hfit;split at hfit
    . rename_i hsh;exact run_len_slice hok hsh _ _ _ _ w
    . cases hfit
  . rename_i s hs0;split at hb
    . rename_i pre c post hl
      cases hb;rw [hs0] at sx;have sx:a.eval x=a.tmps.getD s Go.undef:=sx;have hss:=hI.gt s;rw [hgt s (by simp),hl] at hss;obtain ⟨b,Tb,vs,q,cap,e1,_⟩:=hss;rw [sx,e1];simp only [hs0] at hfit;split at hfit
      . rename_i hsh;exact run_len_slice hok hsh _ _ _ _ w
      . cases hfit
    . cases hb
  . rename_i s m lo n' hs0
    cases hb;rw [hs0] at sx;obtain ⟨ad,cap,e1,_⟩:=sx;rw [e1];simp only [hs0] at hfit;split at hfit
    . rename_i hsh;exact run_len_slice hok hsh _ _ _ _ w
    . cases hfit
  . cases hb
 simp [execOp,ho,resolve,invoke,builtin,key]
def Cell.isSl:Cell->Bool
 | .ints _ _ | .sl _ _ | .zc=>true
 | _=>false
variable {c:Cell}
def natA:AV->Option Nat
 | .one (.raw (.int _ n))=>if 0<=n then some n.toNat else none
 | _=>none
def xp0 (J:List AV) (d:Nat):Option Operand->Option Nat
 | none=>some d
 | some x=>natA (opd J x)
def orrO:Option Operand->List Nat
 | none=>[]
 | some x=>orr x
def cutC (c:Cell) (lo:Nat) (hi:Option Nat):Option Cell:=
 match c with
 | .ints k l=>let h:=hi.getD l.length
  if lo<=h/\h<=l.length then some (.ints k ((l.drop lo).take (h-lo))) else none
 | .sl n rows=>let h:=hi.getD rows.length
  if lo<=h/\h<=rows.length then some (.sl n ((rows.drop lo).take (h-lo))) else none
 | _=>none
def vra (J:List AV) (ti:TI) (x:Operand) (lo hi mx:Option Operand):Option AV:=
 match xp0 J 0 lo,(match hi with | none=>some none | some h=>(natA (opd J h)).map some) with
 | some l,some h=>
  match mx with
  | none=>match opd J x with
   | .one (.raw (.string s))=>match ti.sh with
    | .string=>if l<=h.getD s.size/\h.getD s.size<=s.size then some (.one (.raw (.string (s.extract l (h.getD s.size))))) else none
    | _=>none
   | .one c=>match ti.sh with
    | .slice _ _ _ _=>(cutC c.bare l h).map .one
    | _=>none
   | _=>none
  | some m=>match ti.sh,opd J x with
   | .slice _ _ _ _,.one c=>if c.bare.isSl=true/\l=0/\h=some 0/\natA (opd J m)=some 0 then some (.one .zc) else none
   | _,_=>none
 | _,_=>none
theorem y1q {tm:Array Value} {n:Nat} (h:yos M w τ tm v av) (hn:natA av=some n):∃ k,v=.int k n:=by
 unfold natA at hn;split at hn
 . rename_i k m;split at hn
   . rename_i h0
     cases hn;have e:v=.int k m:=RdC.v7q h;exact ⟨k,by rw [e];congr 1;omega⟩
   . cases hn
 . cases hn
theorem xeg {n y:Nat} (hv:v=.int k n) (h:n<=y) (code:BoundsCode) (w:World):(Instr.sliceBound v y code).run P w=.ok n w:=by
 subst hv
 have:(n:Int)<=(y:Int):=by omega
 simp [Instr.sliceBound,asIntOf,this]
theorem zoc (k:IntKind) (y:Nat) (code:BoundsCode) (w:World):(Instr.sliceBound (.int k 0) y code).run P w=.ok 0 w:=by
 simp [Instr.sliceBound,asIntOf]
theorem viu {lo hi:Option Value} {h len:Nat} {isS:Bool} (hl:match lo with | none=>l=0 | some v=>∃ k,v=.int k l) (hh:match hi with | none=>h=len | some v=>∃ k,v=.int k h)
 (h1:l<=h) (h2:h<=cap) (w:World):(Instr.sliceBounds isS len cap lo hi none).run P w=.ok (l,h,cap) w:=by
 unfold Instr.sliceBounds
 cases hi with
 | none=>
  simp only at hh;subst hh
  cases lo with
  | none=>simp only at hl;subst hl;simp
  | some v=>obtain ⟨k,hv⟩:=hl;simp [xeg hv h1]
 | some u=>
  obtain ⟨k',hu⟩:=hh
  cases lo with
  | none=>simp only at hl;subst hl;simp [xeg hu h2]
  | some v=>obtain ⟨k,hv⟩:=hl;simp [xeg hu h2,xeg hv h1]
theorem RdC.cut {ad:Option Addr} {len:Nat} {c':Cell} {h:Option Nat} (hr:RdC M w (.slice ad len cap) c) (hc:cutC c l h=some c')
 (hes:∀ k L,c=.ints k L->es=1) (hes':∀ n rows,c=.sl n rows->es=n) :
 l<=h.getD len/\h.getD len<=len/\len<=cap/\RdC M w (.slice (if cap=l then ad else ad.map (·.add (l*es))) (h.getD len-l) (cap-l)) c':=by
 cases hr with
 | raw h=>cases hc
 | zc=>cases hc
 | nn=>cases hc
 | fnp=>cases hc
 | @ints _ _ _ k L b off hl hcap ha hcell=>
  simp only [cutC] at hc;split at hc
  . rename_i hb
    cases hc;subst hl;have he:=hes k L rfl;subst he;refine ⟨hb.1,hb.2,hcap,?_⟩;refine .ints b (off+l) (by simp;omega) (by omega) (fun hne=>?_) (fun i hi=>?_)
    . have:L≠[]:=fun e=>by subst e;simp at hne
      have hlt:¬cap=l:=fun e=>by
       apply hne
       have:h.getD L.length=l:=by omega
       simp [this]
      rw [if_neg hlt,ha this];simp [v74]
    . simp only [List.length_take,List.length_drop] at hi
      have:=hcell (l+i) (by omega)
      rw [Nat.add_assoc];simpa using this
  . cases hc
 | @sl _ _ _ n rows b off u hl hcap ha hn hm hr=>
  simp only [cutC] at hc;split at hc
  . rename_i hb
    cases hc;subst hl;have he:=hes' n rows rfl;subst he;refine ⟨hb.1,hb.2,hcap,?_⟩;refine .sl b (off+l*es) (fun i j=>u (l+i) j) (by simp;omega) (by omega) (fun hne=>?_) (fun r hr'=>hn r (List.mem_of_mem_drop (List.mem_of_mem_take hr'))) (fun i hi j hj=>?_) (fun i hi j hj=>?_)
    . have:rows≠[]:=fun e=>by subst e;simp at hne
      have hlt:¬cap=l:=fun e=>by
       apply hne
       have:h.getD rows.length=l:=by omega
       simp [this]
      rw [if_neg hlt,ha this];simp [v74]
    . simp only [List.length_take,List.length_drop] at hi
      have:=hm (l+i) (by omega) j hj
      rw [Nat.add_mul] at this
      have e:off+l*es+i*es+j=off+(l*es+i*es)+j:=by omega
      rw [e];exact this
    . simp only [List.length_take,List.length_drop] at hi
      have hlen:l+i<rows.length:=by omega
      have hj':j<rows[l+i].length:=by simpa using hj
      have:=hr (l+i) hlen j hj'
      simpa using this
  . cases hc
theorem RdC.y6d (h:RdC M w v c) (hc:c.isSl=true):∃ ad len cap,v=.slice ad len cap:=by
 cases h with
 | raw _=>cases hc
 | fnp=>cases hc
 | _=>exact ⟨_,_,_,rfl⟩
theorem x7o {lo hi mx:Option Operand} (ho:o.op=.slice T x lo hi mx) (hti:mkTI P T=some ti)
 (hes:∀ e es eb ik,ti.sh=.slice e es eb ik->∀ c,opd J x=.one c->(∀ k L,c.bare=.ints k L->es=1)/\(∀ n rows,c.bare=.sl n rows->es=n))
 (hs:vra J ti x lo hi mx=some av) (h:val J o (orr x++orrO lo++orrO hi++orrO mx) av=some r):z7c P o J r.1 [] r.2:=by
 have hok:=xat hti;obtain ⟨d,i,z,hd,hi',hz,_,_,_,_,_,hsh'⟩:=hok.ex
 have hprops:av.v43=false/\av.rf=none:=by
  unfold vra at hs
  repeat' split at hs
  all_goals first
   | (cases hs;exact ⟨rfl,rfl⟩)
   | (simp only [Option.map_eq_some_iff] at hs;obtain ⟨_,_,rfl⟩:=hs;exact ⟨rfl,rfl⟩)
   | cases hs
 refine z7c.pure h hprops.1 hprops.2 (fun E τ M J' a w hop hgt hI=>?_);have sx:=hI.opd x;rw [hop x (fun t ht=>by simp [ht])] at sx
 have bnd:∀(u:Option Operand) (dflt n:Nat),(∀ y,u=some y->opd J' y=opd J y)->xp0 J dflt u=some n->match u.map a.eval with | none=>n=dflt | some v=>∃ k,v=.int k n:=fun u dflt n hu hb=>by
  cases u with
  | none=>simp [xp0] at hb;exact hb.symm
  | some y=>
   have sy:=hI.opd y;rw [hu y rfl] at sy;exact y1q sy hb
 have hlo:∀ y,lo=some y->opd J' y=opd J y:=fun y e=>hop y (fun t ht=>by subst e;simp [orrO,ht])
 have hhi:∀ y,hi=some y->opd J' y=opd J y:=fun y e=>hop y (fun t ht=>by subst e;simp [orrO,ht])
 have hmx:∀ y,mx=some y->opd J' y=opd J y:=fun y e=>hop y (fun t ht=>by subst e;simp [orrO,ht])
 unfold vra at hs;split at hs
 case h_2=>cases hs
 rename_i l hh hl hhb;have bl:=bnd lo 0 l hlo hl
 have bh:∀ len:Nat,match hi.map a.eval with | none=>hh.getD len=len | some v=>∃ k,v=.int k (hh.getD len):=fun len=>by
  cases hi with
  | none=>simp at hhb;subst hhb;rfl
  | some y=>
   simp only [Option.map_eq_some_iff] at hhb;obtain ⟨n,hn,rfl⟩:=hhb;have sy:=hI.opd y;rw [hhi y rfl] at sy;exact y1q sy hn
 split at hs
 ·
  split at hs
  . rename_i s hxs;rw [hxs] at sx;have ex:a.eval x=.string s:=RdC.v7q sx;split at hs
    . rename_i hsh;split at hs
      . rename_i hb
        cases hs;have hds:=vgt (hsh'.symm.trans hsh);subst hds;refine ⟨.string (s.extract l (hh.getD s.size)),?_,RdC.raw rfl,fun t ht=>ht.elim⟩;have hrb:=viu (P:=P) (isS:=false) (len:=s.size) (cap:=s.size) bl (bh s.size) hb.1 hb.2 w;simp [execOp,ho,ex,Instr.sliceAt,y9m hd,Instr.slice,hrb]
      . cases hs
    . cases hs
  . rename_i c hnot hxc;rw [hxc] at sx;split at hs
    . rename_i e es eb ik hsh;simp only [Option.map_eq_some_iff] at hs;obtain ⟨c',hc',rfl⟩:=hs;obtain ⟨rfl,j,z',hj,hz',hjs,_⟩:=zz2 (hsh'.symm.trans hsh);have hrb:=RdT.bare (show RdT M w τ _ c from sx)
      have hsv:∃ ad len cap,a.eval x=.slice ad len cap:=hrb.y6d (by
       generalize c.bare=cb at hc'
       cases cb<;>first | rfl | cases hc')
      obtain ⟨ad,len,cap,ex⟩:=hsv;rw [ex] at hrb;have hcut:=hrb.cut hc' (hes e es eb ik hsh c hxc).1 (hes e es eb ik hsh c hxc).2;refine ⟨_,?_,RdT.of hcut.2.2.2,fun t ht=>?_⟩
      . have hrbs:=viu (P:=P) (isS:=true) (len:=len) (cap:=cap) bl (bh len) hcut.1 (by omega) w;simp [execOp,ho,ex,Instr.sliceAt,y9m hd,Instr.slice,hrbs,ynn hj,hjs]
      . have hnt:∀ t,¬c'.zkp t:=fun t ht=>by
         cases c' with
         | tok d' c''=>exact hcut.2.2.2.zrr
         | _=>exact ht
        exact absurd ht (hnt t)
    . cases hs
  . cases hs
 . rename_i m;split at hs
   . rename_i e es eb ik c hsh hxc;rw [hxc] at sx;split at hs
     . rename_i hb;obtain ⟨hsl,rfl,rfl,hm⟩:=hb
       cases hs;obtain ⟨rfl,j,z',hj,hz',hjs,_⟩:=zz2 (hsh'.symm.trans hsh);have hrb:=RdT.bare (show RdT M w τ _ c from sx);have sm:=hI.opd m;rw [hmx m rfl] at sm;obtain ⟨km,em⟩:=y1q sm hm;obtain ⟨ad,len,cap,ex⟩:=hrb.y6d hsl;have hhv:=bh 0;have hlv:∀(lv:Option Value),(match lv with | none=>0=0 | some v=>∃ k,v=.int k (0:Nat))->∀ hv:Value,(∃ k,hv=.int k (0:Nat))->
        (Instr.sliceBounds true len cap lv (some hv) (some (.int km (0:Nat)))).run P w=.ok (0,0,0) w:=fun lv h1 hv ⟨k2,h2⟩=>by
        unfold Instr.sliceBounds
        cases lv with
        | none=>subst h2;simp [zoc]
        | some v=>obtain ⟨k3,h3⟩:=h1;subst h2;subst h3;simp [zoc]
       cases hi with
       | none=>simp at hhb
       | some hy=>
        have hres:=hlv (lo.map a.eval) bl (a.eval hy) hhv;have hmv:a.eval m=.int km (0:Nat):=em;refine ⟨.slice ad 0 0,?_,RdC.zc,fun t ht=>ht.elim⟩;simp only [execOp,ho,ex,Instr.sliceAt,Option.map_some,hmv,Sem.run_bind,y9m hd,Result.andThen_ok,Instr.slice,hres,ynn hj];simp
     . cases hs
   . cases hs
def vkp (J:List AV) (ti te:TI) (x y:Operand):Option AV:=
 match ti.sh,opd J x,opd J y with
 | .slice _ es eb ik,.one (.raw (.int _ n)),.one (.raw (.int _ m))=>
  if 0<=n/\n<=m/\(eb:Int)*m<=281474976710656/\m<=9223372036854775807 then match ik with
   | some k=>match te.zc with
    | [.raw (.int k' z)]=>if es=1/\k=k'/\z=0 then some (.arr [] (.ints k (List.replicate n.toNat 0)) none) else none
    | _=>none
   | none=>some (.arr [] (.sl es (List.replicate n.toNat te.zc)) none)
  else none
 | _,_,_=>none
theorem ye6 (z:Array Value) (n:Nat):(madeCells z (n*z.size)).toList=(List.replicate n z.toList).flatten:=by
 induction n with
 | zero=>simp [madeCells]
 | succ n ih=>
  rw [List.replicate_succ',List.flatten_append,<-ih];simp only [madeCells,List.flatten_cons,List.flatten_nil,List.append_nil,Nat.succ_mul];apply List.ext_getElem
  . simp
  . intro i h1 h2;simp only [Array.toList_map,Array.toList_range,List.getElem_map,List.getElem_range];by_cases hi:i<n*z.size
    . rw [List.getElem_append_left (by simpa using hi)];simp
    . rw [List.getElem_append_right (by simpa using hi)];simp only [List.length_map,List.length_range,Array.getElem_toList]
      have hlt:i-n*z.size<z.size:=by simp at h1;omega
      have:i % z.size=i-n*z.size:=by
       rw [show i=(i-n*z.size)+z.size*n by rw [Nat.mul_comm z.size n];omega,Nat.add_mul_mod_self_left,Nat.mod_eq_of_lt hlt];rw [Nat.mul_comm z.size n];omega
      rw [this];rw [getElem!_pos z _ hlt]
theorem RdD.xu2 {M:Nat->Nat->Prop} {w:World} {vs:List Value} {cs:List Cell} (h:RdD M w vs cs):∀ n:Nat,RdD M w (List.replicate n vs).flatten (List.replicate n cs).flatten
 | 0=>trivial
 | n+1=>by rw [List.replicate_succ,List.replicate_succ,List.flatten_cons,List.flatten_cons];exact h.append (h.xu2 n)
theorem xga {M:Nat->Nat->Prop} {w:World}:∀{l:List Value},(∀ v∈l,v.oneCell'=true)->RdD M w l (l.map zyj)
 | [],_=>trivial
 | v::l,h=>⟨vwb (h v (by simp)),xga (fun u hu=>h u (by simp [hu]))⟩
theorem zwn {y:Operand} (ho:o.op=.makeSlice T x y) {te:TI} (hti:mkTI P T=some ti) (hte:∀ e es eb ik,ti.sh=.slice e es eb ik->mkTI P e=some te) (hb:vkp J ti te x y=some av)
 (h:val J o (orr x++orr y) av=some r):z7c P o J r.1 [] r.2:=by
 obtain ⟨d,hdst,hn,rfl⟩:=x17 h;have hok:=xat hti;unfold vkp at hb;split at hb
 case h_2=>cases hb
 rename_i e es eb ik kx n ky m hsh hx hy;split at hb
 case isFalse=>cases hb
 rename_i hc;obtain ⟨h0,hnm,hby,h63⟩:=hc;obtain ⟨ds,i,z,hd,hi,hz,_,_,_,_,_,hsh'⟩:=hok.ex;obtain ⟨rfl,j,z',hj,hz',hjs,hjb,hes0,hzs,hik⟩:=zz2 (hsh'.symm.trans hsh);obtain ⟨de,je,ze,hde,hje,hze,_,_,_,hone,hzce,_⟩:=(xat (hte _ _ _ _ hsh)).ex;rw [hj] at hje;cases hje;rw [hz'] at hze;cases hze
 have key:∀ c:Cell,c.uni->c.cnt=n.toNat->c.esz=es->c.flat=(List.replicate n.toNat (z'.cells.toList.map zyj)).flatten->z7c P o J (d::(orr x++orr y)) [] [(d,.arr [] c none)]:=fun c hu hcnt hesz hflat=>by
  refine z7c.new hdst (by simp) hn rfl rfl (fun E τ M J' a w hag hI=>?_);have sx:=hI.opd x;have sy:=hI.opd y;rw [hag.opd (fun t ht=>by simp [ht]),hx] at sx;rw [hag.opd (fun t ht=>by simp [ht]),hy] at sy;have ex:a.eval x=.int kx n:=RdC.v7q sx;have ey:a.eval y=.int ky m:=RdC.v7q sy;have hrun:=run_make (P:=P) w T e j z' hd hj hz' kx ky n m h0 hnm (by rw [hjb];exact hby) h63;refine ⟨.slice (some ⟨w.heap.size,0,none⟩) n.toNat m.toNat,.cells (madeCells z'.cells (m.toNat*j.size)) e,by simp [execOp,ho,ex,ey,hrun],rfl,?_,fun t ht=>ht.elim⟩
  have hcells:madeCells z'.cells (m.toNat*j.size)=([]++((List.replicate n.toNat z'.cells.toList).flatten++(List.replicate (m.toNat-n.toNat) z'.cells.toList).flatten)).toArray:=by
   rw [hjs,<-hzs,<-Array.toArray_toList (xs:=madeCells _ _),ye6,List.nil_append,<-List.flatten_append,List.replicate_append_replicate]
   congr 3;omega
  refine ⟨w.heap.size,e,(List.replicate n.toNat z'.cells.toList).flatten,(List.replicate (m.toNat-n.toNat) z'.cells.toList).flatten,m.toNat,by rw [hcnt];rfl,by rw [ylf,hcells],?_,(by intro p hp;cases hp),hu,by rw [hcnt];omega,?_⟩
  . rw [hflat];exact (xga hone).xu2 _
  . rw [hesz,xz3 (m:=es) _ (fun r hr=>by rw [List.eq_of_mem_replicate hr];simpa using hzs),xz3 (m:=es) _ (fun r hr=>by rw [List.eq_of_mem_replicate hr];simpa using hzs)];simp only [List.length_replicate,<-Nat.add_mul];exact Nat.mul_le_mul_right _ (by omega)
 split at hb
 . rename_i k _;split at hb
   . rename_i k' z0 hzc;split at hb
     . rename_i hc;obtain ⟨rfl,rfl,rfl⟩:=hc
       cases hb;refine key _ trivial (by simp [Cell.cnt]) rfl ?_;rw [<-hzce,hzc]
       have:∀(kk:IntKind) (n:Nat),(List.replicate n ([.raw (.int kk 0)]:List Cell)).flatten=List.replicate n (.raw (.int kk 0)):=fun kk n=>by
        induction n with
        | zero=>rfl
        | succ n ih=>rw [List.replicate_succ,List.flatten_cons,ih];rfl
       rw [this];simp [Cell.flat]
     . cases hb
   . cases hb
 . cases hb;refine key _ (fun r hr=>by rw [List.eq_of_mem_replicate hr,hzce];simpa using hzs) (by simp [Cell.cnt]) rfl ?_;rw [hzce];rfl
def wy0 (place:Nat->Option (Nat×Nat)) (cs:List Cell):List (Nat×AV)->Option (List Cell)
 | []=>some cs
 | (i,av)::r=>match place i,xij av with
  | some (off,size),some us=>if us.length=size/\off+size<=cs.length then wy0 place (cs.take off++us++cs.drop (off+size)) r else none
  | _,_=>none
def vbt (J:List AV):List (Nat×Operand)->List (Nat×AV)
 | []=>[]
 | (i,x)::r=>(i,opd J x)::vbt J r
def orrs:List (Nat×Operand)->List Nat
 | []=>[]
 | (_,x)::r=>orr x++orrs r
theorem zv8 (off:Nat):∀(vs:List Value) (k:Nat) (cells:Array Value),off+k+vs.length<=cells.size->
 ((vs.zipIdx k).foldl (fun (cs:Array Value) (p:Value×Nat)=>cs.setIfInBounds (off+p.2) p.1) cells).toList=cells.toList.take (off+k)++vs++cells.toList.drop (off+k+vs.length)
 | [],k,cells,h=>by simp
 | v::vs,k,cells,h=>by
  simp only [List.zipIdx_cons,List.foldl_cons]
  have hlen:off+k<cells.size:=by simp at h;omega
  rw [zv8 off vs (k+1) _ (by simp at h ⊢;omega)];simp only [Array.toList_setIfInBounds];rw [yeg _ _ _ (by simpa using hlen)]
  have h1:off+(k+1)=(cells.toList.take (off+k)++[v]).length:=by simp;omega
  rw [h1,List.take_left];have h2:(cells.toList.take (off+k)++[v]).length+vs.length=(cells.toList.take (off+k)++[v]).length+vs.length:=rfl;rw [List.drop_append];simp only [List.drop_drop]
  have h3:(cells.toList.take (off+k)++[v]).drop ((cells.toList.take (off+k)++[v]).length+vs.length)=[]:=by
   apply List.drop_eq_nil_of_le;omega
  rw [h3];simp only [List.nil_append,List.append_assoc,List.cons_append,List.length_cons]
  congr 3
  congr 1
  simp;omega
def placeOf (sh:Sh):Nat->Option (Nat×Nat):=match sh with
 | .struct fs=>fun i=>(fs[i]?).map fun f=>(f.1,f.2.1)
 | .array _ _ es=>fun i=>some (i*es,es)
 | _=>fun _=>none
theorem mapM_some {α β:Type} (f:α->Option β) (g:α->β):∀(l:List α),(∀ x∈l,f x=some (g x))->l.mapM f=some (l.map g)
 | [],_=>rfl
 | x::l,h=>by simp [List.mapM_cons,h x (by simp),mapM_some f g l (fun y hy=>h y (by simp [hy]))]
def v16 (k:IntKind):List Cell->Option (List Int)
 | []=>some []
 | .raw (.int k' n)::r=>if k'=k then (v16 k r).map (n::·) else none
 | _::_=>none
def chunk (es:Nat):Nat->List Cell->List (List Cell)
 | 0,_=>[]
 | n+1,cs=>cs.take es::chunk es n (cs.drop es)
def y7v {α:Type} (l:List α):Nat->List α
 | 0=>[]
 | n+1=>l++y7v l n
def xrl (J:List AV) (ti te:TI) (n:Nat) (parts:List (Nat×Operand)):Option AV:=
 match ti.sh with
 | .slice _ es _ ik=>
  if n*es<=16777216/\n≠0 then
   match wy0 (fun i=>some (i*es,es)) (y7v te.zc n) (vbt J parts) with
   | none=>none
   | some cs=>match ik with
    | some k=>if es=1 then (v16 k (vw7 cs)).map fun l=>.one (.ints k l) else none
    | none=>some (.one (.sl es (chunk es n (vw7 cs))))
  else none
 | _=>none
theorem vfi {α:Type} (l:List α):∀ n,(y7v l n).length=n*l.length
 | 0=>by simp [y7v]
 | n+1=>by simp [y7v,vfi l n,Nat.add_mul];omega
theorem vdw {α:Type} (l:List α):∀(n i:Nat),i<n*l.length->(y7v l n)[i]? = l[i % l.length]?
 | 0,i,h=>by simp at h
 | n+1,i,h=>by
  simp only [y7v];by_cases hi:i<l.length
  . rw [List.getElem?_append_left hi,Nat.mod_eq_of_lt hi]
  . rw [List.getElem?_append_right (by omega),vdw l n (i-l.length) (by rw [Nat.add_mul] at h;omega)]
    congr 1
    rw [<-Nat.mod_eq_sub_mod (by omega)]
theorem v7a {M:Nat->Nat->Prop} {w:World} {k:IntKind}:∀{vs:List Value} {cs:List Cell} {l:List Int},RdD M w vs cs->v16 k cs=some l->vs=l.map (Value.int k)
 | [],[],l,_,h=>by simp [v16] at h;simp [h]
 | v::vs,c::cs,l,hr,h=>by
  unfold v16 at h;split at h
  . rename_i heq;cases heq
  . rename_i k' n r heq;simp only [List.cons.injEq] at heq;obtain ⟨rfl,rfl⟩:=heq;split at h
    . rename_i hk;subst hk;simp only [Option.map_eq_some_iff] at h;obtain ⟨l',h1,rfl⟩:=h;rw [RdC.v7q hr.1,v7a hr.2 h1];rfl
    . cases h
  . cases h
theorem we9 (es:Nat):∀(n:Nat) (cs:List Cell),(chunk es n cs).length=n
 | 0,_=>rfl
 | n+1,cs=>by simp [chunk,we9 es n]
def wzu (ti:TI) (parts:List (Nat×Operand)):Option AV:=match ti.sh,parts with
 | .slice _ _ _ _,[]=>some (.one .zc)
 | _,_=>none
theorem wnn {n:Nat} {parts:List (Nat×Operand)} (ho:o.op=.buildSlice T n parts.toArray) (hn0:n=0) (hti:mkTI P T=some ti) (hb:wzu ti parts=some av)
 (h:val J o [] av=some r):z7c P o J r.1 [] r.2:=by
 obtain ⟨d,hdst,hn,rfl⟩:=x17 h;obtain ⟨ds,i,z,hd,hi,hz,_,_,_,_,_,hsh'⟩:=(xat hti).ex;unfold wzu at hb;split at hb
 case h_2=>cases hb
 rename_i e es eb ik hsh
 cases hb;obtain ⟨rfl,j,z',hj,hz',hjs,hjb,hes0,hzs,hik⟩:=zz2 (hsh'.symm.trans hsh);refine z7c.val hdst (by simp) hn rfl (fun E τ M J' a w hag hI=>?_)
 have hrun:(execOp a.eval o).run P w=.ok (.value (.slice (some ⟨w.heap.size,0,none⟩) 0 0)) (w.alloc (.cells #[] e)):=by
  simp [execOp,ho,Instr.buildSlice,y9m hd,ynn hj,hn0,Instr.fill,newRow]
  congr 2
  exact Array.ext (by simp) (fun q h1 h2=>absurd h2 (Nat.not_lt_zero q))
 exact ⟨_,_,hrun,(Below.refl _ _).alloc (Nat.le_refl _) _,RdC.zc,fun t ht=>ht.elim,fun s b hr=>by cases hr⟩
section
variable {E:Env} {τ:Nat->TV} {M:Nat->Nat->Prop} {J:List AV} {a:Act}
end
theorem wem {e:TypeId} (ht:P.underlying T=some (.slice e)) (hi:P.info? e=some i) (w:World) (ty:TypeId)
 (g Tb n cap:Nat) (cur:Array Value) (hg:w.heap[g]? = some (.cells cur Tb (0,0))) (m:Nat) (y:Value) (news:List Value) (hyv:∃ ad c,y=.slice ad m c) (_hl:news.length=m*i.size)
 (hf:(Builtin.firstCells i.size m y).run P w=.ok news.toArray w) (h1:∀ u∈news,u.oneCell'=true)
 (hroom:n+m<=cap) (hfit:n*i.size+news.length<=cur.size) :
 (Builtin.append_ #[T,T] ty #[.slice (some ⟨g,0,none⟩) n cap,y]).run P w =
   .ok (.slice (some ⟨g,0,none⟩) (n+m) cap) (w.setRow g (cur.toList.take (n*i.size)++news++cur.toList.drop (n*i.size+news.length)).toArray):=by
 obtain ⟨ad,c,rfl⟩:=hyv;have hst:=run_storeCells_at P g (n*i.size) Tb news 0 cur w hg (by simpa using hfit) h1;simp only [Nat.add_zero] at hst;simp [Builtin.append_,run_underlying ht,sizeOf,typeInfo,hi,Builtin.lenOf,hroom,hf,Addr.add_lit,hst]
theorem vc5 (w:World) (m:Nat) (y:Value) (news:List Value) (hy:∃ ad cap,y=.slice ad m cap) (hnl:news.length=m*i.size)
 (hnews:news=[]\/∃ b off cap,y=.slice (some ⟨b,off,none⟩) m cap/\∀ j u,news[j]? = some u->w.cell? ⟨b,off+j,none⟩=some u) :
 (Builtin.firstCells i.size m y).run P w=.ok news.toArray w:=by
 rcases hnews with rfl | ⟨b,off,cap,rfl,hc⟩
 . obtain ⟨ad,cap,rfl⟩:=hy
   cases ad with
   | none=>simp [Builtin.firstCells]
   | some b=>
    simp only [List.length_nil] at hnl;simp [Builtin.firstCells,<-hnl,loadCells,loadCellsFrom]
 . exact run_firstCells_some w i.size m _ m cap news hnl (fun j v hj=>by rw [v74];exact hc j v hj)
def w8m (k:IntKind):Cell->Option (List Int)
 | .ints k' l=>if k'=k then some l else none
 | .zc=>some []
 | .nn _=>some []
 | .raw (.slice none 0 0)=>some []
 | _=>none
def z8e (n:Nat):Cell->Option (List (List Cell))
 | .sl n' rows=>if n'=n then some rows else none
 | .zc=>some []
 | .nn _=>some []
 | .raw (.slice none 0 0)=>some []
 | _=>none
def vd3 (es eb:Nat) (ik:Option IntKind) (c cy:Cell):Option Cell:=
 match ik with
 | some k=>match w8m k c,w8m k cy with
  | some l,some l'=>if es=1/\(l.length+l'.length)*eb<=140737488355328/\l.length+l'.length<=9223372036854775807 then some (.ints k (l++l')) else none
  | _,_=>none
 | none=>match z8e es c,z8e es cy with
  | some l,some l'=>if (l.length+l'.length)*eb<=140737488355328/\l.length+l'.length<=9223372036854775807 then some (.sl es (l++l')) else none
  | _,_=>none
theorem RdC.xh8 {l:List Int} (h:RdC M w v c) (hc:w8m k c=some l) :
 (∃ ad cap,v=.slice ad l.length cap)/\(l.map (Value.int k)=[]\/∃ b off cap,v=.slice (some ⟨b,off,none⟩) l.length cap/\∀ j u,(l.map (Value.int k))[j]? = some u->¬M b (off+j)/\w.cell? ⟨b,off+j,none⟩=some u):=by
 cases h with
 | raw h=>
  unfold w8m at hc;split at hc
  . rename_i heq;cases heq
  . rename_i heq;cases heq
  . rename_i heq;cases heq
  . rename_i heq;cases heq;cases hc;exact ⟨⟨_,_,rfl⟩,.inl rfl⟩
  . cases hc
 | zc=>cases hc;exact ⟨⟨_,_,rfl⟩,.inl rfl⟩
 | nn=>cases hc;exact ⟨⟨_,_,rfl⟩,.inl rfl⟩
 | fnp=>cases hc
 | @ints a len cap k' l' b off hl hcap ha hcell=>
  simp only [w8m] at hc;split at hc
  . rename_i hk
    cases hc;subst hk;subst hl;refine ⟨⟨_,_,rfl⟩,?_⟩;by_cases h0:l=[]
    . exact .inl (by rw [h0];rfl)
    . refine .inr ⟨b,off,cap,by rw [ha h0],fun j u hj=>?_⟩
      have hjl:j<l.length:=by simpa using (List.getElem?_eq_some_iff.1 hj).1
      have:=hcell j hjl
      simp [hjl] at hj;rw [<-hj];exact this
  . cases hc
 | sl=>cases hc
theorem RdC.ybi {n:Nat} {rows:List (List Cell)} (hn0:0<n) (h:RdC M w v c) (hc:z8e n c=some rows) :
 (∃ ad cap,v=.slice ad rows.length cap)/\(∀ r∈rows,r.length=n)/\∃ vs:List Value,vs.length=rows.length*n/\RdD M w vs rows.flatten/\
   (vs=[]\/∃ b off cap,v=.slice (some ⟨b,off,none⟩) rows.length cap/\∀ j u,vs[j]? = some u->¬M b (off+j)/\w.cell? ⟨b,off+j,none⟩=some u):=by
 cases h with
 | raw h=>
  unfold z8e at hc;split at hc
  . rename_i heq;cases heq
  . rename_i heq;cases heq
  . rename_i heq;cases heq
  . rename_i heq;cases heq;cases hc;exact ⟨⟨_,_,rfl⟩,by simp,[],by simp,trivial,.inl rfl⟩
  . cases hc
 | zc=>cases hc;exact ⟨⟨_,_,rfl⟩,by simp,[],by simp,trivial,.inl rfl⟩
 | nn=>cases hc;exact ⟨⟨_,_,rfl⟩,by simp,[],by simp,trivial,.inl rfl⟩
 | fnp=>cases hc
 | ints=>cases hc
 | @sl a len cap n' rows' b off u hl hcap ha hn hm hr =>
  simp only [z8e] at hc;split at hc
  . rename_i hk
    cases hc;subst hk;subst hl;refine ⟨⟨_,_,rfl⟩,hn,(List.range (rows.length*n')).map (fun q=>u (q / n') (q % n')),by simp,?_,?_⟩
    . have gen:∀(rs:List (List Cell)) (f:Nat->Nat->Value),(∀ r∈rs,r.length=n')->(∀ i (hi:i<rs.length) j (hj:j<rs[i].length),RdC M w (f i j) rs[i][j])->
       RdD M w ((List.range (rs.length*n')).map (fun q=>f (q / n') (q % n'))) rs.flatten:=by
       intro rs
       induction rs with
       | nil=>intro f _ _;simp;exact trivial
       | cons r rs ih=>
        intro f hlen hf;have hrl:r.length=n':=hlen r (by simp)
        have hsplit:List.range ((r::rs).length*n')=List.range n'++(List.range (rs.length*n')).map (n' + ·):=by
         rw [List.length_cons,Nat.add_mul,Nat.one_mul,Nat.add_comm,List.range_add]
        rw [hsplit,List.map_append,List.map_map,List.flatten_cons]
        have happ:∀{vs:List Value} {cs:List Cell} {us:List Value} {ds:List Cell},RdD M w vs cs->RdD M w us ds->RdD M w (vs++us) (cs++ds):=by
         intro vs
         induction vs with
         | nil=>intro cs us ds h1 h2;cases cs with
          | nil=>exact h2
          | cons _ _=>exact h1.elim
         | cons v vs ihv=>intro cs us ds h1 h2;cases cs with
          | nil=>exact h1.elim
          | cons c cs=>exact ⟨h1.1,ihv h1.2 h2⟩
        refine happ ?_ ?_
        . have e:(List.range n').map (fun q=>f (q / n') (q % n'))=(List.range r.length).map (f 0):=by
           rw [hrl];apply List.map_congr_left;intro q hq
           have:=List.mem_range.1 hq
           rw [Nat.div_eq_of_lt this,Nat.mod_eq_of_lt this]
          rw [e]
          have g2:∀(cs:List Cell) (g:Nat->Value),(∀ j (hj:j<cs.length),RdC M w (g j) cs[j])->RdD M w ((List.range cs.length).map g) cs:=by
           intro cs
           induction cs with
           | nil=>intro g _;exact trivial
           | cons c cs ihc=>
            intro g hg;rw [List.length_cons,List.range_succ_eq_map,List.map_cons,List.map_map];exact ⟨hg 0 (by simp),ihc (g∘Nat.succ) (fun j hj=>hg (j+1) (by simpa using hj))⟩
          exact g2 r (f 0) (fun j hj=>hf 0 (by simp) j hj)
        . have e:(List.range (rs.length*n')).map ((fun q=>f (q / n') (q % n'))∘(n' + ·))=(List.range (rs.length*n')).map (fun q=>f (q / n'+1) (q % n')):=by
           apply List.map_congr_left;intro q _;simp only [Function.comp];rw [Nat.add_comm n' q,Nat.add_div_right _ hn0,Nat.add_mod_right]
          rw [e];exact ih (fun i j=>f (i+1) j) (fun r' hr'=>hlen r' (by simp [hr'])) (fun i hi j hj=>hf (i+1) (by simpa using hi) j hj)
      exact gen rows u hn hr
    . by_cases h0:rows=[]
      . exact .inl (by simp [h0])
      . refine .inr ⟨b,off,cap,by rw [ha h0],fun j x hj=>?_⟩
        have hjl:j<rows.length*n':=by simpa using (List.getElem?_eq_some_iff.1 hj).1
        have h1:j / n'<rows.length:=Nat.div_lt_of_lt_mul (by rw [Nat.mul_comm];exact hjl);have h2:j % n'<n':=Nat.mod_lt _ hn0
        have:=hm (j / n') h1 (j % n') h2
        have e:off+j / n'*n'+j % n'=off+j:=by
         have:=Nat.div_add_mod j n'
         rw [Nat.mul_comm] at this;omega
        rw [e] at this;simp [hjl] at hj;rw [<-hj];exact this
  . cases hc
theorem RdD.oneL {M:Nat->Nat->Prop} {w:World}:∀{vs:List Value} {cs:List Cell},RdD M w vs cs->∀ v∈vs,v.oneCell'=true
 | [],[],_,v,hv=>by simp at hv
 | u::vs,_::_,h,v,hv=>by
  rcases List.mem_cons.1 hv with rfl | hv
  . exact h.1.one
  . exact RdD.oneL h.2 v hv
theorem RdD.app {M:Nat->Nat->Prop} {w:World}:∀{vs:List Value} {cs:List Cell} {us:List Value} {ds:List Cell},RdD M w vs cs->RdD M w us ds->RdD M w (vs++us) (cs++ds)
 | [],[],_,_,_,h=>h
 | _::_,_::_,_,_,h,h'=>⟨h.1,h.2.app h'⟩
end Go.Slot
