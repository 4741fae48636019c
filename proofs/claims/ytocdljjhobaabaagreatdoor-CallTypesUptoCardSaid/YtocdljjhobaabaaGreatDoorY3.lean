/- The proof, part Y3: Mg, Mh. -/
import Derived.Test.YtocdljjhobaabaaGreatDoorY2
namespace Go.Slot
open Go Go.RowKit
variable {P:Program}
theorem ztu.pure {o:Oper} {σ:List AV} {rd:List Nat} {av:AV} {r:List Nat×List (Nat×AV)} (h:Slot.val σ o rd av=some r) (hav:av.xeo=false) (hrf:av.rf=none)
 (hrun:∀(E:Env) (τ:Nat->TV) (M:Nat->Nat->Prop) (σ':List AV) (a:Act) (w:World),(∀ x:Operand,(∀ t∈orr x,t∈rd)->opd σ' x=opd σ x)->(∀ s∈rd,gt σ' s=gt σ s)->RelI E τ M σ' a w->
   ∃ v,(execOp a.eval o).run P w=.ok (.value v) w/\x5d M w τ a.tmps v av/\(∀ t,av.y1a t->live σ' t)):ztu P o σ r.1 [] r.2:=by
 obtain ⟨d,hdst,hn,rfl⟩:=xlk h;refine ztu.val hdst (by simp) hn hav (fun E τ M σ' a w hag hI=>?_);obtain ⟨v,h1,h2,h3⟩:=hrun E τ M σ' a w (fun x hx=>hag.opd (fun t ht=>by simp [hx t ht])) (fun s hs=>hag.2 s (by simp [hs])) hI;exact ⟨v,w,h1,znd w,h2,h3,fun s b hr=>by rw [hrf] at hr;cases hr⟩
def iand (k:IntKind) (a b:Int):Int:=k.wrap (BitVec.ofInt k.bits a &&&BitVec.ofInt k.bits b).toNat
def ior (k:IntKind) (a b:Int):Int:=k.wrap (BitVec.ofInt k.bits a |||BitVec.ofInt k.bits b).toNat
def ishl (k:IntKind) (a b:Int):Int:=k.wrap (a*2 ^ (min b.toNat k.bits))
def ishr (k:IntKind) (a b:Int):Int:=a.fdiv (2 ^ (min b.toNat k.bits))
def seq (a b:ByteArray):Bool:=a.toList==b.toList
def abin (op:BinOp) (x y:Value):Option Value:=
 match x,y with
 | .int k a,.int k' b=>match op with
  | .shl=>if 0<=b then some (.int k (ishl k a b)) else none
  | .shr=>if 0<=b then some (.int k (ishr k a b)) else none
  | .add=>if k=k' then some (.int k (k.wrap (a+b))) else none
  | .sub=>if k=k' then some (.int k (k.wrap (a-b))) else none
  | .mul=>if k=k' then some (.int k (k.wrap (a*b))) else none
  | .quo=>if k=k'/\b≠0 then some (.int k (k.wrap (a.tdiv b))) else none
  | .rem=>if k=k'/\b≠0 then some (.int k (a.tmod b)) else none
  | .and=>if k=k' then some (.int k (iand k a b)) else none
  | .or=>if k=k' then some (.int k (ior k a b)) else none
  | .eql=>if k=k' then some (.bool (a==b)) else none
  | .neq=>if k=k' then some (.bool (a != b)) else none
  | .lss=>if k=k' then some (.bool (decide (a<b))) else none
  | .leq=>if k=k' then some (.bool (decide (a<=b))) else none
  | .gtr=>if k=k' then some (.bool (decide (b<a))) else none
  | .geq=>if k=k' then some (.bool (decide (b<=a))) else none
  | _=>none
 | .string a,.string b=>match op with
  | .eql=>some (.bool (seq a b))
  | .neq=>some (.bool (!seq a b))
  | .add=>if a.size+b.size<=9223372036854775807 then some (.string (a++b)) else none
  | .lss=>some (.bool (Op.bytesLess a.toList b.toList))
  | .leq=>some (.bool (Op.bytesLess a.toList b.toList||seq a b))
  | .gtr=>some (.bool (!(Op.bytesLess a.toList b.toList||seq a b)))
  | .geq=>some (.bool (!Op.bytesLess a.toList b.toList))
  | _=>none
 | _,_=>none
theorem x08 {op:BinOp} {x y v:Value} (h:abin op x y=some v):v.oneCell'=true:=by
 unfold abin at h;split at h
 . split at h<;>first | (split at h<;>first | (cases h;rfl) | cases h) | cases h
 . split at h<;>first | (cases h;rfl) | (split at h<;>first | (cases h;rfl) | cases h) | cases h
 . cases h
theorem ysr {op:BinOp} {x y v:Value} (h:abin op x y=some v) (T:TypeId) (w:World):(binOp op T x y).run P w=.ok v w:=by
 unfold abin at h;split at h
 . rename_i k a k' b;split at h
   all_goals first
    | (split at h
       . rename_i hc
         first
          | (obtain ⟨rfl,hb⟩:=hc;cases h;simp [binOp,Op.intDiv,hb])
          | (subst hc;cases h;simp [binOp,Op.intArith,Op.intBits,Op.intCmp,iand,ior])
          | (cases h;have hb:¬b<0:=by omega
             simp [binOp,Op.shift,hb,ishl,ishr])
       . cases h)
    | cases h
 . rename_i a b;split at h
   . cases h;simp [binOp,Op.stringOp,seq]
   . cases h;simp [binOp,Op.stringOp,seq]
   . split at h
     . rename_i hc
       cases h
       have:¬(IntKind.i64.max<((a.size+b.size:Nat):Int)):=by
        have:IntKind.i64.max=9223372036854775807:=by decide
        omega
       simp only [binOp,Op.stringOp];rw [if_neg this];rfl
     . cases h
   . cases h;simp [binOp,Op.stringOp]
   . cases h;simp [binOp,Op.stringOp,seq]
   . cases h;simp [binOp,Op.stringOp,seq]
   . cases h;simp [binOp,Op.stringOp]
   . cases h
 . cases h
theorem vol {op:BinOp} {x y v:Value} (h:abin op x y=some v) (T:TypeId) (ox oy:Operand) (w:World):(eqGuard op T ox oy x y).run P w=.ok () w:=by
 unfold abin at h;unfold eqGuard;split at h
 . cases op<;>rfl
 . cases op<;>rfl
 . cases h
def binA (σ:List AV) (op:BinOp) (x y:Operand):Option AV:=
 match opd σ x,opd σ y with
 | .one (.raw a),.one (.raw b)=>(abin op a b).map fun v=>.one (.raw v)
 | _,_=>none
theorem xx6 {σ:List AV} {o:Oper} {op:BinOp} {T U:TypeId} {x y:Operand} (ho:o.op=.binOp op T x y U) {av:AV} (hb:binA σ op x y=some av) {r:List Nat×List (Nat×AV)}
 (h:val σ o (orr x++orr y) av=some r):ztu P o σ r.1 [] r.2:=by
 have:∃ a b v,opd σ x=.one (.raw a)/\opd σ y=.one (.raw b)/\abin op a b=some v/\av=.one (.raw v):=by
  unfold binA at hb;split at hb
  . rename_i a b hx hy;simp only [Option.map_eq_some_iff] at hb;obtain ⟨v,h1,rfl⟩:=hb;exact ⟨a,b,v,hx,hy,h1,rfl⟩
  . cases hb
 obtain ⟨p,q,v,hx,hy,hab,rfl⟩:=this;refine ztu.pure h rfl rfl (fun E τ M σ' a w hop _ hI=>⟨v,?_,RdC.raw (x08 hab),fun t ht=>ht.elim⟩);have sx:=hI.opd x;have sy:=hI.opd y;rw [hop x (fun t ht=>by simp [ht]),hx] at sx;rw [hop y (fun t ht=>by simp [ht]),hy] at sy;have ex:a.eval x=p:=RdC.xcn sx;have ey:a.eval y=q:=RdC.xcn sy;simp [execOp,ho,ex,ey,vol hab,ysr hab]
def nilC:Cell->Option Bool
 | .raw (.slice none 0 0)=>some true
 | .nn b=>some b
 | .ints _ l=>if 0<l.length then some false else none
 | .sl _ r=>if 0<r.length then some false else none
 | _=>none
def nilA (σ:List AV) (ti:TI) (op:BinOp) (x:Operand):Option AV:=
 match ti.sh with
 | .slice _ _ _ _=>match opd σ x with
  | .one c=>match nilC c.bare with
   | some b=>match op with
    | .eql=>some (.one (.raw (.bool b)))
    | .neq=>some (.one (.raw (.bool (!b))))
    | _=>none
   | none=>none
  | _=>none
 | _=>none
theorem RdC.isNil {M:Nat->Nat->Prop} {w:World} {v:Value} {c:Cell} {b:Bool} (h:RdC M w v c) (hb:nilC c=some b):∃ a len cap,v=.slice a len cap/\a.isNone=b:=by
 cases h with
 | raw h=>unfold nilC at hb;split at hb<;>first | (rename_i heq;cases heq;cases hb;exact ⟨_,_,_,rfl,rfl⟩) | (rename_i heq;cases heq;done) | cases hb
 | zc=>cases hb
 | nn=>cases hb;exact ⟨_,_,_,rfl,rfl⟩
 | fnp=>cases hb
 | ints b' off hl hc ha h=>
  simp only [nilC] at hb;split at hb
  . rename_i hp;cases hb;rw [ha (List.length_pos_iff.1 hp)];exact ⟨_,_,_,rfl,rfl⟩
  . cases hb
 | sl b' off u hl hc ha hn hm hr=>
  simp only [nilC] at hb;split at hb
  . rename_i hp;cases hb;rw [ha (List.length_pos_iff.1 hp)];exact ⟨_,_,_,rfl,rfl⟩
  . cases hb
theorem ydx {σ:List AV} {o:Oper} {op:BinOp} {T U:TypeId} {x:Operand} (ho:o.op=.binOp op T x (.const (.slice none 0 0)) U) {ti:TI} (hti:mkTI P T=some ti) {av:AV} (hb:nilA σ ti op x=some av) {r:List Nat×List (Nat×AV)}
 (h:val σ o (orr x) av=some r):ztu P o σ r.1 [] r.2:=by
 obtain ⟨ds,i,z,hd,hi,hz,_,_,_,_,_,hsh'⟩:=(xky hti).ex;unfold nilA at hb;split at hb
 case h_2=>cases hb
 rename_i e es eb ik hsh;obtain ⟨rfl,_⟩:=wit (hsh'.symm.trans hsh);split at hb
 case h_2=>cases hb
 rename_i c hx;split at hb
 case h_2=>cases hb
 rename_i b hnil
 have hav:∃ q,av=.one (.raw (.bool q))/\((op=.eql/\q=b)\/(op=.neq/\q = !b)):=by
  split at hb<;>cases hb
  . exact ⟨_,rfl,.inl ⟨rfl,rfl⟩⟩
  . exact ⟨_,rfl,.inr ⟨rfl,rfl⟩⟩
 obtain ⟨q,rfl,hq⟩:=hav;refine ztu.pure h rfl rfl (fun E τ M σ' a w hop _ hI=>⟨.bool q,?_,RdC.raw rfl,fun t ht=>ht.elim⟩);have sx:=hI.opd x;rw [hop x (fun t ht=>ht),hx] at sx;obtain ⟨ad,len,cap,hv,hn⟩:=(RdT.bare sx).isNil hnil
 have hd':∀ d,(Op.equalIn (d+1) T (.slice ad len cap) (.slice none 0 0)).run P w=.ok b w:=fun d=>by
  unfold Op.equalIn
  cases ad with
  | none=>cases hn;simp [z6x hd]
  | some ad=>cases hn;simp [z6x hd]
 have he:(Op.equal T (.slice ad len cap) (.slice none 0 0)).run P w=.ok b w:=hd' 9999;have hc0:a.eval (.const (.slice none 0 0))=.slice none 0 0:=rfl
 rcases hq with ⟨rfl,rfl⟩ | ⟨rfl,rfl⟩
 . simp [execOp,ho,hv,eqGuard,binOp,he,hc0]
 . simp [execOp,ho,hv,eqGuard,binOp,he,hc0]
def aun (op:UnOp) (x:Value):Option Value:=
 match op,x with
 | .neg,.int k n=>some (.int k (k.wrap (0-n)))
 | .not,.bool b=>some (.bool (!b))
 | _,_=>none
def unA (σ:List AV) (op:UnOp) (x:Operand):Option AV:=
 match opd σ x with
 | .one (.raw a)=>(aun op a).map fun v=>.one (.raw v)
 | _=>none
theorem v4p {σ:List AV} {o:Oper} {op:UnOp} {T:TypeId} {x:Operand} (ho:o.op=.unOp op T x) {av:AV} (hb:unA σ op x=some av) {r:List Nat×List (Nat×AV)}
 (h:val σ o (orr x) av=some r):ztu P o σ r.1 [] r.2:=by
 have:∃ a v,opd σ x=.one (.raw a)/\aun op a=some v/\av=.one (.raw v):=by
  unfold unA at hb;split at hb
  . rename_i a hx;simp only [Option.map_eq_some_iff] at hb;obtain ⟨v,h1,rfl⟩:=hb;exact ⟨a,v,hx,h1,rfl⟩
  . cases hb
 obtain ⟨p,v,hx,hab,rfl⟩:=this
 have hone:v.oneCell'=true:=by unfold aun at hab;split at hab<;>first | (cases hab;rfl) | cases hab
 refine ztu.pure h rfl rfl (fun E τ M σ' a w hop _ hI=>⟨v,?_,RdC.raw hone,fun t ht=>ht.elim⟩);have sx:=hI.opd x;rw [hop x (fun t ht=>by simp [ht]),hx] at sx;have ex:a.eval x=p:=RdC.xcn sx;unfold aun at hab;split at hab
 . cases hab;simp [execOp,ho,ex,Op.unary,Op.intArith]
 . cases hab;simp [execOp,ho,ex,Op.unary]
 . cases hab
def zj2 (σ:List AV) (_ts td:TI) (x:Operand):Option AV:=
 match opd σ x,td.sh with
 | .one (.raw (.int _ n)),.int k=>some (.one (.raw (.int k (k.wrap n))))
 | _,_=>none
theorem va6 {d:TypeDesc} {k:IntKind} (h:shOf P d=.int k):d=.int k:=by
 cases d with
 | int k'=>simp [shOf] at h;rw [h]
 | slice e=>
  exfalso;revert h;unfold shOf;dsimp only
  split
  . split
    . split<;>simp
    . simp
  . simp
 | struct fl=>
  exfalso;revert h;unfold shOf;dsimp only;split<;>simp
 | _=>simp [shOf] at h
theorem zmd {σ:List AV} {o:Oper} {S D:TypeId} {x:Operand} (ho:o.op=.convert S D x) {ts td:TI} (hts:mkTI P S=some ts) (htd:mkTI P D=some td) {av:AV} (hb:zj2 σ ts td x=some av)
 {r:List Nat×List (Nat×AV)} (h:val σ o (orr x) av=some r):ztu P o σ r.1 [] r.2:=by
 have:∃ k' k n,opd σ x=.one (.raw (.int k' n))/\td.sh=.int k/\av=.one (.raw (.int k (k.wrap n))):=by
  unfold zj2 at hb;split at hb
  . rename_i k' n k hx hk;cases hb;exact ⟨k',k,n,hx,hk,rfl⟩
  . cases hb
 obtain ⟨k',k,n,hx,hk,rfl⟩:=this;obtain ⟨d,i,z,hd,hi,hz,_,_,_,_,_,hsh⟩:=(xky htd).ex;obtain ⟨ds,_,_,hds,_⟩:=(xky hts).ex;have hdk:=va6 (hsh.symm.trans hk);subst hdk;refine ztu.pure h rfl rfl (fun E τ M σ' a w hop _ hI=>⟨_,?_,RdC.raw rfl,fun t ht=>ht.elim⟩);have sx:=hI.opd x;rw [hop x (fun t ht=>by simp [ht]),hx] at sx;have ex:a.eval x=.int k' n:=RdC.xcn sx;simp [execOp,ho,ex,convert,z6x hd,z6x hds,Conv.intToInt]
def lenC:Cell->Option Nat
 | .ints _ l=>some l.length
 | .sl _ rows=>some rows.length
 | .zc=>some 0
 | .nn _=>some 0
 | .raw (.slice none 0 0)=>some 0
 | .raw (.string s)=>some s.size
 | .tok _ (.ints _ l)=>some l.length
 | .tok _ (.sl _ rows)=>some rows.length
 | _=>none
def lenA (σ:List AV) (x:Operand):Option (List Nat×AV):=
 match opd σ x with
 | .one c=>(lenC c).map fun (n:Nat)=>(orr x,.one (.raw (.int .i64 (n:Int))))
 | .arr _ c _=>some (orr x,.one (.raw (.int .i64 (c.cnt:Int))))
 | .asl s=>match gt σ s with
  | .arr _ c _=>some (s::orr x,.one (.raw (.int .i64 (c.cnt:Int))))
  | _=>none
 | .awn _ _ _ (n:Nat)=>some (orr x,.one (.raw (.int .i64 (n:Int))))
 | _=>none
theorem run_len_slice {T:TypeId} {ti:TI} (hti:TIok P T ti) {e es eb:Nat} {ik:Option IntKind} (hs:ti.sh=.slice e es eb ik) (ty:TypeId) (ad:Option Addr) (len cap:Nat) (w:World) :
 (Builtin.len_ #[T] ty #[.slice ad len cap]).run P w=.ok (.int .i64 len) w:=by
 obtain ⟨d,i,z,hd,hi,hz,_,_,_,_,_,hsh⟩:=hti.ex;obtain ⟨rfl,_⟩:=wit (hsh.symm.trans hs);simp [Builtin.len_,z6x hd,goInt]
theorem vnq {d:TypeDesc} (h:shOf P d=.string):d=.string:=by
 cases d with
 | string=>rfl
 | slice e=>
  exfalso;revert h;unfold shOf;dsimp only
  split
  . split
    . split<;>simp
    . simp
  . simp
 | struct fl=>
  exfalso;revert h;unfold shOf;dsimp only;split<;>simp
 | _=>simp [shOf] at h
def x38 (ti:TI):Cell->Bool
 | .raw (.string _)=>match ti.sh with
  | .string=>true
  | _=>false
 | _=>match ti.sh with
  | .slice _ _ _ _=>true
  | _=>false
def w8n (σ:List AV) (ti:TI) (x:Operand):Bool:=
 match opd σ x with
 | .one c=>x38 ti c
 | _=>match ti.sh with
  | .slice _ _ _ _=>true
  | _=>false
theorem RdT.len {M:Nat->Nat->Prop} {w:World} {τ:Nat->TV} {v:Value} {c:Cell} {n:Nat} (h:RdT M w τ v c) (hl:lenC c=some n) :
 (∃ ad cap,v=.slice ad n cap/\∀ s,c≠.raw (.string s))\/∃ s,c=.raw (.string s)/\v=.string s/\n=s.size:=by
 have base:∀ c,RdC M w v c->lenC c=some n->(∃ ad cap,v=.slice ad n cap/\∀ s,c≠.raw (.string s))\/∃ s,c=.raw (.string s)/\v=.string s/\n=s.size:=fun c h hl=>by
  cases h with
  | raw h=>
   unfold lenC at hl;split at hl
   case h_5=>rename_i heq;cases heq;cases hl;exact .inl ⟨none,0,rfl,by simp⟩
   case h_6=>rename_i s heq;cases heq;cases hl;exact .inr ⟨s,rfl,rfl,rfl⟩
   all_goals first | (rename_i heq;cases heq;done) | cases hl
  | zc=>cases hl;exact .inl ⟨_,_,rfl,by simp⟩
  | nn=>cases hl;exact .inl ⟨_,_,rfl,by simp⟩
  | fnp=>cases hl
  | ints b off hl' hc ha h=>cases hl;subst hl';exact .inl ⟨_,_,rfl,by simp⟩
  | sl b off u hl' hc ha hn hm hr=>cases hl;subst hl';exact .inl ⟨_,_,rfl,by simp⟩
 cases c with
 | tok d c=>
  have h2:=h.2
  rcases base c h2 (by cases c<;>first | exact hl | cases hl) with ⟨ad,cap,hv,_⟩ | ⟨s,rfl,_⟩
  . exact .inl ⟨ad,cap,hv,by simp⟩
  . cases hl
 | _=>exact base _ h hl
theorem xtu {σ:List AV} {o:Oper} {T:TypeId} {x:Operand} (ho:o.op=.call { callee:=.builtin .len,args:=#[x],argTypes:=#[T] }) {ti:TI} (hti:mkTI P T=some ti) (hfit:w8n σ ti x=true)
 {rd:List Nat} {av:AV} (hb:lenA σ x=some (rd,av)) {r:List Nat×List (Nat×AV)} (h:val σ o rd av=some r):ztu P o σ r.1 [] r.2:=by
 have hok:=xky hti
 have hsub:(∀ t∈orr x,t∈rd)/\∃ n:Nat,av=.one (.raw (.int .i64 n)):=by
  unfold lenA at hb;split at hb
  . simp only [Option.map_eq_some_iff,Prod.mk.injEq] at hb;obtain ⟨n,_,rfl,rfl⟩:=hb;exact ⟨fun t ht=>ht,n,rfl⟩
  . cases hb;exact ⟨fun t ht=>ht,_,rfl⟩
  . split at hb
    . cases hb;exact ⟨fun t ht=>by simp [ht],_,rfl⟩
    . cases hb
  . cases hb;exact ⟨fun t ht=>ht,_,rfl⟩
  . cases hb
 obtain ⟨hsub,n,rfl⟩:=hsub;refine ztu.pure h rfl rfl (fun E τ M σ' a w hop hgt hI=>⟨_,?_,RdC.raw rfl,fun t ht=>ht.elim⟩);have sx:=hI.opd x;rw [hop x hsub] at sx
 have key:(Builtin.len_ #[T] o.type #[a.eval x]).run P w=.ok (.int .i64 n) w:=by
  unfold w8n at hfit;unfold lenA at hb;split at hb
  . rename_i c hc;rw [hc] at sx;simp only [hc] at hfit;simp only [Option.map_eq_some_iff,Prod.mk.injEq,AV.one.injEq,Cell.raw.injEq,Value.int.injEq,true_and] at hb;obtain ⟨m,hm,rfl,hmn⟩:=hb
    have hmn':m=n:=by exact_mod_cast hmn
    subst hmn'
    rcases RdT.len (show RdT M w τ _ c from sx) hm with ⟨ad,cap,hv,hns⟩ | ⟨s,rfl,hv,rfl⟩
    . rw [hv]
      have:∃ e es eb ik,ti.sh=.slice e es eb ik:=by
       unfold x38 at hfit;split at hfit
       . exact absurd rfl (hns _)
       . split at hfit
         . rename_i h;exact ⟨_,_,_,_,h⟩
         . cases hfit
      obtain ⟨e,es,eb,ik,hsh⟩:=this;exact run_len_slice hok hsh _ _ _ _ w
    . rw [hv]
      have hsh:ti.sh=.string:=by
       simp only [x38] at hfit;split at hfit
       . assumption
       . cases hfit
      obtain ⟨d,i,z,hd,hi,hz,_,_,_,_,_,hsh'⟩:=hok.ex
      have:=vnq (hsh'.symm.trans hsh)
      subst this;simp [Builtin.len_,z6x hd,goInt]
  . rename_i pre c post hl
    cases hb;rw [hl] at sx;obtain ⟨b,Tb,vs,q,cap,e1,_⟩:=sx;rw [e1];simp only [hl] at hfit;split at hfit
    . rename_i hsh;exact run_len_slice hok hsh _ _ _ _ w
    . cases hfit
  . rename_i s hs0;split at hb
    . rename_i pre c post hl
      cases hb;rw [hs0] at sx;have sx:a.eval x=a.tmps.getD s Go.undef:=sx;have hss:=hI.gt s;rw [hgt s (by simp),hl] at hss;obtain ⟨b,Tb,vs,q,cap,e1,_⟩:=hss;rw [sx,e1];simp only [hs0] at hfit;split at hfit
      . rename_i hsh;exact run_len_slice hok hsh _ _ _ _ w
      . cases hfit
    . cases hb
  . rename_i s m lo n' hs0
    cases hb;rw [hs0] at sx;obtain ⟨ad,cap,e1,_⟩:=sx;rw [e1];simp only [hs0] at hfit;split at hfit
    . rename_i hsh;exact run_len_slice hok hsh _ _ _ _ w
    . cases hfit
  . cases hb
 simp [execOp,ho,resolve,invoke,builtin,key]
def Cell.isSl:Cell->Bool
 | .ints _ _ | .sl _ _ | .zc=>true
 | _=>false
def natA:AV->Option Nat
 | .one (.raw (.int _ n))=>if 0<=n then some n.toNat else none
 | _=>none
def vn4 (σ:List AV) (d:Nat):Option Operand->Option Nat
 | none=>some d
 | some x=>natA (opd σ x)
def orrO:Option Operand->List Nat
 | none=>[]
 | some x=>orr x
def cutC (c:Cell) (lo:Nat) (hi:Option Nat):Option Cell:=
 match c with
 | .ints k l=>let h:=hi.getD l.length
  if lo<=h/\h<=l.length then some (.ints k ((l.drop lo).take (h-lo))) else none
 | .sl n rows=>let h:=hi.getD rows.length
  if lo<=h/\h<=rows.length then some (.sl n ((rows.drop lo).take (h-lo))) else none
 | _=>none
def zd3 (σ:List AV) (ti:TI) (x:Operand) (lo hi mx:Option Operand):Option AV:=
 match vn4 σ 0 lo,(match hi with | none=>some none | some h=>(natA (opd σ h)).map some) with
 | some l,some h=>
  match mx with
  | none=>match opd σ x with
   | .one (.raw (.string s))=>match ti.sh with
    | .string=>if l<=h.getD s.size/\h.getD s.size<=s.size then some (.one (.raw (.string (s.extract l (h.getD s.size))))) else none
    | _=>none
   | .one c=>match ti.sh with
    | .slice _ _ _ _=>(cutC c.bare l h).map .one
    | _=>none
   | _=>none
  | some m=>match ti.sh,opd σ x with
   | .slice _ _ _ _,.one c=>if c.bare.isSl=true/\l=0/\h=some 0/\natA (opd σ m)=some 0 then some (.one .zc) else none
   | _,_=>none
 | _,_=>none
theorem yfp {M:Nat->Nat->Prop} {w:World} {τ:Nat->TV} {tm:Array Value} {v:Value} {av:AV} {n:Nat} (h:x5d M w τ tm v av) (hn:natA av=some n):∃ k,v=.int k n:=by
 unfold natA at hn;split at hn
 . rename_i k m;split at hn
   . rename_i h0
     cases hn;have e:v=.int k m:=RdC.xcn h;exact ⟨k,by rw [e];congr 1;omega⟩
   . cases hn
 . cases hn
theorem w5v {v:Value} {n y:Nat} {k:IntKind} (hv:v=.int k n) (h:n<=y) (code:BoundsCode) (w:World):(Instr.sliceBound v y code).run P w=.ok n w:=by
 subst hv
 have:(n:Int)<=(y:Int):=by omega
 simp [Instr.sliceBound,asIntOf,this]
theorem v2d (k:IntKind) (y:Nat) (code:BoundsCode) (w:World):(Instr.sliceBound (.int k 0) y code).run P w=.ok 0 w:=by
 simp [Instr.sliceBound,asIntOf]
theorem yxx {lo hi:Option Value} {l h len cap:Nat} {isS:Bool} (hl:match lo with | none=>l=0 | some v=>∃ k,v=.int k l) (hh:match hi with | none=>h=len | some v=>∃ k,v=.int k h)
 (h1:l<=h) (h2:h<=cap) (w:World):(Instr.sliceBounds isS len cap lo hi none).run P w=.ok (l,h,cap) w:=by
 unfold Instr.sliceBounds
 cases hi with
 | none=>
  simp only at hh;subst hh
  cases lo with
  | none=>simp only at hl;subst hl;simp
  | some v=>obtain ⟨k,hv⟩:=hl;simp [w5v hv h1]
 | some u=>
  obtain ⟨k',hu⟩:=hh
  cases lo with
  | none=>simp only at hl;subst hl;simp [w5v hu h2]
  | some v=>obtain ⟨k,hv⟩:=hl;simp [w5v hu h2,w5v hv h1]
theorem RdC.cut {M:Nat->Nat->Prop} {w:World} {ad:Option Addr} {len cap:Nat} {c c':Cell} {l:Nat} {h:Option Nat} {es:Nat} (hr:RdC M w (.slice ad len cap) c) (hc:cutC c l h=some c')
 (hes:∀ k L,c=.ints k L->es=1) (hes':∀ n rows,c=.sl n rows->es=n) :
 l<=h.getD len/\h.getD len<=len/\len<=cap/\RdC M w (.slice (if cap=l then ad else ad.map (·.add (l*es))) (h.getD len-l) (cap-l)) c':=by
 cases hr with
 | raw h=>cases hc
 | zc=>cases hc
 | nn=>cases hc
 | fnp=>cases hc
 | @ints _ _ _ k L b off hl hcap ha hcell=>
  simp only [cutC] at hc;split at hc
  . rename_i hb
    cases hc;subst hl;have he:=hes k L rfl;subst he;refine ⟨hb.1,hb.2,hcap,?_⟩;refine .ints b (off+l) (by simp;omega) (by omega) (fun hne=>?_) (fun i hi=>?_)
    . have:L≠[]:=fun e=>by subst e;simp at hne
      have hlt:¬cap=l:=fun e=>by
       apply hne
       have:h.getD L.length=l:=by omega
       simp [this]
      rw [if_neg hlt,ha this];simp [y78]
    . simp only [List.length_take,List.length_drop] at hi
      have:=hcell (l+i) (by omega)
      rw [Nat.add_assoc];simpa using this
  . cases hc
 | @sl _ _ _ n rows b off u hl hcap ha hn hm hr=>
  simp only [cutC] at hc;split at hc
  . rename_i hb
    cases hc;subst hl;have he:=hes' n rows rfl;subst he;refine ⟨hb.1,hb.2,hcap,?_⟩;refine .sl b (off+l*es) (fun i j=>u (l+i) j) (by simp;omega) (by omega) (fun hne=>?_) (fun r hr'=>hn r (List.mem_of_mem_drop (List.mem_of_mem_take hr'))) (fun i hi j hj=>?_) (fun i hi j hj=>?_)
    . have:rows≠[]:=fun e=>by subst e;simp at hne
      have hlt:¬cap=l:=fun e=>by
       apply hne
       have:h.getD rows.length=l:=by omega
       simp [this]
      rw [if_neg hlt,ha this];simp [y78]
    . simp only [List.length_take,List.length_drop] at hi
      have:=hm (l+i) (by omega) j hj
      rw [Nat.add_mul] at this
      have e:off+l*es+i*es+j=off+(l*es+i*es)+j:=by omega
      rw [e];exact this
    . simp only [List.length_take,List.length_drop] at hi
      have hlen:l+i<rows.length:=by omega
      have hj':j<rows[l+i].length:=by simpa using hj
      have:=hr (l+i) hlen j hj'
      simpa using this
  . cases hc
theorem RdC.z2b {M:Nat->Nat->Prop} {w:World} {v:Value} {c:Cell} (h:RdC M w v c) (hc:c.isSl=true):∃ ad len cap,v=.slice ad len cap:=by
 cases h with
 | raw _=>cases hc
 | fnp=>cases hc
 | _=>exact ⟨_,_,_,rfl⟩
theorem xub {σ:List AV} {o:Oper} {T:TypeId} {x:Operand} {lo hi mx:Option Operand} (ho:o.op=.slice T x lo hi mx) {ti:TI} (hti:mkTI P T=some ti)
 (hes:∀ e es eb ik,ti.sh=.slice e es eb ik->∀ c,opd σ x=.one c->(∀ k L,c.bare=.ints k L->es=1)/\(∀ n rows,c.bare=.sl n rows->es=n)) {av:AV}
 (hs:zd3 σ ti x lo hi mx=some av) {r:List Nat×List (Nat×AV)} (h:val σ o (orr x++orrO lo++orrO hi++orrO mx) av=some r):ztu P o σ r.1 [] r.2:=by
 have hok:=xky hti;obtain ⟨d,i,z,hd,hi',hz,_,_,_,_,_,hsh'⟩:=hok.ex
 have hprops:av.xeo=false/\av.rf=none:=by
  unfold zd3 at hs
  repeat' split at hs
  all_goals first
   | (cases hs;exact ⟨rfl,rfl⟩)
   | (simp only [Option.map_eq_some_iff] at hs;obtain ⟨_,_,rfl⟩:=hs;exact ⟨rfl,rfl⟩)
   | cases hs
 refine ztu.pure h hprops.1 hprops.2 (fun E τ M σ' a w hop hgt hI=>?_);have sx:=hI.opd x;rw [hop x (fun t ht=>by simp [ht])] at sx
 have bnd:∀(u:Option Operand) (dflt n:Nat),(∀ y,u=some y->opd σ' y=opd σ y)->vn4 σ dflt u=some n->match u.map a.eval with | none=>n=dflt | some v=>∃ k,v=.int k n:=fun u dflt n hu hb=>by
  cases u with
  | none=>simp [vn4] at hb;exact hb.symm
  | some y=>
   have sy:=hI.opd y;rw [hu y rfl] at sy;exact yfp sy hb
 have hlo:∀ y,lo=some y->opd σ' y=opd σ y:=fun y e=>hop y (fun t ht=>by subst e;simp [orrO,ht])
 have hhi:∀ y,hi=some y->opd σ' y=opd σ y:=fun y e=>hop y (fun t ht=>by subst e;simp [orrO,ht])
 have hmx:∀ y,mx=some y->opd σ' y=opd σ y:=fun y e=>hop y (fun t ht=>by subst e;simp [orrO,ht])
 unfold zd3 at hs;split at hs
 case h_2=>cases hs
 rename_i l hh hl hhb;have bl:=bnd lo 0 l hlo hl
 have bh:∀ len:Nat,match hi.map a.eval with | none=>hh.getD len=len | some v=>∃ k,v=.int k (hh.getD len):=fun len=>by
  cases hi with
  | none=>simp at hhb;subst hhb;rfl
  | some y=>
   simp only [Option.map_eq_some_iff] at hhb;obtain ⟨n,hn,rfl⟩:=hhb;have sy:=hI.opd y;rw [hhi y rfl] at sy;exact yfp sy hn
 split at hs
 ·
  split at hs
  . rename_i s hxs;rw [hxs] at sx;have ex:a.eval x=.string s:=RdC.xcn sx;split at hs
    . rename_i hsh;split at hs
      . rename_i hb
        cases hs;have hds:=vnq (hsh'.symm.trans hsh);subst hds;refine ⟨.string (s.extract l (hh.getD s.size)),?_,RdC.raw rfl,fun t ht=>ht.elim⟩;have hrb:=yxx (P:=P) (isS:=false) (len:=s.size) (cap:=s.size) bl (bh s.size) hb.1 hb.2 w;simp [execOp,ho,ex,Instr.sliceAt,z6x hd,Instr.slice,hrb]
      . cases hs
    . cases hs
  . rename_i c hnot hxc;rw [hxc] at sx;split at hs
    . rename_i e es eb ik hsh;simp only [Option.map_eq_some_iff] at hs;obtain ⟨c',hc',rfl⟩:=hs;obtain ⟨rfl,j,z',hj,hz',hjs,_⟩:=wit (hsh'.symm.trans hsh);have hrb:=RdT.bare (show RdT M w τ _ c from sx)
      have hsv:∃ ad len cap,a.eval x=.slice ad len cap:=hrb.z2b (by
       generalize c.bare=cb at hc'
       cases cb<;>first | rfl | cases hc')
      obtain ⟨ad,len,cap,ex⟩:=hsv;rw [ex] at hrb;have hcut:=hrb.cut hc' (hes e es eb ik hsh c hxc).1 (hes e es eb ik hsh c hxc).2;refine ⟨_,?_,RdT.of hcut.2.2.2,fun t ht=>?_⟩
      . have hrbs:=yxx (P:=P) (isS:=true) (len:=len) (cap:=cap) bl (bh len) hcut.1 (by omega) w;simp [execOp,ho,ex,Instr.sliceAt,z6x hd,Instr.slice,hrbs,yg7 hj,hjs]
      . have hnt:∀ t,¬c'.y1a t:=fun t ht=>by
         cases c' with
         | tok d' c''=>exact hcut.2.2.2.wbu
         | _=>exact ht
        exact absurd ht (hnt t)
    . cases hs
  . cases hs
 . rename_i m;split at hs
   . rename_i e es eb ik c hsh hxc;rw [hxc] at sx;split at hs
     . rename_i hb;obtain ⟨hsl,rfl,rfl,hm⟩:=hb
       cases hs;obtain ⟨rfl,j,z',hj,hz',hjs,_⟩:=wit (hsh'.symm.trans hsh);have hrb:=RdT.bare (show RdT M w τ _ c from sx);have sm:=hI.opd m;rw [hmx m rfl] at sm;obtain ⟨km,em⟩:=yfp sm hm;obtain ⟨ad,len,cap,ex⟩:=hrb.z2b hsl;have hhv:=bh 0;have hlv:∀(lv:Option Value),(match lv with | none=>0=0 | some v=>∃ k,v=.int k (0:Nat))->∀ hv:Value,(∃ k,hv=.int k (0:Nat))->
        (Instr.sliceBounds true len cap lv (some hv) (some (.int km (0:Nat)))).run P w=.ok (0,0,0) w:=fun lv h1 hv ⟨k2,h2⟩=>by
        unfold Instr.sliceBounds
        cases lv with
        | none=>subst h2;simp [v2d]
        | some v=>obtain ⟨k3,h3⟩:=h1;subst h2;subst h3;simp [v2d]
       cases hi with
       | none=>simp at hhb
       | some hy=>
        have hres:=hlv (lo.map a.eval) bl (a.eval hy) hhv;have hmv:a.eval m=.int km (0:Nat):=em;refine ⟨.slice ad 0 0,?_,RdC.zc,fun t ht=>ht.elim⟩;simp only [execOp,ho,ex,Instr.sliceAt,Option.map_some,hmv,Sem.run_bind,z6x hd,Result.andThen_ok,Instr.slice,hres,yg7 hj];simp
     . cases hs
   . cases hs
def yly (σ:List AV) (ti:TI) (x:Operand) (lo hi:Option Operand):Option (List Nat×AV):=
 match vn4 σ 0 lo,(match hi with | none=>some none | some h=>(natA (opd σ h)).map some) with
 | some l,some h=>match ti.sh,x with
  | .slice _ es _ _,.tmp t=>match gt σ t with
   | .arr _ c _=>if es=c.esz/\l<=h.getD c.cnt/\h.getD c.cnt<=c.cnt then some (t::(orrO lo++orrO hi),.awn t es l (h.getD c.cnt-l)) else none
   | .asl s=>match gt σ s with
    | .arr _ c _=>if es=c.esz/\l<=h.getD c.cnt/\h.getD c.cnt<=c.cnt then some (t::s::(orrO lo++orrO hi),.awn s es l (h.getD c.cnt-l)) else none
    | _=>none
   | .awn s m lo' n=>if es=m/\l<=h.getD n/\h.getD n<=n then some (t::(orrO lo++orrO hi),.awn s m (lo'+l) (h.getD n-l)) else none
   | _=>none
  | _,_=>none
 | _,_=>none
theorem zm2 {σ:List AV} {o:Oper} {T:TypeId} {x:Operand} {lo hi:Option Operand} (ho:o.op=.slice T x lo hi none) {ti:TI} (hti:mkTI P T=some ti) {rd:List Nat} {av:AV}
 (hs:yly σ ti x lo hi=some (rd,av)) {r:List Nat×List (Nat×AV)} (h:val σ o rd av=some r):ztu P o σ r.1 [] r.2:=by
 obtain ⟨d,hdst,hn,rfl⟩:=xlk h;have hok:=xky hti;obtain ⟨ds,i,z,hd,hi',hz,_,_,_,_,_,hsh'⟩:=hok.ex;unfold yly at hs;split at hs
 case h_2=>cases hs
 rename_i l hh hl hhb;split at hs
 case h_2=>cases hs
 rename_i e es eb ik t hsh;obtain ⟨rfl,j,z',hj,hz',hjs,_⟩:=wit (hsh'.symm.trans hsh)
 have hrd:(∀ u∈orrO lo,u∈rd)/\(∀ u∈orrO hi,u∈rd)/\t∈rd/\av.xeo=false/\(∀ u,¬av.y1a u):=by
  repeat' split at hs
  all_goals first
   | (cases hs;exact ⟨fun u hu=>by simp [hu],fun u hu=>by simp [hu],by simp,rfl,fun u h=>h⟩)
   | cases hs
 refine ztu.val hdst (by simp) hn hrd.2.2.2.1 (fun E τ M σ' a w hag hI=>?_)
 have bnd:∀(u:Option Operand) (dflt n:Nat),(∀ y,u=some y->opd σ' y=opd σ y)->vn4 σ dflt u=some n->match u.map a.eval with | none=>n=dflt | some v=>∃ k,v=.int k n:=fun u dflt n hu hb=>by
  cases u with
  | none=>simp [vn4] at hb;exact hb.symm
  | some y=>
   have sy:=hI.opd y;rw [hu y rfl] at sy;exact yfp sy hb
 have hlo:∀ y,lo=some y->opd σ' y=opd σ y:=fun y e=>hag.opd (fun t ht=>by subst e;exact List.mem_cons_of_mem _ (hrd.1 t (by simpa [orrO] using ht)))
 have hhi:∀ y,hi=some y->opd σ' y=opd σ y:=fun y e=>hag.opd (fun t ht=>by subst e;exact List.mem_cons_of_mem _ (hrd.2.1 t (by simpa [orrO] using ht)))
 have bl:=bnd lo 0 l hlo hl
 have bh:∀ len:Nat,match hi.map a.eval with | none=>hh.getD len=len | some v=>∃ k,v=.int k (hh.getD len):=fun len=>by
  cases hi with
  | none=>simp at hhb;subst hhb;rfl
  | some y=>
   simp only [Option.map_eq_some_iff] at hhb;obtain ⟨n,hn,rfl⟩:=hhb;have sy:=hI.opd y;rw [hhi y rfl] at sy;exact yfp sy hn
 have hgt:gt σ' t=gt σ t:=hag.2 t (List.mem_cons_of_mem _ hrd.2.2.1);have fin:∀(ad:Option Addr) (len cap:Nat),a.tmps.getD t Go.undef=.slice ad len cap->l<=hh.getD len->hh.getD len<=len->len<=cap->
  x5d M w τ a.tmps (.slice (if cap=l then ad else ad.map (·.add (l*es))) (hh.getD len-l) (cap-l)) av->
  (∀(s:Nat) (b:Bool),av.rf=some (s,b)->∃ hv:AV,σ'[s]? = some hv/\hv.fits b=true)->
  ∃ v w',(execOp a.eval o).run P w=.ok (.value v) w'/\Below w.heap.size w w'/\x5d M w' τ a.tmps v av/\(∀ t,av.y1a t->live σ' t)/\
   (∀(s:Nat) (b:Bool),av.rf=some (s,b)->∃ hv:AV,σ'[s]? = some hv/\hv.fits b=true):=fun ad len cap ex h1 h2 h3 hsl hrf=>by
  refine ⟨_,w,?_,znd w,hsl,fun u hu=>absurd hu (hrd.2.2.2.2 u),hrf⟩;have hrbs:=yxx (P:=P) (isS:=true) (len:=len) (cap:=cap) bl (bh len) h1 (by omega) w;have ex':a.eval (.tmp t)=.slice ad len cap:=ex;simp [execOp,ho,ex',Instr.sliceAt,z6x hd,Instr.slice,hrbs,yg7 hj,hjs]
 split at hs
 . rename_i pre c post hg;split at hs
   . rename_i hc
     cases hs;obtain ⟨rfl,h1,h2⟩:=hc;have hss:=hI.gt t;rw [hgt,hg] at hss;obtain ⟨b,Tb,vs,q,cap,e1,hb,_,_,_,hcap,_⟩:=hss;refine fin _ _ _ e1 h1 h2 hcap ⟨_,_,rfl,fun hne=>?_,by omega,by rw [e1];simp only [capV];omega⟩ (fun s' b' hr=>?_)
     . by_cases hcl:cap=l
       . have:l=0:=by omega
         subst this;subst hcl;rw [if_pos rfl,e1];simp [blk,offV]
       . rw [if_neg hcl,e1];simp [blk,offV,y78]
     . simp only [AV.rf,Option.some.injEq,Prod.mk.injEq] at hr;obtain ⟨rfl,rfl⟩:=hr;exact ⟨_,w3d (hgt.trans hg) (by simp),rfl⟩
   . cases hs
 . rename_i s hg;split at hs
   . rename_i pre c post hg2;split at hs
     . rename_i hc
       cases hs;obtain ⟨rfl,h1,h2⟩:=hc;have hs1:=hI.gt t;rw [hgt,hg] at hs1;have hs1:a.tmps.getD t Go.undef=a.tmps.getD s Go.undef:=hs1;have hss:=hI.gt s
       have hgs:gt σ' s=.arr pre c post:=by rw [hag.2 s (by simp)];exact hg2
       rw [hgs] at hss;obtain ⟨b,Tb,vs,q,cap,e1,hb,_,_,_,hcap,_⟩:=hss;refine fin _ _ _ (hs1.trans e1) h1 h2 hcap ⟨_,_,rfl,fun hne=>?_,by omega,by rw [e1];simp only [capV];omega⟩ (fun s' b' hr=>?_)
       . by_cases hcl:cap=l
         . have:l=0:=by omega
           subst this;subst hcl;rw [if_pos rfl,e1];simp [blk,offV]
         . rw [if_neg hcl,e1];simp [blk,offV,y78]
       . simp only [AV.rf,Option.some.injEq,Prod.mk.injEq] at hr;obtain ⟨rfl,rfl⟩:=hr;exact ⟨_,w3d hgs (by simp),rfl⟩
     . cases hs
   . cases hs
 . rename_i s m lo' n hg;split at hs
   . rename_i hc
     cases hs;obtain ⟨rfl,h1,h2⟩:=hc;have hs1:=hI.gt t;rw [hgt,hg] at hs1;obtain ⟨ad,cap,e1,had,hcap,hcap'⟩:=hs1;refine fin _ _ _ e1 h1 h2 hcap ⟨_,_,rfl,fun hne=>?_,by omega,by omega⟩ (fun s' b' hr=>hI.refs t _ s' b' (w3d (hgt.trans hg) (by simp)) (by simpa [AV.rf] using hr));by_cases hcl:cap=l
     . have:l=0:=by omega
       subst this;subst hcl;rw [if_pos rfl,had (.inr (by omega))];simp
     . rw [if_neg hcl,had (.inl (by omega))];simp only [Option.map_some,y78,Option.some.injEq,Addr.mk.injEq,and_true,true_and];rw [Nat.add_mul,Nat.add_assoc]
   . cases hs
 . cases hs
def zsp (σ:List AV) (ti te:TI) (x y:Operand):Option AV:=
 match ti.sh,opd σ x,opd σ y with
 | .slice _ es eb ik,.one (.raw (.int _ n)),.one (.raw (.int _ m))=>
  if 0<=n/\n<=m/\(eb:Int)*m<=281474976710656/\m<=9223372036854775807 then match ik with
   | some k=>match te.zc with
    | [.raw (.int k' z)]=>if es=1/\k=k'/\z=0 then some (.arr [] (.ints k (List.replicate n.toNat 0)) none) else none
    | _=>none
   | none=>some (.arr [] (.sl es (List.replicate n.toNat te.zc)) none)
  else none
 | _,_,_=>none
theorem wcr (z:Array Value) (n:Nat):(madeCells z (n*z.size)).toList=(List.replicate n z.toList).flatten:=by
 induction n with
 | zero=>simp [madeCells]
 | succ n ih=>
  rw [List.replicate_succ',List.flatten_append,<-ih];simp only [madeCells,List.flatten_cons,List.flatten_nil,List.append_nil,Nat.succ_mul];apply List.ext_getElem
  . simp
  . intro i h1 h2;simp only [Array.toList_map,Array.toList_range,List.getElem_map,List.getElem_range];by_cases hi:i<n*z.size
    . rw [List.getElem_append_left (by simpa using hi)];simp
    . rw [List.getElem_append_right (by simpa using hi)];simp only [List.length_map,List.length_range,Array.getElem_toList]
      have hlt:i-n*z.size<z.size:=by simp at h1;omega
      have:i % z.size=i-n*z.size:=by
       rw [show i=(i-n*z.size)+z.size*n by rw [Nat.mul_comm z.size n];omega,Nat.add_mul_mod_self_left,Nat.mod_eq_of_lt hlt];rw [Nat.mul_comm z.size n];omega
      rw [this];rw [getElem!_pos z _ hlt]
theorem RdD.xz1 {M:Nat->Nat->Prop} {w:World} {vs:List Value} {cs:List Cell} (h:RdD M w vs cs):∀ n:Nat,RdD M w (List.replicate n vs).flatten (List.replicate n cs).flatten
 | 0=>trivial
 | n+1=>by rw [List.replicate_succ,List.replicate_succ,List.flatten_cons,List.flatten_cons];exact h.append (h.xz1 n)
theorem wa3 {M:Nat->Nat->Prop} {w:World}:∀{l:List Value},(∀ v∈l,v.oneCell'=true)->RdD M w l (l.map zk0)
 | [],_=>trivial
 | v::l,h=>⟨zsl (h v (by simp)),wa3 (fun u hu=>h u (by simp [hu]))⟩
theorem zko {σ:List AV} {o:Oper} {T:TypeId} {x y:Operand} (ho:o.op=.makeSlice T x y) {ti te:TI} (hti:mkTI P T=some ti) (hte:∀ e es eb ik,ti.sh=.slice e es eb ik->mkTI P e=some te) {av:AV} (hb:zsp σ ti te x y=some av)
 {r:List Nat×List (Nat×AV)} (h:val σ o (orr x++orr y) av=some r):ztu P o σ r.1 [] r.2:=by
 obtain ⟨d,hdst,hn,rfl⟩:=xlk h;have hok:=xky hti;unfold zsp at hb;split at hb
 case h_2=>cases hb
 rename_i e es eb ik kx n ky m hsh hx hy;split at hb
 case isFalse=>cases hb
 rename_i hc;obtain ⟨h0,hnm,hby,h63⟩:=hc;obtain ⟨ds,i,z,hd,hi,hz,_,_,_,_,_,hsh'⟩:=hok.ex;obtain ⟨rfl,j,z',hj,hz',hjs,hjb,hes0,hzs,hik⟩:=wit (hsh'.symm.trans hsh);obtain ⟨de,je,ze,hde,hje,hze,_,_,_,hone,hzce,_⟩:=(xky (hte _ _ _ _ hsh)).ex;rw [hj] at hje;cases hje;rw [hz'] at hze;cases hze
 have key:∀ c:Cell,c.uni->c.cnt=n.toNat->c.esz=es->c.flat=(List.replicate n.toNat (z'.cells.toList.map zk0)).flatten->ztu P o σ (d::(orr x++orr y)) [] [(d,.arr [] c none)]:=fun c hu hcnt hesz hflat=>by
  refine ztu.new hdst (by simp) hn rfl rfl (fun E τ M σ' a w hag hI=>?_);have sx:=hI.opd x;have sy:=hI.opd y;rw [hag.opd (fun t ht=>by simp [ht]),hx] at sx;rw [hag.opd (fun t ht=>by simp [ht]),hy] at sy;have ex:a.eval x=.int kx n:=RdC.xcn sx;have ey:a.eval y=.int ky m:=RdC.xcn sy;have hrun:=run_make (P:=P) w T e j z' hd hj hz' kx ky n m h0 hnm (by rw [hjb];exact hby) h63;refine ⟨.slice (some ⟨w.heap.size,0,none⟩) n.toNat m.toNat,.cells (madeCells z'.cells (m.toNat*j.size)) e,by simp [execOp,ho,ex,ey,hrun],rfl,?_,fun t ht=>ht.elim⟩
  have hcells:madeCells z'.cells (m.toNat*j.size)=([]++((List.replicate n.toNat z'.cells.toList).flatten++(List.replicate (m.toNat-n.toNat) z'.cells.toList).flatten)).toArray:=by
   rw [hjs,<-hzs,<-Array.toArray_toList (xs:=madeCells _ _),wcr,List.nil_append,<-List.flatten_append,List.replicate_append_replicate]
   congr 3;omega
  refine ⟨w.heap.size,e,(List.replicate n.toNat z'.cells.toList).flatten,(List.replicate (m.toNat-n.toNat) z'.cells.toList).flatten,m.toNat,by rw [hcnt];rfl,by rw [wm8,hcells],?_,(by intro p hp;cases hp),hu,by rw [hcnt];omega,?_⟩
  . rw [hflat];exact (wa3 hone).xz1 _
  . rw [hesz,xzp (m:=es) _ (fun r hr=>by rw [List.eq_of_mem_replicate hr];simpa using hzs),xzp (m:=es) _ (fun r hr=>by rw [List.eq_of_mem_replicate hr];simpa using hzs)];simp only [List.length_replicate,<-Nat.add_mul];exact Nat.mul_le_mul_right _ (by omega)
 split at hb
 . rename_i k _;split at hb
   . rename_i k' z0 hzc;split at hb
     . rename_i hc;obtain ⟨rfl,rfl,rfl⟩:=hc
       cases hb;refine key _ trivial (by simp [Cell.cnt]) rfl ?_;rw [<-hzce,hzc]
       have:∀(kk:IntKind) (n:Nat),(List.replicate n ([.raw (.int kk 0)]:List Cell)).flatten=List.replicate n (.raw (.int kk 0)):=fun kk n=>by
        induction n with
        | zero=>rfl
        | succ n ih=>rw [List.replicate_succ,List.flatten_cons,ih];rfl
       rw [this];simp [Cell.flat]
     . cases hb
   . cases hb
 . cases hb;refine key _ (fun r hr=>by rw [List.eq_of_mem_replicate hr,hzce];simpa using hzs) (by simp [Cell.cnt]) rfl ?_;rw [hzce];rfl
end Go.Slot
