/- The proof, part Q3: Ml, Mm, Mn, Mt, Mu, Mv, Mw, Mo, Mp, Mq, Mr, Mx, Ja, Jb. -/
import Derived.Test.YtkbkjjahlafhoaaGreatDoorQ2
import Derived.WalkKit
import Derived.ProofKit
import Derived.OpenShut
import Derived.JoinedCond
import Derived.ChangeBook
import Derived.ChangeStays
namespace Go.Slot
open Go Go.RowKit
variable {P:Program}
variable {M:Nat->Nat->Prop} {w:World} {v:Value} {c:Cell} {f:FuncId} {X A B Y:Bool->Prop} {i:Nat} {T t:TypeId} {c' b:Bool} {J:List AV} {o:Oper} {y:Operand} {ti:TI} {av:AV} {rd0 rd tk:List Nat} {eff:List (Nat×AV)} {α β:Type}
def OwnR (M:Nat->Nat->Prop) (w:World) (v:Value) (c:Cell):Prop:=
 ∃(b:Nat) (T:TypeId) (vs q:List Value) (cap:Nat),v=.slice (some ⟨b,0,none⟩) c.cnt cap/\w.heap[b]? = some (.cells (vs++q).toArray T (0,0))/\RdD (fun b' o=>M b' o\/b'=b) w vs c.flat/\
  c.uni/\c.cnt<=cap/\cap*c.esz<=vs.length+q.length/\∀ o,¬M b o
def RdR (M:Nat->Nat->Prop) (w:World) (v:Value):AV->Prop
 | .tup l=>∃ vs:List Value,v=.tuple vs.toArray/\RdBL M w vs l
 | .arr pre c post=>pre=[]/\post=none/\OwnR M w v c
 | av=>RdB M w v av
def ybv (P:Program) (f:FuncId):Prop:=∃ fn,P.funcs[f]? = some fn/\(fn.name == "runtime.NumGoroutine")=false/\fn.body.isNone=false
def Bounded (M:Nat->Nat->Prop) (w:World):Prop:=∀ b o,M b o->b<w.heap.size
def Back (M:Nat->Nat->Prop) (w:World) (res:AV):Ending->World->Prop:=fun e w'=>∃ v,e=.returned v/\Below w.heap.size w w'/\RdR M w' v res/\(res.v43=true->w.heap.size<=blk v)
def argA:AV->Option AV
 | .one c=>some (.one c.bare)
 | .agg cs=>some (.agg (vw7 cs))
 | .elt cs=>some (.elt cs)
 | .any=>some .any
 | _=>none
def x43 (J:List AV):List Operand->Option (List AV)
 | []=>some []
 | x::r=>match argA (opd J x),x43 J r with
  | some av,some l=>some (av::l)
  | _,_=>none
def orrL:List Operand->List Nat
 | []=>[]
 | x::r=>orr x++orrL r
theorem OwnR.read (h:OwnR M w v c):RdC M w v c:=by
 obtain ⟨b,T,vs,q,cap,rfl,hb,hr,hu,h1,h2,h3⟩:=h;exact w4f (pre:=[]) (by simpa using hb) (hr.keep (fun b' o u hm hc=>⟨fun h=>hm (.inl h),hc⟩)) hu h1 h3
theorem wbu (h:ybv P f) (args:Array Value) (w:World):(callFunc f args).run P w=.ok (.enter f args) w:=by
 obtain ⟨fn,h1,h2,h3⟩:=h
 have h2':¬fn.name = "runtime.NumGoroutine" :=by simpa using h2
 have h3':¬fn.body=none:=fun e=>by rw [e] at h3;cases h3
 simp [callFunc,program,Sem.run,h1,h2',h3']
def vf6 (o:Oper):List Nat:=match o.dst with
 | some d=>[d]
 | none=>[]
theorem RdBL.append {M:Nat->Nat->Prop} {w:World}:∀{vs:List Value} {l:List AV} {us:List Value} {r:List AV},RdBL M w vs l->RdBL M w us r->RdBL M w (vs++us) (l++r)
 | [],[],_,_,_,h=>h
 | _::_,_::_,_,_,h,h'=>⟨h.1,h.2.append h'⟩
structure SR where
 rd:List Nat
 tk:List Nat
 eff:List (Nat×AV)
def direct (o:Oper):List Nat:=(o.after.toList.filter (Region.binds .any)).map (·.on)
def befs:List Oper->List (List Nat)->List (List Nat)
 | [],acc=>acc
 | o::r,acc=>befs r (acc++[(direct o++(direct o).flatMap fun d=>acc.getD d []).eraseDups])
def v6u:List SR->List AV->List (SR×List AV)
 | [],_=>[]
 | s::r,J=>(s,J)::v6u r (app s.eff J)
def xu5:Nat->List Oper->Bool
 | _,[]=>true
 | j,o::r=>(direct o).all (· < j)&&xu5 (j+1) r
def ev (eff:List (Nat×AV)) (r:Nat):Option AV:=(eff.reverse.find? (fun p=>p.1==r)).map (·.2)
section any
variable (recs:List SR) (σ0:List AV)
def st (X:Nat->Bool):Nat->List AV
 | 0=>σ0
 | n+1=>if X n then app (recs.getD n ⟨[],[],[]⟩).eff (st X n) else st X n
variable (N:Nat) (bef:Nat->List Nat)
variable {recs σ0 N bef}
structure Next (bef:Nat->List Nat) (X:Nat->Bool) (j:Nat):Prop where
 closed:∀ k,X k=true->∀ i∈bef k,X i=true
 out:X j=false
 all:∀ i∈bef j,X i=true
theorem Next.grow {X:Nat->Bool} {j:Nat} (hX:Next bef X j):∀ k,(X k||k==j)=true->∀ i∈bef k,(X i||i==j)=true:=fun k hk i hi=>by
 simp only [Bool.or_eq_true,beq_iff_eq] at hk ⊢
 rcases hk with hk | rfl
 . exact .inl (hX.closed k hk i hi)
 . exact .inl (hX.all i hi)
end any
theorem z6x (l:List Oper):∀(acc:List (List Nat)) (j:Nat),(∀ i∈(befs l acc).getD j [],j<acc.length->i∈acc.getD j [])/\(j<acc.length->(befs l acc).getD j []=acc.getD j []):=by
 induction l with
 | nil=>intro acc j;exact ⟨fun i hi _=>hi,fun _=>rfl⟩
 | cons o l ih=>
  intro acc j
  have hkeep:j<acc.length->(befs (o::l) acc).getD j []=acc.getD j []:=fun hj=>by
   simp only [befs];rw [(ih _ j).2 (by simp;omega)];simp [List.getD,List.getElem?_append_left hj]
  exact ⟨fun i hi hj=>by rw [<-hkeep hj];exact hi,hkeep⟩
theorem y69 (l:List Oper):∀ acc,(befs l acc).length=acc.length+l.length:=by
 induction l with
 | nil=>intro acc;simp [befs]
 | cons o l ih=>intro acc;simp only [befs];rw [ih];simp;omega
theorem x5l (l:List Oper):∀(acc:List (List Nat)) (j:Nat) (o:Oper),l[j]? = some o->
 ∀ i,i∈(befs l acc).getD (acc.length+j) []↔i∈direct o\/∃ d∈direct o,d<acc.length+j/\i∈(befs l acc).getD d []:=by
 induction l with
 | nil=>intro acc j o h;simp at h
 | cons o' l ih=>
  intro acc j o h i
  cases j with
  | zero=>
   simp at h;subst h
   have hb:(befs (o'::l) acc).getD acc.length []=(direct o'++(direct o').flatMap fun d=>acc.getD d []).eraseDups:=by
    simp only [befs];rw [(z6x l _ acc.length).2 (by simp)];simp [List.getD]
   rw [Nat.add_zero,hb];simp only [List.mem_eraseDups,List.mem_append,List.mem_flatMap];constructor
   . rintro (h | ⟨d,hd,hi⟩)
     . exact .inl h
     . refine .inr ⟨d,hd,?_⟩;by_cases hdl:d<acc.length
       . refine ⟨hdl,?_⟩;rw [show (befs (o'::l) acc).getD d []=acc.getD d [] from (z6x (o'::l) acc d).2 hdl];exact hi
       . simp [List.getD,List.getElem?_eq_none (show acc.length<=d by omega)] at hi
   . rintro (h | ⟨d,hd,hdl,hi⟩)
     . exact .inl h
     . refine .inr ⟨d,hd,?_⟩;rw [show (befs (o'::l) acc).getD d []=acc.getD d [] from (z6x (o'::l) acc d).2 hdl] at hi;exact hi
  | succ j=>
   have:=ih (acc++[(direct o'++(direct o').flatMap fun d=>acc.getD d []).eraseDups]) j o (by simpa using h) i
   simp only [List.length_append,List.length_cons,List.length_nil,Nat.zero_add] at this;simp only [befs];rw [show acc.length+(j+1)=acc.length+1+j by omega];exact this
theorem ysw:∀(l:List Oper) (k:Nat),xu5 k l=true->∀(j:Nat) (o:Oper),l[j]? = some o->∀ d∈direct o,d<k+j
 | [],k,_,j,o,h=>by simp at h
 | o'::l,k,h,j,o,ho=>by
  simp only [xu5,Bool.and_eq_true] at h
  cases j with
  | zero=>
   simp at ho;subst ho;intro d hd
   have:=(List.all_eq_true.1 h.1) d hd
   simpa using this
  | succ j=>
   intro d hd
   have:=ysw l (k+1) h.2 j o (by simpa using ho) d hd
   omega
def xvu (P:Program) (J:List AV):ResultVar->Option AV
 | .tmp t=>match gt J t with
  | .one c=>some (.one c.bare)
  | .agg cs=>some (.agg (vw7 cs))
  | .elt cs=>some (.elt cs)
  | .box cs=>some (.elt (vw7 cs))
  | .ptr s off=>match gt J s with
   | .box cs=>some (.elt (vw7 (cs.drop off)))
   | _=>none
  | .arr _ c none=>some (.one c)
  | .asl s=>match gt J s with
   | .arr _ c none=>some (.one c)
   | _=>none
  | .awn s m lo n=>match gt J s with
   | .arr _ c none=>if lo+n<=c.cnt/\m=c.esz then some (.one (c.sub lo n)) else none
   | _=>none
  | _=>none
 | .cell a t=>match mkTI P t with
  | some ti=>match gt J a with
   | .box cs=>match y2x ti cs with
    | some (.one c)=>some (.one c.bare)
    | some (.agg cs)=>some (.agg (vw7 cs))
    | _=>none
   | _=>none
  | none=>none
inductive RLe:AV->AV->Prop
 | own {c:Cell}:RLe (.arr [] c none) (.one c)
 | one {x y:AV} (h:AV.Le x y):RLe x y
 | tup {l l':List AV} (h:LeS l l'):RLe (.tup l) (.tup l')
theorem RdB.le {M:Nat->Nat->Prop} {w:World} {v:Value} {x y:AV} (h:AV.Le x y) (hr:RdB M w v x):RdB M w v y:=by
 cases h with
 | refl=>exact hr
 | any=>exact trivial
 | one h=>exact RdC.le h hr
 | agg h =>
  obtain ⟨vs,rfl,hr⟩:=hr;refine ⟨vs,rfl,?_⟩
  have:∀{vs:List Value} {cs cs':List Cell},LeL cs cs'->RdD M w vs cs->RdD M w vs cs':=by
   intro vs
   induction vs with
   | nil=>intro cs cs' h hr;cases h with
    | nil=>trivial
    | cons _ _=>exact hr.elim
   | cons v vs ih=>intro cs cs' h hr;cases h with
    | nil=>exact hr.elim
    | cons h t=>exact ⟨hr.1.le h,ih t hr.2⟩
  exact this h hr
 | box h=>exact hr.elim
 | obx h=>exact hr.elim
theorem RdBL.le {M:Nat->Nat->Prop} {w:World}:∀{vs:List Value} {l l':List AV},LeS l l'->RdBL M w vs l->RdBL M w vs l'
 | [],_,_,.nil,_=>trivial
 | _::_,_,_,.cons h t,hr=>⟨hr.1.le h,RdBL.le t hr.2⟩
 | [],_,_,.cons _ _,hr=>hr.elim
 | _::_,_,_,.nil,hr=>hr.elim
theorem RLe.v43 {x y:AV} (h:RLe x y) (hy:y.v43=true):x.v43=true:=by
 cases h with
 | own=>cases hy
 | one h=>exact h.v43 hy
 | tup h=>cases hy
theorem RdR.le {M:Nat->Nat->Prop} {w:World} {v:Value} {x y:AV} (h:RLe x y) (hr:RdR M w v x):RdR M w v y:=by
 cases h with
 | own=>exact hr.2.2.read
 | tup h=>obtain ⟨vs,rfl,hr⟩:=hr;exact ⟨vs,rfl,hr.le h⟩
 | one h=>
  cases h with
  | refl=>exact hr
  | any=>exact trivial
  | one h=>exact RdB.le (.one h) hr
  | agg h=>exact RdB.le (.agg h) hr
  | box h=>exact hr.elim
  | obx h=>exact hr.elim
def v2l (tm:Array Value):ResultVar->Sem Value
 | .tmp t=>pure (tm.getD t Go.undef)
 | .cell a t=>do loadVar t (<-asAddr (tm.getD a Go.undef))
theorem ydx.shrink {M':Nat->Nat->Prop} (w:World) (h:∀ b o,M' b o->M b o):ydx M M' w w:=fun b o _u hm hc=>⟨fun h'=>hm (h b o h'),hc⟩
theorem zl4 {M:Nat->Nat->Prop} {w:World} (k:IntKind):∀ l:List Int,RdD M w (l.map (Value.int k)) (l.map fun n=>.raw (.int k n))
 | []=>trivial
 | _::l=>⟨.raw rfl,zl4 k l⟩
def ch (a0 a1 a2 a3 a4 a5 a6 a7 a8 a9 a10 a11 a12 a13 a14 a15:AV) (r:List AV):List AV:=a0::a1::a2::a3::a4::a5::a6::a7::a8::a9::a10::a11::a12::a13::a14::a15::r
def hitB (s i:Nat) (av:AV):Bool:=if i=s then true else match av.rf with
 | some (s',_)=>s'==s
 | none=>false
inductive OV where
 | bx (cs:List Cell)
 | wn (c:Cell) (lo n:Nat)
def w3e (s:Nat):Nat->List AV->List (Nat×AV)
 | _,[]=>[]
 | i,av::r=>if hitB s i av=true then (i,.any)::w3e s (i+1) r else w3e s (i+1) r
theorem zi0 {s:Nat}:w3e s i []=[]:=rfl
theorem wnm {e:TypeId} {i:TypeInfo} {z:Value} (ht:P.underlying T=some (.slice e)) (hi:P.info? e=some i) (hz:i.zero=some z) (w:World) (ty:TypeId) {ad0:Option Addr} {n old:Nat} {xs:List Value} {yad:Option Addr} {m ycap:Nat} {news:List Value}
 (hfd:(Builtin.firstCells i.size m (.slice yad m ycap)).run P w.drew=.ok news.toArray w.drew) (hfo:(Builtin.firstCells i.size n (.slice ad0 n old)).run P w.drew=.ok xs.toArray w.drew)
 (ho:old<n+m) (hbound:(n+m)*i.bytes<=140737488355328) (h63:n+m<=9223372036854775807) :
 (Builtin.append_ #[T,T] ty #[.slice ad0 n old,.slice yad m ycap]).run P w=.ok (.slice (some ⟨w.heap.size,0,none⟩) (n+m) (grownCap w (n+m) old e))
   (w.drew.alloc (.cells ((xs++news).toArray++Builtin.zeroCells z.cells (grownCap w (n+m) old e-(n+m))) e)):=by
 have hn:¬(n+m<=old):=by omega
 have h63':¬(9223372036854775807<((n:Int)+(m:Int))):=by omega
 have hfit:=growslice_fits (need:=n+m) (old:=old) (bytes:=i.bytes) ho hbound
 have h48':¬(281474976710656<Builtin.nextslicecap (n+m) old*i.bytes):=by omega
 simp [Builtin.append_,run_underlying ht,sizeOf,typeInfo,zeroValue,hi,hz,Builtin.lenOf,hn,h63',h48',Question.forced,hfd,hfo,newRow,grownCap]
 congr 2
 apply Array.ext';simp [List.append_assoc]
def wm7 (J:List AV) (x:Operand):Option (Nat×Cell):=match x with
 | .tmp t=>match gt J t with
  | .arr [] c none=>some (t,c)
  | .asl s=>match gt J s with
   | .arr [] c none=>some (s,c)
   | _=>none
  | _=>none
 | _=>none
def xao (J:List AV) (ti:TI) (d:Nat) (x y:Operand):Option (List Nat×List (Nat×AV)):=
 match ti.sh with
 | .slice _ es eb ik=>match wm7 J x,opd J y with
  | some (s,c),.one cy=>match vd3 es eb ik c cy.bare with
   | some c'=>if nh J d&&c.isSl then some (List.range J.length,w3e s 0 J++[(d,.arr [] c' none)]) else none
   | none=>none
  | _,_=>none
 | _=>none
theorem yrg {M : Nat → Nat → Prop} {es eb : Nat} {ik : Option IntKind} {cy c':Cell} (hes : 0 < es) (h : vd3 es eb ik c cy = some c') (hu : c.uni) {vy : Value} (hy : RdC M w vy cy) :
 ∃(m:Nat) (news:List Value) (fy:List Cell),(∃ ad cap,vy=.slice ad m cap)/\news.length=m*es/\RdD M w news fy/\(news=[]\/∃ b off cap,vy=.slice (some ⟨b,off,none⟩) m cap/\∀ j u,news[j]? = some u->¬M b (off+j)/\w.cell? ⟨b,off+j,none⟩=some u)/\
  c'.uni/\c'.cnt=c.cnt+m/\c'.esz=es/\c.esz=es/\c'.flat=c.flat++fy/\(c.cnt+m)*eb<=140737488355328/\c.cnt+m<=9223372036854775807:=by
 unfold vd3 at h;split at h
 . rename_i k;split at h
   . rename_i l l' hl hl';split at h
     . rename_i hc;obtain ⟨rfl,hb1,hb2⟩:=hc
       cases h
       have hcc:c=.ints k l:=by
        cases c with
        | ints k' l0=>simp only [w8m] at hl;split at hl<;>first | (rename_i e;subst e;cases hl;rfl) | cases hl
        | sl=>cases hl
        | _=>exact hu.elim
       subst hcc;obtain ⟨hyl,hyc⟩:=hy.xh8 hl';exact ⟨l'.length,l'.map (Value.int k),l'.map fun n=>.raw (.int k n),hyl,by simp,zl4 k l',hyc,trivial,by simp [Cell.cnt],rfl,rfl,by simp [Cell.flat],hb1,hb2⟩
     . cases h
   . cases h
 . split at h
   . rename_i l l' hl hl';split at h
     . rename_i hc;obtain ⟨hb1,hb2⟩:=hc
       cases h
       have hcc:c=.sl es l:=by
        cases c with
        | sl n0 l0=>simp only [z8e] at hl;split at hl<;>first | (rename_i e;subst e;cases hl;rfl) | cases hl
        | ints=>cases hl
        | _=>exact hu.elim
       subst hcc;obtain ⟨hyl,hyn,us,hul,hur,hyc⟩:=hy.ybi hes hl';refine ⟨l'.length,us,l'.flatten,hyl,hul,hur,hyc,fun r hr=>?_,by simp [Cell.cnt],rfl,rfl,by simp [Cell.flat],hb1,hb2⟩
       rcases List.mem_append.1 hr with h | h
       . exact hu r h
       . exact hyn r h
     . cases h
   . cases h
def nilV:Value->Bool
 | .slice none 0 0=>true
 | _=>false
def nilO:Operand->Bool
 | .const v=>nilV v
 | .tmp _=>false
 | .global _=>false
 | .func _=>false
theorem v7t {x:Operand} (h:nilO x=true):x=.const (.slice none 0 0):=by
 cases x with
 | const v=>
  simp only [nilO] at h;unfold nilV at h;split at h
  . rfl
  . cases h
 | _=>cases h
def wgs (J:List AV) (x:Operand):Bool:=match x with
 | .tmp t=>match gt J t with
  | .arr _ _ _ | .asl _=>true
  | _=>false
 | _=>false
def eqOp:BinOp->Bool
 | .eql=>true
 | .neq=>true
 | _=>false
def xm3:AV->AV->Bool
 | .one (.raw (.bool _)),.one (.raw (.bool _))=>true
 | _,_=>false
def bbA (ti:TI) (op:BinOp) (x y:AV):Option AV:=match ti.sh with
 | .bool=>match x,y with
  | .one (.raw (.bool a)),.one (.raw (.bool b))=>match op with
   | .eql=>some (.one (.raw (.bool (a==b))))
   | .neq=>some (.one (.raw (.bool (a != b))))
   | _=>none
  | _,_=>none
 | _=>none
theorem xej {d:TypeDesc} (h:shOf P d=.bool):d=.bool:=by
 cases d with
 | bool=>rfl
 | slice e=>
  exfalso;revert h;unfold shOf;dsimp only
  split
  . split
    . split<;>simp
    . simp
  . simp
 | struct fl=>
  exfalso;revert h;unfold shOf;dsimp only;split<;>simp
 | _=>simp [shOf] at h
theorem zge {op:BinOp} {U:TypeId} {x:Operand} (ho:o.op=.binOp op T x y U) (hti:mkTI P T=some ti) (hb:bbA ti op (opd J x) (opd J y)=some av) {r:List Nat×List (Nat×AV)}
 (h:val J o (orr x++orr y) av=some r):z7c P o J r.1 [] r.2:=by
 unfold bbA at hb;split at hb
 case h_2=>cases hb
 rename_i hsh;split at hb
 case h_2=>cases hb
 rename_i u v hx hy;obtain ⟨d,i,z,hd,hi,hz,_,_,_,_,_,hsh'⟩:=(xat hti).ex;obtain rfl:=xej (hsh'.symm.trans hsh)
 have heq:∀ w:World,(Op.equal T (.bool u) (.bool v)).run P w=.ok (u==v) w:=fun w=>by
  show (Op.equalIn (9999+1) T (.bool u) (.bool v)).run P w=_;unfold Op.equalIn;simp [y9m hd]
 have eva:∀(E:Env) (τ:Nat->TV) (M:Nat->Nat->Prop) (J':List AV) (a:Act) (w:World),(∀ x':Operand,(∀ t∈orr x',t∈orr x++orr y)->opd J' x'=opd J x')->RelI E τ M J' a w->a.eval x=.bool u/\a.eval y=.bool v:=fun E τ M J' a w hop hI=>by
  have sx:=hI.opd x;have sy:=hI.opd y;rw [hop x (fun t ht=>by simp [ht]),hx] at sx;rw [hop y (fun t ht=>by simp [ht]),hy] at sy;exact ⟨RdC.v7q sx,RdC.v7q sy⟩
 split at hb
 . cases hb;refine z7c.pure h rfl rfl (fun E τ M J' a w hop _ hI=>⟨.bool (u==v),?_,RdC.raw rfl,fun t ht=>ht.elim⟩);obtain ⟨ex,ey⟩:=eva E τ M J' a w hop hI;simp [execOp,ho,ex,ey,eqGuard,binOp,heq]
 . cases hb;refine z7c.pure h rfl rfl (fun E τ M J' a w hop _ hI=>⟨.bool (u != v),?_,RdC.raw rfl,fun t ht=>ht.elim⟩);obtain ⟨ex,ey⟩:=eva E τ M J' a w hop hI;simp [execOp,ho,ex,ey,eqGuard,binOp,heq,bne]
 . cases hb
def isX (J:List AV):Op->Bool
 | .binOp op _ x y _=>match nilO y with
  | true=>true
  | false=>match eqOp op with
   | true=>xm3 (opd J x) (opd J y)
   | false=>false
 | .buildSlice _ n _=>n==0
 | .call c=>match c.callee with
  | .builtin .append=>match c.args.toList with
   | [x,_]=>wgs J x
   | _=>false
  | .builtin .max=>true
  | .builtin .min=>true
  | _=>false
 | _=>false
def maxV (b:Bool):AV->AV->Option AV
 | .one (.raw (.int k x)),.one (.raw (.int k' y))=>if k=k' then some (.one (.raw (.int k (match b with | true=>max x y | false=>min x y)))) else none
 | _,_=>none
theorem ycx {x:Operand} {ts:Array TypeId} (ho:o.op=.call { callee:=.builtin (match b with | true=>.max | false=>.min),args:=#[x,y],argTypes:=ts }) (hb:maxV b (opd J x) (opd J y)=some av)
 {r:List Nat×List (Nat×AV)} (h:val J o (orr x++orr y) av=some r):z7c P o J r.1 [] r.2:=by
 unfold maxV at hb;split at hb
 . rename_i k u k' v hx hy;split at hb
   . rename_i hkk;subst hkk
     cases hb;refine z7c.pure h rfl rfl (fun E τ M J' a w hop hgt hI=>⟨_,?_,RdC.raw rfl,fun t ht=>ht.elim⟩);have sx:=hI.opd x;rw [hop x (fun t ht=>List.mem_append.2 (.inl ht)),hx] at sx;have sy:=hI.opd y;rw [hop y (fun t ht=>List.mem_append.2 (.inr ht)),hy] at sy;have ex:a.eval x=.int k u:=RdC.v7q sx;have ey:a.eval y=.int k v:=RdC.v7q sy
     cases b with
     | true=>
      have:(if v > u then v else u)=max u v:=by split<;>omega
      simp [execOp,ho,resolve,invoke,builtin,Builtin.max_,Builtin.max2,ex,ey,this]
     | false=>
      have:(if v<u then v else u)=min u v:=by split<;>omega
      simp [execOp,ho,resolve,invoke,builtin,Builtin.min_,Builtin.min2,ex,ey,this]
   . cases hb
 . cases hb
inductive OR where
 | eff (rd tk:List Nat) (eff:List (Nat×AV))
 | call (f:FuncId) (args:List AV) (rd:List Nat)
 | fn (p:(Nat->Nat->Prop)->World->Value->Prop) (args:List AV) (rd:List Nat)
 | mk (f:FuncId) (caps:List AV) (rd:List Nat)
 | own (f:FuncId) (l:List AV) (j s:Nat) (ov:OV) (rd:List Nat)
 | bad
def OR.of:Option (List Nat×List (Nat×AV))->OR
 | some (rd,e)=>.eff rd [] e
 | none=>.bad
def xui:Value->Option FuncId
 | .func (.func f) fs cs=>match fs.toList,cs.toList with
  | [],[]=>some f
  | _,_=>none
 | _=>none
theorem v3n (h:xui v=some f):v=.func (.func f) #[] #[]:=by
 unfold xui at h;split at h
 . rename_i f' fs cs;split at h
   . rename_i h1 h2
     cases h
     have e1:fs=#[]:=by rw [<-Array.toArray_toList (xs:=fs),h1]
     have e2:cs=#[]:=by rw [<-Array.toArray_toList (xs:=cs),h2]
     rw [e1,e2]
   . cases h
 . cases h
def zj5 (P:Program) (t:TypeId) (k:TI->OR):OR:=match mkTI P t with
 | some ti=>k ti
 | none=>.bad
def vofA (J:List AV) (o:Oper) (rd:List Nat) (a:Option AV):OR:=match a with
 | some av=>.of (val J o rd av)
 | none=>.bad
def vofB (J:List AV) (o:Oper) (a:Option (List Nat×AV)):OR:=match a with
 | some (rd,av)=>.of (val J o rd av)
 | none=>.bad
def x1g (ti:TI) (av:AV):Bool:=match ti.sh with
 | .slice _ es _ _=>match av with
  | .one c=>match c.bare with
   | .ints _ _=>es==1
   | .sl n _=>es==n
   | _=>true
  | _=>true
 | _=>true
def yha (P:Program) (ti:TI) (k:TI->OR):OR:=match ti.sh with
 | .slice e _ _ _=>zj5 P e k
 | _=>.bad
def z01 (ti:TI):Bool:=match ti.sh with
 | .array _ _ es=>es != 0
 | _=>true
theorem vw9 (hs:∀ r,val J o rd0 av=some r->z7c P o J r.1 [] r.2) (h:OR.of (val J o rd0 av)=.eff rd tk eff):tk=[]/\z7c P o J rd tk eff:=by
 cases hv:val J o rd0 av with
 | none=>rw [hv] at h;cases h
 | some r=>rw [hv] at h;cases h;exact ⟨rfl,hs r hv⟩
theorem wmo {a:Array α} {l:List α} (h:a.toList=l):a=l.toArray:=by rw [<-h]
theorem x4m {a:Option AV} (hs:∀ av,a=some av->∀ r,val J o rd0 av=some r->z7c P o J r.1 [] r.2) (h:vofA J o rd0 a=.eff rd tk eff):tk=[]/\z7c P o J rd tk eff:=by
 unfold vofA at h;split at h
 . exact vw9 (hs _ rfl) h
 . cases h
theorem wao {a:Option (List Nat×AV)} (hs:∀ rd0 av,a=some (rd0,av)->∀ r,val J o rd0 av=some r->z7c P o J r.1 [] r.2) (h:vofB J o a=.eff rd tk eff):tk=[]/\z7c P o J rd tk eff:=by
 unfold vofB at h;split at h
 . exact vw9 (hs _ _ rfl) h
 . cases h
theorem z5c {k:TI->OR} {r:OR} (hr:r≠.bad) (h:zj5 P t k=r):∃ ti,mkTI P t=some ti/\k ti=r:=by
 unfold zj5 at h;split at h
 . rename_i ti hti;exact ⟨ti,hti,h⟩
 . exact absurd h.symm hr
theorem xn5 {k:TI->OR} {r:OR} (hr:r≠.bad) (h:yha P ti k=r):∃ e es eb ik te,ti.sh=.slice e es eb ik/\mkTI P e=some te/\k te=r:=by
 unfold yha at h;split at h
 . rename_i e es eb ik hs;obtain ⟨te,h1,h2⟩:=z5c hr h;exact ⟨e,es,eb,ik,te,hs,h1,h2⟩
 . exact absurd h.symm hr
def litE (J:List AV) (d:Nat) (rd:List Nat) (se:List (Nat×AV)) (b:Bool):Option AV->OR
 | some (.one c)=>match b,nh J d with
  | true,true=>.eff (d::(rd++se.map (·.1))) [d] (se++[(d,.one (.tok d c))])
  | _,_=>.bad
 | _=>.bad
theorem x14 (es:Nat):∀(n:Nat) (cs:List Cell),cs.length=n*es->(chunk es n cs).flatten=cs
 | 0,cs,h=>by
  have:cs=[]:=List.eq_nil_of_length_eq_zero (by simpa using h)
  subst this;rfl
 | n+1,cs,h=>by
  rw [Nat.add_mul,Nat.one_mul] at h;simp only [chunk,List.flatten_cons];rw [x14 es n (cs.drop es) (by simp;omega),List.take_append_drop]
theorem x8w (es:Nat):∀(n:Nat) (cs:List Cell),cs.length=n*es->∀ r∈chunk es n cs,r.length=es
 | 0,cs,_=>fun r hr=>by cases hr
 | n+1,cs,h=>fun r hr=>by
  rw [Nat.add_mul,Nat.one_mul] at h;simp only [chunk] at hr
  rcases List.mem_cons.1 hr with rfl | hr
  . simp;omega
  . exact x8w es n (cs.drop es) (by simp;omega) r hr
def wll (es:Nat):Option IntKind->Cell
 | some k=>.ints k []
 | none=>.sl es []
def isZc:Cell->Bool
 | .zc=>true
 | .raw (.slice none 0 0)=>true
 | _=>false
def zcAt:AV->Bool
 | .one c=>isZc c
 | _=>false
def ownN:Option Cell->Option AV
 | some c'=>if c'.cnt≠0 then some (.arr [] c' none) else none
 | none=>none
def zs4 (J:List AV) (ti:TI) (x y:Operand):Option AV:=match ti.sh with
 | .slice _ es eb ik=>match zcAt (opd J x) with
  | true=>match opd J y with
   | .one cy=>ownN (vd3 es eb ik (wll es ik) cy.bare)
   | _=>none
  | false=>none
 | _=>none
theorem zr9 {τ:Nat->TV} (h:isZc c=true) (hr:RdT M w τ v c):∃ ad,v=.slice ad 0 0:=by
 unfold isZc at h;split at h
 . have hr:RdC M w v .zc:=hr
   cases hr;exact ⟨_,rfl⟩
 . exact ⟨none,RdC.v7q hr⟩
 . cases h
def vai (c b:Bool) (X Y:Bool->Prop):Prop:=(c=b->X true)/\(c=(!b)->Y true)
def vm9 (c:Bool) (X Y:Bool->Prop):Prop:=(c=true->X true)/\(c=false->Y true)
def v5l:Code->Option Nat
 | .region id _ _=>some id
 | .seq x _=>v5l x
 | .block _ x=>v5l x
 | .loop x=>v5l x
 | _=>none
def seqF (c:Bool) (A B:Bool->Prop):Prop:=match c with
 | true=>A true
 | false=>B true
abbrev U {α:Type} (_:α):Type:=Unit
def hide {α:Type} (f:α) (_:U f):α:=f
theorem vrr {f:Bool->Prop} {u:U f}:hide f u b=f b:=_root_.id rfl
theorem vkw {f:Bool->AV->Prop} {u:U f} {r:AV}:hide f u b r=f b r:=_root_.id rfl
def tick {α:Type} (x:α):α:=x
theorem xfk:tick true=true:=_root_.id rfl
theorem vvf:tick false=false:=_root_.id rfl
theorem zi5:seqF true A B=A true:=_root_.id rfl
theorem wru:seqF false A B=B true:=_root_.id rfl
theorem xr3 {c:Bool} (h:c=c'):seqF c A B=seqF c' A B:=by rw [h]
section
variable {next:Bool->List AV->Prop} {Q:Exit->Bool->List AV->Prop}
end
section
variable {o:Oper} {J:List AV} {b:Bool} {k:Bool->List Nat->List Nat->List (Nat×AV)->Prop} {rd tk:List Nat} {e:List (Nat×AV)} {f:FuncId} {args:List AV}
end
theorem zmy:vai true true X Y=X true:=by simp [vai]
theorem zhc:vai false false X Y=X true:=by simp [vai]
theorem yu2:vai true false X Y=Y true:=by simp [vai]
theorem xcx:vai false true X Y=Y true:=by simp [vai]
theorem xse:vm9 true X Y=X true:=by simp [vm9]
theorem v3v:vm9 false X Y=Y true:=by simp [vm9]
section
variable {o o':Oper} {J J':List AV} {b:Bool} {k:Bool->List Nat->List Nat->List (Nat×AV)->Prop}
theorem zza {c:Bool} (h:c=c'):vai c b X Y=vai c' b X Y:=by rw [h]
theorem wta {c:Bool} (h:c=c'):vm9 c X Y=vm9 c' X Y:=by rw [h]
end
theorem xcf {a:AV}:gt (a::J) 0=a:=rfl
theorem wf1 {a:AV} {n:Nat}:gt (a::J) (n+1)=gt J n:=rfl
theorem vfh {a:AV}:nh (a::J) 0 = !a.v43:=rfl
theorem zsn {a:AV} {n:Nat}:nh (a::J) (n+1)=nh J n:=rfl
section
variable {a0 a1 a2 a3 a4 a5 a6 a7 a8 a9 a10 a11 a12 a13 a14 a15 x:AV} {r:List AV} {n:Nat}
theorem vp3:gt (ch a0 a1 a2 a3 a4 a5 a6 a7 a8 a9 a10 a11 a12 a13 a14 a15 r) 0=a0:=rfl
theorem wet:nh (ch a0 a1 a2 a3 a4 a5 a6 a7 a8 a9 a10 a11 a12 a13 a14 a15 r) 0 = !a0.v43:=rfl
theorem xb8:(ch a0 a1 a2 a3 a4 a5 a6 a7 a8 a9 a10 a11 a12 a13 a14 a15 r).set 0 x=ch x a1 a2 a3 a4 a5 a6 a7 a8 a9 a10 a11 a12 a13 a14 a15 r:=rfl
theorem yb9:gt (ch a0 a1 a2 a3 a4 a5 a6 a7 a8 a9 a10 a11 a12 a13 a14 a15 r) 1=a1:=rfl
theorem wo0:nh (ch a0 a1 a2 a3 a4 a5 a6 a7 a8 a9 a10 a11 a12 a13 a14 a15 r) 1 = !a1.v43:=rfl
theorem xlq:(ch a0 a1 a2 a3 a4 a5 a6 a7 a8 a9 a10 a11 a12 a13 a14 a15 r).set 1 x=ch a0 x a2 a3 a4 a5 a6 a7 a8 a9 a10 a11 a12 a13 a14 a15 r:=rfl
theorem y6i:gt (ch a0 a1 a2 a3 a4 a5 a6 a7 a8 a9 a10 a11 a12 a13 a14 a15 r) 2=a2:=rfl
theorem w4m:nh (ch a0 a1 a2 a3 a4 a5 a6 a7 a8 a9 a10 a11 a12 a13 a14 a15 r) 2 = !a2.v43:=rfl
theorem w5x:(ch a0 a1 a2 a3 a4 a5 a6 a7 a8 a9 a10 a11 a12 a13 a14 a15 r).set 2 x=ch a0 a1 x a3 a4 a5 a6 a7 a8 a9 a10 a11 a12 a13 a14 a15 r:=rfl
theorem x1e:gt (ch a0 a1 a2 a3 a4 a5 a6 a7 a8 a9 a10 a11 a12 a13 a14 a15 r) 3=a3:=rfl
theorem ywk:nh (ch a0 a1 a2 a3 a4 a5 a6 a7 a8 a9 a10 a11 a12 a13 a14 a15 r) 3 = !a3.v43:=rfl
theorem z4u:(ch a0 a1 a2 a3 a4 a5 a6 a7 a8 a9 a10 a11 a12 a13 a14 a15 r).set 3 x=ch a0 a1 a2 x a4 a5 a6 a7 a8 a9 a10 a11 a12 a13 a14 a15 r:=rfl
theorem znh:gt (ch a0 a1 a2 a3 a4 a5 a6 a7 a8 a9 a10 a11 a12 a13 a14 a15 r) 4=a4:=rfl
theorem yfp:nh (ch a0 a1 a2 a3 a4 a5 a6 a7 a8 a9 a10 a11 a12 a13 a14 a15 r) 4 = !a4.v43:=rfl
theorem zgh:(ch a0 a1 a2 a3 a4 a5 a6 a7 a8 a9 a10 a11 a12 a13 a14 a15 r).set 4 x=ch a0 a1 a2 a3 x a5 a6 a7 a8 a9 a10 a11 a12 a13 a14 a15 r:=rfl
theorem yyu:gt (ch a0 a1 a2 a3 a4 a5 a6 a7 a8 a9 a10 a11 a12 a13 a14 a15 r) 5=a5:=rfl
theorem yab:nh (ch a0 a1 a2 a3 a4 a5 a6 a7 a8 a9 a10 a11 a12 a13 a14 a15 r) 5 = !a5.v43:=rfl
theorem vox:(ch a0 a1 a2 a3 a4 a5 a6 a7 a8 a9 a10 a11 a12 a13 a14 a15 r).set 5 x=ch a0 a1 a2 a3 a4 x a6 a7 a8 a9 a10 a11 a12 a13 a14 a15 r:=rfl
theorem yl5:gt (ch a0 a1 a2 a3 a4 a5 a6 a7 a8 a9 a10 a11 a12 a13 a14 a15 r) 6=a6:=rfl
theorem xdp:nh (ch a0 a1 a2 a3 a4 a5 a6 a7 a8 a9 a10 a11 a12 a13 a14 a15 r) 6 = !a6.v43:=rfl
theorem vjf:(ch a0 a1 a2 a3 a4 a5 a6 a7 a8 a9 a10 a11 a12 a13 a14 a15 r).set 6 x=ch a0 a1 a2 a3 a4 a5 x a7 a8 a9 a10 a11 a12 a13 a14 a15 r:=rfl
theorem zfr:gt (ch a0 a1 a2 a3 a4 a5 a6 a7 a8 a9 a10 a11 a12 a13 a14 a15 r) 7=a7:=rfl
theorem vhp:nh (ch a0 a1 a2 a3 a4 a5 a6 a7 a8 a9 a10 a11 a12 a13 a14 a15 r) 7 = !a7.v43:=rfl
theorem x1u:(ch a0 a1 a2 a3 a4 a5 a6 a7 a8 a9 a10 a11 a12 a13 a14 a15 r).set 7 x=ch a0 a1 a2 a3 a4 a5 a6 x a8 a9 a10 a11 a12 a13 a14 a15 r:=rfl
theorem vlm:gt (ch a0 a1 a2 a3 a4 a5 a6 a7 a8 a9 a10 a11 a12 a13 a14 a15 r) 8=a8:=rfl
theorem zna:nh (ch a0 a1 a2 a3 a4 a5 a6 a7 a8 a9 a10 a11 a12 a13 a14 a15 r) 8 = !a8.v43:=rfl
theorem zft:(ch a0 a1 a2 a3 a4 a5 a6 a7 a8 a9 a10 a11 a12 a13 a14 a15 r).set 8 x=ch a0 a1 a2 a3 a4 a5 a6 a7 x a9 a10 a11 a12 a13 a14 a15 r:=rfl
theorem vxq:gt (ch a0 a1 a2 a3 a4 a5 a6 a7 a8 a9 a10 a11 a12 a13 a14 a15 r) 9=a9:=rfl
theorem z7b:nh (ch a0 a1 a2 a3 a4 a5 a6 a7 a8 a9 a10 a11 a12 a13 a14 a15 r) 9 = !a9.v43:=rfl
theorem xwt:(ch a0 a1 a2 a3 a4 a5 a6 a7 a8 a9 a10 a11 a12 a13 a14 a15 r).set 9 x=ch a0 a1 a2 a3 a4 a5 a6 a7 a8 x a10 a11 a12 a13 a14 a15 r:=rfl
theorem ytt:gt (ch a0 a1 a2 a3 a4 a5 a6 a7 a8 a9 a10 a11 a12 a13 a14 a15 r) 10=a10:=rfl
theorem vl9:nh (ch a0 a1 a2 a3 a4 a5 a6 a7 a8 a9 a10 a11 a12 a13 a14 a15 r) 10 = !a10.v43:=rfl
theorem v2g:(ch a0 a1 a2 a3 a4 a5 a6 a7 a8 a9 a10 a11 a12 a13 a14 a15 r).set 10 x=ch a0 a1 a2 a3 a4 a5 a6 a7 a8 a9 x a11 a12 a13 a14 a15 r:=rfl
theorem wsv:gt (ch a0 a1 a2 a3 a4 a5 a6 a7 a8 a9 a10 a11 a12 a13 a14 a15 r) 11=a11:=rfl
theorem vcn:nh (ch a0 a1 a2 a3 a4 a5 a6 a7 a8 a9 a10 a11 a12 a13 a14 a15 r) 11 = !a11.v43:=rfl
theorem v04:(ch a0 a1 a2 a3 a4 a5 a6 a7 a8 a9 a10 a11 a12 a13 a14 a15 r).set 11 x=ch a0 a1 a2 a3 a4 a5 a6 a7 a8 a9 a10 x a12 a13 a14 a15 r:=rfl
theorem zbe:gt (ch a0 a1 a2 a3 a4 a5 a6 a7 a8 a9 a10 a11 a12 a13 a14 a15 r) 12=a12:=rfl
theorem xw4:nh (ch a0 a1 a2 a3 a4 a5 a6 a7 a8 a9 a10 a11 a12 a13 a14 a15 r) 12 = !a12.v43:=rfl
theorem yd8:(ch a0 a1 a2 a3 a4 a5 a6 a7 a8 a9 a10 a11 a12 a13 a14 a15 r).set 12 x=ch a0 a1 a2 a3 a4 a5 a6 a7 a8 a9 a10 a11 x a13 a14 a15 r:=rfl
theorem wu6:gt (ch a0 a1 a2 a3 a4 a5 a6 a7 a8 a9 a10 a11 a12 a13 a14 a15 r) 13=a13:=rfl
theorem xsf:nh (ch a0 a1 a2 a3 a4 a5 a6 a7 a8 a9 a10 a11 a12 a13 a14 a15 r) 13 = !a13.v43:=rfl
theorem vbi:(ch a0 a1 a2 a3 a4 a5 a6 a7 a8 a9 a10 a11 a12 a13 a14 a15 r).set 13 x=ch a0 a1 a2 a3 a4 a5 a6 a7 a8 a9 a10 a11 a12 x a14 a15 r:=rfl
theorem y4u:gt (ch a0 a1 a2 a3 a4 a5 a6 a7 a8 a9 a10 a11 a12 a13 a14 a15 r) 14=a14:=rfl
theorem xxi:nh (ch a0 a1 a2 a3 a4 a5 a6 a7 a8 a9 a10 a11 a12 a13 a14 a15 r) 14 = !a14.v43:=rfl
theorem x77:(ch a0 a1 a2 a3 a4 a5 a6 a7 a8 a9 a10 a11 a12 a13 a14 a15 r).set 14 x=ch a0 a1 a2 a3 a4 a5 a6 a7 a8 a9 a10 a11 a12 a13 x a15 r:=rfl
theorem x7x:gt (ch a0 a1 a2 a3 a4 a5 a6 a7 a8 a9 a10 a11 a12 a13 a14 a15 r) 15=a15:=rfl
theorem x5u:nh (ch a0 a1 a2 a3 a4 a5 a6 a7 a8 a9 a10 a11 a12 a13 a14 a15 r) 15 = !a15.v43:=rfl
theorem va0:(ch a0 a1 a2 a3 a4 a5 a6 a7 a8 a9 a10 a11 a12 a13 a14 a15 r).set 15 x=ch a0 a1 a2 a3 a4 a5 a6 a7 a8 a9 a10 a11 a12 a13 a14 x r:=rfl
theorem wt4:gt (ch a0 a1 a2 a3 a4 a5 a6 a7 a8 a9 a10 a11 a12 a13 a14 a15 r) (n+16)=gt r n:=rfl
theorem xl6:nh (ch a0 a1 a2 a3 a4 a5 a6 a7 a8 a9 a10 a11 a12 a13 a14 a15 r) (n+16)=nh r n:=rfl
theorem y79:(ch a0 a1 a2 a3 a4 a5 a6 a7 a8 a9 a10 a11 a12 a13 a14 a15 r).set (n+16) x=ch a0 a1 a2 a3 a4 a5 a6 a7 a8 a9 a10 a11 a12 a13 a14 a15 (r.set n x):=rfl
theorem xup {s:Nat}:w3e s i (ch a0 a1 a2 a3 a4 a5 a6 a7 a8 a9 a10 a11 a12 a13 a14 a15 r)=w3e s i (a0::a1::a2::a3::a4::a5::a6::a7::a8::a9::a10::a11::a12::a13::a14::a15::r):=rfl
end
attribute [go_sem] vp3 wet xb8 yb9 wo0 xlq y6i w4m w5x x1e ywk z4u znh yfp zgh yyu yab vox yl5 xdp vjf zfr vhp x1u vlm zna zft vxq z7b xwt ytt vl9 v2g wsv vcn v04 zbe xw4 yd8 wu6 xsf vbi y4u xxi x77 x7x x5u va0 wt4 xl6 y79 xup
theorem x6o:app [] J=J:=rfl
theorem wnp {p:Nat×AV} {r:List (Nat×AV)}:app (p::r) J=app r (J.set p.1 p.2):=rfl
theorem zif {t:Nat}:opd J (.tmp t)=gt J t:=rfl
theorem v3h {k:IntKind} {n:Int}:opd J (.const (.int k n))=.one (.raw (.int k n)):=rfl
theorem wsp:opd J (.const (.bool b))=.one (.raw (.bool b)):=rfl
theorem y88 {s:ByteArray}:opd J (.const (.string s))=.one (.raw (.string s)):=rfl
theorem xso {a:Option Addr} {l c:Nat}:opd J (.const (.slice a l c))=.one (.raw (.slice a l c)):=rfl
theorem z9m {vs:Array Value}:opd J (.const (.agg vs))=zfo (.agg vs):=rfl
theorem y6v:opd J (.func f)=.one (.raw (.func (.func f) #[] #[])):=rfl
theorem y3y:val J o rd av=match o.dst with
 | some d=>if nh J d then some (d::rd,[(d,av)]) else none
 | none=>none:=rfl
theorem zac {x:List Nat×List (Nat×AV)}:OR.of (some x)=.eff x.1 [] x.2:=rfl
theorem w9c:OR.of none=.bad:=rfl
theorem wjh {s b:Nat} {z:List Cell} {sh:Sh}:TI.many ⟨s,b,z,sh⟩=if sh.agg then some true else if sh.plain then some false else none:=rfl
theorem xcz (h:mkTI P t=some ti) {k:TI->OR}:zj5 P t k=k ti:=by unfold zj5;rw [h]
theorem xbr {c:Prop} [Decidable c] {a b:α} (h:c):(if c then a else b)=a:=if_pos h
theorem xbt {c:Prop} [Decidable c] {a b:α} (h:¬c):(if c then a else b)=b:=if_neg h
theorem w64 {n:Int} (h:-9223372036854775808<=n/\n<=9223372036854775807):IntKind.i64.wrap n=n:=by rw [IntKind.wrap_i64];omega
theorem y20 (f:α->β) (a:α):(some a).map f=some (f a):=rfl
theorem vla (f:α->β):(none:Option α).map f=none:=rfl
theorem vew (f:α->Option β) (a:α):(some a).bind f=f a:=rfl
theorem beqI {a b:Int}:(a==b)=decide (a=b):=rfl
theorem bneI {a b:Int}:(a != b)=decide (a≠b):=by simp [bne,beqI]
theorem v32 {a b:α}:(bif true then a else b)=a:=rfl
theorem vx3 {a b:α}:(bif false then a else b)=b:=rfl
attribute [go_sem 100] xbr xbt
attribute [go_sem 10000] if_true if_false
attribute [go_sem] w64
attribute [go_sem] beqI bneI v32 vx3
attribute [go_sem ↓] vrr vkw
attribute [go_sem] xfk vvf
attribute [go_sem] zmy zhc yu2 xcx xse v3v
attribute [congr] xr3 zza wta
attribute [go_sem] xcf wf1 vfh zsn x6o wnp zif v3h wsp y88 xso z9m y6v y3y zac w9c wjh
attribute [go_sem] y20 vla vew List.set_cons_zero List.set_cons_succ Option.getD_some Option.getD_none List.getElem?_cons_zero List.getElem?_cons_succ List.getElem?_nil
attribute [go_sem] Cell.sub Cell.at Cell.upd Cell.cnt Cell.esz AV.fresh
attribute [go_sem] zi5 wru v5l
attribute [go_sem] litE wll isZc zcAt ownN zs4 isX nilO nilV maxV eqOp xm3 bbA wgs wm7 xao nilA nilC wzu zi0 hitB AV.rf
attribute [go_sem] vofA vofB x1g yha z01 x3u xij y2x elemAt wee abin binA aun unA ybp lenC lenA wi2 wd2 Cell.isSl natA xp0 orrO cutC vra vkp
attribute [go_sem] wy0 vbt orrs placeOf v16 chunk y7v xrl w8m z8e vd3 argA x43 orrL vf6 xui orr AV.v43 AV.xki AV.wry Sh.agg Sh.plain Cell.bare vw7 zfo
attribute [go_sem] xvu
attribute [go_sem] List.take_succ_cons List.take_zero List.drop_succ_cons List.drop_zero List.drop_nil List.take_nil List.length_cons List.length_nil List.cons_append List.nil_append List.append_nil List.all_cons List.all_nil List.map_cons List.map_nil
theorem bq6:(b != true) = !b:=by cases b<;>rfl
theorem bq8:(b != false)=b:=by cases b<;>rfl
attribute [go_sem] bq6 bq8 List.foldl_cons List.foldl_nil
attribute [go_sem] Bool.not_true Bool.not_false Bool.false_eq_true Bool.true_and Bool.and_true Bool.false_and Bool.and_false true_and and_true and_self cond_true cond_false not_true_eq_false not_false_eq_true
attribute [go_sem] Nat.zero_add Nat.add_zero List.drop_length List.take_length List.length_set List.length_replicate
attribute [go_sem] decide_true decide_false beq_self_eq_true bne_self_eq_false Option.toList Int.toNat_natCast List.toList_toArray
end Go.Slot
namespace Go.Slot
open Go Go.RowKit Go.ChangeShapes
variable {P:Program} {H:Type} {enc:TypeId×Value->H} {w:World} {spare:Nat->Bool} {held:Bool}
variable {a:Addr}
structure Bulk (bk:DataW H->Nat):Prop where
 str:∀ b,b.length<=bk (.lit (.string b))
 elems:∀ l r,l.length<=bk (.slice l r)
 elem:∀ l r d,d∈l->bk d<=bk (.slice l r)
 part:∀ l d,d∈l->bk d<=bk (.agg l)
theorem RdD.app0 {M:Nat->Nat->Prop} {w:World}:∀{vs us:List Value} {cs ds:List Cell},RdD M w vs cs->RdD M w us ds->RdD M w (vs++us) (cs++ds)
 | [],_,[],_,_,h=>h
 | _::_,_,_::_,_,h,h'=>⟨h.1,RdD.app0 h.2 h'⟩
theorem cellAt {v:Value} (h:w.cell? a=some v):a.spot=none:=by
 unfold World.cell? at h;split at h
 . split at h
   . cases h
   . rename_i hs;simpa using hs
 . cases h
theorem addrAt (h:a.spot=none) (n:Nat):a.add n=⟨a.block,a.off+n,none⟩:=by
 unfold Addr.add
 split
 . rename_i e;subst e;cases a;simp at h;subst h;rfl
 . rfl
section
variable {bk:DataW H->Nat} {N:Nat}
end
end Go.Slot
namespace Go.Slot
open Go Go.RowKit Go.ChangeShapes Go.WideShapes
variable {P:Program} {H:Type} {enc:TypeId×Value->H}
variable {W W':World}
def M0:Nat->Nat->Prop:=fun _ _=>False
section
variable {w:World} {spare:Nat->Bool} {held:Bool} {bk:DataW H->Nat} {N:Nat} {r:Reach} {b0:Nat}
end
theorem wmj (hl:laidOutB P=true) {W W':World} (hb:Below W.heap.size W W') {sp:Nat->Bool}:∀{ts:List TypeId} {vs:List Value} {ds:List (DataW H)} {ps:List MemPlace},(∀ t∈ts,P.readableRec t=true/\t<P.types.size)->
 DataW.TrodAll enc P W 0 (fun _=>true) true ts vs ds ps->(∀ p∈ps,p.block<W.heap.size)->(∀ p∈ps,sp p.block=true)->DataW.TrodAll enc P W' 0 sp true ts vs ds ps
 | [],vs,ds,ps,_,h,_,_=>by
  obtain ⟨rfl,rfl,rfl⟩:=trodAll_nil h;exact trodAll_mk0
 | t::ts,vs,ds,ps,hts,h,hlt,hsp=>by
  obtain ⟨v,vs',d,ds',p,q,rfl,rfl,rfl,⟨fuel,h1⟩,h2⟩:=trodAll_cons h;have ht:=hts t (by simp)
  exact ⟨p,q,⟨fuel,DataW.trod_stays (kids_book hl ht.1) (book_sized ht.1) (fun h=>by cases h) ⟨ht.2,book_self t⟩ h1 (fun x hx=>hb.same (hlt x (by simp [hx]))) (fun x hx=>hsp x (by simp [hx]))⟩,
   wmj hl hb (fun u hu=>hts u (by simp [hu])) h2 (fun x hx=>hlt x (by simp [hx])) (fun x hx=>hsp x (by simp [hx])),rfl⟩
theorem xl4 {may:MemPlace->Prop} (hb:Below W.heap.size W W'):W.keptBut W' may:=by
 refine ⟨hb.os,hb.output,fun i hi=>?_⟩;rw [hb.block i hi]
 split
 . rename_i h1 h2;rw [h1] at h2;cases h2;exact ⟨rfl,rfl,rfl,fun _ _=>rfl⟩
 . rename_i h1 h2;rw [h1] at h2;cases h2;exact .inr ⟨rfl,rfl⟩
 . rfl
theorem yog (hb:Below W.heap.size W W') {a:Addr} (h:a.block<W.heap.size):W'.frozen? a=W.frozen? a:=by
 unfold World.frozen?;rw [hb.block _ h]
theorem xvv (hl:laidOutB P=true) {f:Func} {s:ChangeSpec} {apart fresh handsOn again:Bool} {args:Array Value} {ds gs:List (DataW H)} {before:List MemPlace} {tb:TypeId}
 (hts:∀ t∈f.params.toList,P.readableRec t=true/\t<P.types.size) (hv:s.vars=[]) (hrt:f.resultTypes=#[tb]) (htb:P.underlying tb=some .bool)
 (hfn:∀ ds gs:List (DataW H),DataW.TrodAll enc P W 0 (fun _=>true) true f.params.toList args.toList ds before->gs=[]->(s.fn H (ds++gs)).results=[.lit (.bool true)]/\(s.fn H (ds++gs)).args=ds/\(s.fn H (ds++gs)).vars=[])
 (hW:DataW.Whole enc P f.params.toList s.vars apart W args.toList ds gs before) (hb:Below W.heap.size W W'):s.post enc P f apart fresh handsOn again W args (.bool true) W':=by
 have hlt:∀ p∈before,p.block<W.heap.size:=fun p hp=>hW.lt p hp
 have hW':=hW;obtain ⟨p,q,hA,hV,rfl,hfz,hnd⟩:=hW;rw [hv] at hV;obtain ⟨rfl,rfl⟩:=trodVars_none hV;rw [List.append_nil] at hW' hlt hfz hnd hfn;obtain ⟨e1,e2,e3⟩:=hfn ds [] hA rfl
 have hres:∀(b:Nat) (sp:Nat->Bool) (hd:Bool),DataW.TrodAll enc P W' b sp hd f.resultTypes.toList ((Value.bool true).resultList f.resultTypes.size) (s.fn H (ds++[])).results []:=fun b sp hd=>by
  rw [e1,hrt];exact trodAll_cons_mk (shut_bool htb true) trodAll_mk0
 have hargs:∀ sp:Nat->Bool,(∀ x∈p,sp x.block=true)->DataW.TrodAll enc P W' 0 sp true f.params.toList args.toList (s.fn H (ds++[])).args p:=fun sp hsp=>by
  rw [e2];exact wmj hl hb hts hA hlt hsp
 have hvars:∀ sp:Nat->Bool,DataW.TrodVars enc P W' sp s.vars (s.fn H (ds++[])).vars []:=fun sp=>by
  rw [e3,hv];exact rfl
 refine ⟨ds,[],p,[],p,[],hW',hres _ _ _,hargs _ (fun x hx=>by simpa using hlt x hx),hvars _,xl4 hb,fun _=>⟨?_,_,_,([]++p)++[],⟨[]++p,[],trodAll_append (hargs _ (fun _ _=>rfl)) (hres _ _ _),hvars _,rfl,?_,?_⟩,?_⟩⟩
 . exact ok_one hrt rfl (okWide_bool_mk htb true)
 . intro b off hp
   have hp':MemPlace.cell b off∈p:=by simpa using hp
   rw [yog hb (hlt _ hp')];exact hfz b off hp'
 . intro ha;simpa using hnd ha
 . intro x hx _;simpa using hx
end Go.Slot
