/- The proof, part B9: Hd, He. -/
import Derived.Test.YtglblfkobflpmaaGreatB8
namespace Go.Hp
open Go Go.RowKit Go.Slot
variable {P:Program} {Γ:List (Nat×List Cell)}
theorem zce {o:Oper} {I:List SV} {J:List SB} {x:Operand} {d:Nat} (ho:o.op=.move x\/o.op=.assign x) (hdst:o.dst=some d):vbd Γ P o I J (d::orr x) [] [(d,opdS Γ I x)] []:=by
 refine vbd.pure hdst (fun E ρ I' J' a w hag hah hI=>⟨a.eval x,?_,?_⟩)
 . rcases ho with ho | ho<;>simp [execOp,ho]
 . have:=hI.opd x
   rw [hag.opd (fun t ht=>by simp [ht])] at this;exact this
def vby (c x y:SV):Option SV:=match c with
 | .one (.dat (.raw (.bool true)))=>some x
 | .one (.dat (.raw (.bool false)))=>some y
 | _=>none
theorem yux {o:Oper} {I:List SV} {J:List SB} {c x y:Operand} {d:Nat} (ho:o.op=.pick c x y) (hdst:o.dst=some d) {v:SV} (h:vby (opdS Γ I c) (opdS Γ I x) (opdS Γ I y)=some v) :
 vbd Γ P o I J (d::(orr c++orr x++orr y)) [] [(d,v)] []:=by
 refine vbd.pure hdst (fun E ρ I' J' a w hag hah hI=>?_);have hc:=hI.opd c;have hx:=hI.opd x;have hy:=hI.opd y;rw [hag.opd (fun t ht=>by simp [ht])] at hc hx hy;unfold vby at h;split at h
 . rename_i e;rw [e] at hc;have ec:a.eval c=.bool true:=RdC.x18 hc
   cases h;exact ⟨a.eval x,by simp [execOp,ho,ec,asBool],hx⟩
 . rename_i e;rw [e] at hc;have ec:a.eval c=.bool false:=RdC.x18 hc
   cases h;exact ⟨a.eval y,by simp [execOp,ho,ec,asBool],hy⟩
 . cases h
def vg7:SV->Option (List HC)
 | .one h=>some [h]
 | .agg hs=>some hs
 | _=>none
theorem z1g {J:List SB} {ρ:Nat->Value} {M:Nat->Nat->Prop} {w:World} {v:Value} {x:SV} {hs:List HC} (hc:vg7 x=some hs) (h:SVR J ρ M w v x):HRL J ρ M w v.cells.toList hs:=by
 cases x with
 | one c=>
  cases hc
  have h1:v.cells=#[v]:=by
   have:=HRd.one h
   cases v<;>first | rfl | cases this
  rw [h1];exact ⟨h,trivial⟩
 | agg cs=>cases hc;obtain ⟨vs,rfl,h⟩:=h;simpa [Value.cells] using h
 | _=>cases hc
theorem y9q {o:Oper} {I:List SV} {J:List SB} {rd rh:List Nat} {d nb:Nat} {T:TypeId} {hs:List HC} (hdst:o.dst=some d) (hroom:y4f J nb=true)
 (hrun:∀(E:HEnv) (ρ:Nat->Value) (I':List SV) (J':List SB) (a:Act) (w:World),agS rd I I'->agB (nb::rh) J J'->RI Γ E ρ I' J' a w->
   ∃ vs:List Value,(execOp a.eval o).run P w=.ok (.value (.pointer (some ⟨w.heap.size,0,none⟩))) (w.alloc (.cells vs.toArray T))/\HRL J' ρ (MX E.Mo ρ J') w vs hs) :
 vbd Γ P o I J rd (nb::rh) [(d,.one (.ptr nb 0))] [(nb,.box hs (some T))]:=by
 refine vbd.val hdst (fun E ρ I' J' a w hag hah hI=>?_);obtain ⟨vs,h1,h2⟩:=hrun E ρ I' J' a w hag hah hI;have hfr:=hah.room (by simp) hroom;have hlt:nb<J'.length:=(List.getElem?_eq_some_iff.1 hfr).1;have hb:Below w.heap.size w (w.alloc (.cells vs.toArray T)):=(Below.refl _ _).alloc (Nat.le_refl _) _;refine ⟨_,_,upd ρ nb (.pointer (some ⟨w.heap.size,0,none⟩)),h1,Went.new hI.inv hb hfr (by simp) (fun _ _=>Nat.le_refl _) (fun m=>⟨w.heap.size,vs,T,rfl,xoz w _,h2.mv m,fun t' ht=>by cases ht;rfl⟩),?_⟩;exact ⟨⟨_,by simp [appL,hlt];rfl,by simp⟩,by rw [yr4];rfl⟩
theorem vrd {J:List SB} {ρ:Nat->Value} {M:Nat->Nat->Prop} {w:World}:∀{l:List Value},(∀ v∈l,v.oneCell'=true)->HRL J ρ M w l ((l.map zm6).map .dat)
 | [],_=>trivial
 | v::l,h=>⟨vo6 (h v (by simp)),vrd (fun u hu=>h u (by simp [hu]))⟩
theorem z6h {o:Oper} {I:List SV} {J:List SB} {T:TypeId} {d nb:Nat} (ho:o.op=.alloc T) (hdst:o.dst=some d) {ti:TI} (hti:mkTI P T=some ti) (hroom:y4f J nb=true) :
 vbd Γ P o I J [d] [nb] [(d,.one (.ptr nb 0))] [(nb,.box (ti.zc.map .dat) (some T))]:=by
 refine y9q hdst hroom (fun E ρ I' J' a w hag hah hI=>?_);obtain ⟨ds,i,z,hd,hi,hz,hsz,hby,hzs,hone,hzc,hsh⟩:=(wgk hti).ex;refine ⟨z.cells.toList,?_,?_⟩
 . simp [execOp,ho,Instr.alloc,wx4 hi hz,newVar,newRow]
 . rw [hzc];exact vrd hone
theorem zej {o:Oper} {I:List SV} {J:List SB} {T:TypeId} {x:Operand} {d nb:Nat} (ho:o.op=.box T x) (hdst:o.dst=some d) {hs:List HC} (hcs:vg7 (opdS Γ I x)=some hs) (hroom:y4f J nb=true) :
 vbd Γ P o I J (d::orr x) [nb] [(d,.one (.ptr nb 0))] [(nb,.box hs (some T))]:=by
 refine y9q hdst hroom (fun E ρ I' J' a w hag hah hI=>?_);have h:=hI.opd x;rw [hag.opd (fun t ht=>by simp [ht])] at h;refine ⟨(a.eval x).cells.toList,?_,z1g hcs h⟩;simp [execOp,ho,Instr.box,newVar,newRow]
def yi8 (ti:TI) (hs:List HC):Option SV:=
 match ti.many with
 | some true=>if ti.size<=hs.length then some (.agg (hs.take ti.size)) else none
 | some false=>match hs with
  | h::_=>some (.one h)
  | []=>none
 | none=>none
def seeH (J:List SB):SV->Option (List Nat×List HC)
 | .one (.ptr b off)=>match gB J b with
  | .box hs _=>some ([b],hs.drop off)
  | _=>none
 | .one (.pel b es i f)=>match gB J b with
  | .arr c _ _=>if c.esz=es then (c.at i f).map fun cs=>([b],cs.map .dat) else none
  | _=>none
 | .elt cs=>some ([],cs.map .dat)
 | _=>none
theorem xuw {J:List SB} {b:Nat} {x:SB} (h:gB J b=x) (hx:x≠.dead):J[b]? = some x:=by
 unfold gB at h
 cases hb:J[b]? with
 | none=>rw [hb] at h;exact absurd h.symm hx
 | some y=>rw [hb] at h;exact congrArg some h
theorem RI.sbr {E:HEnv} {ρ:Nat->Value} {I:List SV} {J:List SB} {a:Act} {w:World} (h:RI Γ E ρ I J a w) {b:Nat} {x:SB} (hx:gB J b=x) (hd:x≠.dead):SBR J ρ (MX E.Mo ρ J) w (ρ b) x:=
 h.inv.blk b x (xuw hx hd)
theorem xbn {w:World} {b:Nat} {vs q:List Value} {T:TypeId} (h:w.heap[b]? = some (.cells (vs++q).toArray T (0,0))) {j:Nat} {u:Value} (hj:vs[j]? = some u):w.cell? ⟨b,j,none⟩=some u:=by
 have hlt:=(List.getElem?_eq_some_iff.1 hj).1;simp only [World.cell?,h,Option.isSome_none,Bool.false_eq_true,if_false,List.getElem?_toArray];rw [List.getElem?_append_left hlt];exact hj
theorem zjy {E:HEnv} {ρ:Nat->Value} {I:List SV} {J:List SB} {a:Act} {w:World} (hI:RI Γ E ρ I J a w) {v:Value} {x:SV} {rh:List Nat} {hs:List HC} (hx:SVR J ρ (MX E.Mo ρ J) w v x) (h:seeH J x=some (rh,hs)) :
 ∃(b off:Nat) (vs:List Value),v=.pointer (some ⟨b,off,none⟩)/\(∀ j u,vs[j]? = some u->w.cell? ⟨b,off+j,none⟩=some u)/\HRL J ρ (MX E.Mo ρ J) w vs hs:=by
 unfold seeH at h;split at h
 . rename_i b off;split at h
   . rename_i hs' T hb
     cases h;obtain ⟨b',vs,T',e,hh,hr,_⟩:=hI.sbr hb (by simp);obtain ⟨_,rfl⟩:=hx;rw [e];exact ⟨b',off,vs.drop off,rfl,xk2 hh off,hr.drop off⟩
   . cases h
 . rename_i b es i f;split at h
   . rename_i c k T hb;split at h
     . rename_i hes;obtain ⟨cs,hat,e⟩:=Option.map_eq_some_iff.1 h
       cases e;obtain ⟨⟨hu,_⟩,h0⟩:=hI.sbr hb (by simp);obtain ⟨hi,r,hfl⟩:=Cell.zgr hu hat
       rcases h0 with ⟨h0,_⟩ | ⟨b',vs,q,T',e,hh,hr,_⟩
       . omega
       . obtain ⟨_,rfl⟩:=hx;rw [e];have hr':=hr.drop (i*c.esz+f);rw [hfl] at hr';have ht:=hr'.take cs.length;rw [List.take_left] at ht;refine ⟨b',i*es+f,(vs.drop (i*c.esz+f)).take cs.length,rfl,fun j u hj=>?_,RdD.hrl ht⟩;rw [List.getElem?_take] at hj;split at hj
         . rw [List.getElem?_drop] at hj;rw [<-hes];exact xbn hh hj
         . cases hj
     . cases h
   . cases h
 . rename_i cs
   cases h;obtain ⟨b,off,vs,rfl,hc,hr⟩:=hx;exact ⟨b,off,vs,rfl,fun j u hj=>(hc j u hj).2,RdD.hrl hr⟩
 . cases h
theorem run_load {T:TypeId} {ti:TI} (hti:TIok P T ti) {w:World} {b off:Nat} {vs:List Value} {J:List SB} {ρ:Nat->Value} {M:Nat->Nat->Prop} {hs:List HC} {x:SV}
 (hc:∀ j u,vs[j]? = some u->w.cell? ⟨b,off+j,none⟩=some u) (hr:HRL J ρ M w vs hs) (hl:yi8 ti hs=some x) :
 ∃ v,(loadVar T ⟨b,off,none⟩).run P w=.ok v w/\SVR J ρ M w v x:=by
 unfold yi8 at hl
 have hadd:∀ j,(⟨b,off,none⟩:Addr).add j=⟨b,off+j,none⟩:=fun j=>by unfold Addr.add;split<;>simp_all
 split at hl
 . rename_i hm;split at hl
   . rename_i hle
     cases hl;obtain ⟨d,i,z,hd,hi,hz,hsz,hby,hzs,hone,hzc,hsh⟩:=hti.ex;have hlen:=hr.length;refine ⟨.agg (vs.take ti.size).toArray,?_,⟨vs.take ti.size,rfl,hr.take _⟩⟩
     have hld:=run_loadCells_list (P:=P) w ⟨b,off,none⟩ (vs.take ti.size) (fun j u hj=>by
      rw [hadd];refine hc j u ?_;rw [List.getElem?_take] at hj;split at hj
      . exact hj
      . cases hj)
     have hlt:(vs.take ti.size).length=ti.size:=by rw [List.length_take];omega
     rw [hlt] at hld;unfold loadVar;simp only [Sem.run_bind,hti.vkb hm,Result.andThen_ok,if_true,yyt hi,hsz,hld,Sem.run_pure]
   . cases hl
 . rename_i hm;split at hl
   . rename_i c cs'
     cases hl
     cases vs with
     | nil=>exact hr.elim
     | cons v vs=>
      refine ⟨v,?_,hr.1⟩
      have:=hc 0 v rfl
      unfold loadVar;simp only [Sem.run_bind,hti.vkb hm,Result.andThen_ok,Bool.false_eq_true,if_false];simp only [Nat.add_zero] at this;simp [load,Sem.run,this]
   . cases hl
 . cases hl
theorem wbn {J J':List SB} {x:SV} {rh:List Nat} {hs:List HC} (h:seeH J x=some (rh,hs)) (ha:∀ b∈rh,gB J' b=gB J b):seeH J' x=some (rh,hs):=by
 unfold seeH at h ⊢;split at h
 . rename_i b off
   have e:gB J' b=gB J b:=by
    split at h
    . cases h;exact ha b (by simp)
    . cases h
   simp only [e];exact h
 . rename_i b es i f
   have e:gB J' b=gB J b:=by
    split at h
    . split at h
      . obtain ⟨cs,hat,e⟩:=Option.map_eq_some_iff.1 h
        cases e;exact ha b (by simp)
      . cases h
    . cases h
   simp only [e];exact h
 . exact h
 . cases h
theorem w7w {o:Oper} {I:List SV} {J:List SB} {T:TypeId} {x:Operand} {d:Nat} (ho:o.op=.load T x) (hdst:o.dst=some d) {ti:TI} (hti:mkTI P T=some ti) {rh:List Nat} {hs:List HC} {v:SV}
 (hs':seeH J (opdS Γ I x)=some (rh,hs)) (hl:yi8 ti hs=some v):vbd Γ P o I J (d::orr x) rh [(d,v)] []:=by
 refine vbd.pure hdst (fun E ρ I' J' a w hag hah hI=>?_);have hx:=hI.opd x;rw [hag.opd (fun t ht=>by simp [ht])] at hx;obtain ⟨b,off,vs,e,hc,hr⟩:=zjy hI hx (wbn hs' (fun b hb=>hah.gB hb));obtain ⟨u,h1,h2⟩:=run_load (wgk hti) hc hr hl;refine ⟨u,?_,h2⟩;simp [execOp,ho,Instr.loadAt,e,Instr.sureAddr,h1]
def x71 (J:List SB) (n:Nat) (x:SV) (us:List HC):Option (Nat×SB):=match x with
 | .one (.ptr b off)=>match gB J b with
  | .box hs T=>if off+n<=hs.length then some (b,.box (hs.take off++us++hs.drop (off+n)) T) else none
  | _=>none
 | .one (.pel b es i f)=>match gB J b with
  | .arr c 0 T=>if c.esz=es then match datL us with
   | some cs=>(c.upd i f cs).map fun c'=>(b,.arr c' 0 T)
   | none=>none
   else none
  | _=>none
 | _=>none
theorem ww7 {J J':List SB} {n:Nat} {x:SV} {us:List HC} {b:Nat} {y:SB} (h:x71 J n x us=some (b,y)) (ha:gB J' b=gB J b):x71 J' n x us=some (b,y):=by
 unfold x71 at h ⊢;split at h
 . rename_i b' off
   have e:b'=b:=by
    split at h
    . split at h<;>cases h;rfl
    . cases h
   subst e;simp only [ha];exact h
 . rename_i b' es i f
   have e:b'=b:=by
    split at h
    . split at h
      . split at h
        . obtain ⟨c',_,e⟩:=Option.map_eq_some_iff.1 h
          cases e;rfl
        . cases h
      . cases h
    . cases h
   subst e;simp only [ha];exact h
 . cases h
theorem zwl {w:World} {b:Nat} {old cs:Array Value} {T:TypeId} {fz:Nat×Nat} (hb:w.heap[b]? = some (.cells old T fz)) (hsz:old.size<=cs.size):Grow w (w.setRow b cs):=fun i arr T' fz' hi=>by
 by_cases e:i=b
 . subst e;rw [hb] at hi;cases hi;exact ⟨cs,T,fz,setRow_heap w i _ cs T fz hb,hsz⟩
 . exact ⟨arr,T',fz',by rw [setRow_other w b i cs e];exact hi,Nat.le_refl _⟩
theorem xbl {o:Oper} {I:List SV} {J:List SB} {T:TypeId} {x y:Operand} (ho:o.op=.store T x y) (hdst:o.dst=none) {ti:TI} (hti:mkTI P T=some ti) {us:List HC} {b:Nat} {z:SB}
 (hu:vg7 (opdS Γ I y)=some us) (hlen:us.length=ti.size) (hst:x71 J ti.size (opdS Γ I x) us=some (b,z)):vbd Γ P o I J (orr x++orr y) [b] [] [(b,z)]:=by
 refine vbd.skip hdst (fun E ρ I' J' a w hag hah hI=>?_);have hx:=hI.opd x;have hy:=hI.opd y;rw [hag.opd (fun t ht=>by simp [ht])] at hx hy;have hst:=ww7 hst (hah.gB (by simp));have hr:=z1g hu hy
 have hsz:(a.eval y).cells.size=ti.size:=by rw [<-hlen,<-hr.length];simp
 unfold x71 at hst;split at hst
 . rename_i b' off hxe;split at hst
   . rename_i hs T' hb;split at hst
     . rename_i hfit
       cases hst;rw [hxe] at hx;obtain ⟨bb,vs,Tb,e,hh,hrb,hT⟩:=hI.sbr hb (by simp);have hvl:=hrb.length;have hrun:=znu (P:=P) (wgk hti) hh hsz hr.ones (off:=off) (by omega);obtain ⟨_,hx⟩:=hx
       have hbk:bk (ρ b)=bb:=by rw [e];rfl
       rw [hbk] at hx;refine ⟨w.setRow bb (vs.take off++(a.eval y).cells.toList++vs.drop (off+ti.size)).toArray,ρ,?_,Went.write hI.inv (xuw hb (by simp)) rfl (by rw [e];simp [real]) rfl (fun o=>Iff.rfl) (by simp [World.setRow]) rfl rfl rfl (fun k hk=>setRow_other w bb k _ (by rw [<-hbk];exact hk)) (zwl hh ?_) (fun o u hm=>absurd trivial hm) (fun m=>?_)⟩
       . simp [execOp,ho,Instr.storeAt,hx,Instr.sureAddr,hrun]
       . simp only [List.size_toArray,List.length_append,List.length_take,List.length_drop,Array.length_toList];omega
       . refine ⟨bb,_,Tb,e,setRow_heap w bb _ _ Tb (0,0) hh,?_,hT⟩;exact (((hrb.take off).append hr).append (hrb.drop (off+ti.size))).mv m
     . cases hst
   . cases hst
 . rename_i b' es i f hxe;split at hst
   . rename_i c T' hb;split at hst
     . rename_i hes;subst hes;split at hst
       . rename_i cs hcs;obtain ⟨c',hupd,e⟩:=Option.map_eq_some_iff.1 hst
         cases e;rw [hxe] at hx;obtain ⟨⟨hun,_⟩,h0⟩:=hI.sbr hb (by simp);obtain ⟨hun',hcnt,hesz,hfit,hflat⟩:=Cell.zmp hun hupd;have hrd:=HRL.dat hr hcs;have hcl:=hrd.length
         have hcl2:cs.length=ti.size:=by rw [<-hcl];simpa using hsz
         rcases h0 with ⟨h0,_⟩ | ⟨bb,vs,q,Tb,e,hh,hrb,hT⟩
         . exfalso;unfold Cell.upd at hupd;split at hupd
           . split at hupd
             . split at hupd
               . rename_i hc;simp [Cell.cnt] at h0;simp [h0] at hc
               . cases hupd
             . cases hupd
           . split at hupd
             . rename_i hc;simp [Cell.cnt] at h0;simp [h0] at hc
             . cases hupd
           . cases hupd
         . have hvl:=hrb.length;have hfl:=Cell.wg8 hun;obtain ⟨_,hx⟩:=hx
           have hbk:bk (ρ b)=bb:=by rw [e];rfl
           rw [hbk] at hx;have hrun:=znu (P:=P) (wgk hti) hh hsz hr.ones (off:=i*c.esz+f) (by simp only [List.length_append];omega);refine ⟨w.setRow bb ((vs++q).take (i*c.esz+f)++(a.eval y).cells.toList++(vs++q).drop (i*c.esz+f+ti.size)).toArray,ρ,?_,Went.write hI.inv (xuw hb (by simp)) rfl (by rw [e];simp [real]) rfl (fun o=>Iff.rfl) (by simp [World.setRow]) rfl rfl rfl (fun k hk=>setRow_other w bb k _ (by rw [<-hbk];exact hk)) (zwl hh ?_) (fun o u hm=>absurd (Nat.zero_le o) hm) (fun m=>?_)⟩
           . simp [execOp,ho,Instr.storeAt,hx,Instr.sureAddr,hrun]
           . have:=hcl2
             simp only [List.size_toArray,List.length_append,List.length_take,List.length_drop,Array.length_toList];omega
           . have hsplit:(vs++q).take (i*c.esz+f)++(a.eval y).cells.toList++(vs++q).drop (i*c.esz+f+ti.size)=(vs.take (i*c.esz+f)++(a.eval y).cells.toList++vs.drop (i*c.esz+f+ti.size))++q:=by
              rw [List.take_append_of_le_length (by omega),List.drop_append_of_le_length (by omega)];simp [List.append_assoc]
             refine ⟨⟨hun',Nat.zero_le _⟩,.inr ⟨bb,_,q,Tb,e,by rw [setRow_heap w bb _ _ Tb (0,0) hh,hsplit],?_,hT⟩⟩;rw [hflat]
             have:=((hrb.take (i*c.esz+f)).append hrd).append (hrb.drop (i*c.esz+f+ti.size))
             rw [hcl2];exact this.keep m.keep
       . cases hst
     . cases hst
   . cases hst
 . cases hst
def vlp (x:SV) (off:Nat):Option SV:=match x with
 | .one (.ptr b o)=>some (.one (.ptr b (o+off)))
 | .one (.pel b es i f)=>some (.one (.pel b es i (f+off)))
 | .elt cs=>some (.elt (cs.drop off))
 | _=>none
theorem x8o {o:Oper} {I:List SV} {J:List SB} {S:TypeId} {x:Operand} {f d:Nat} (ho:o.op=.fieldAddr S x f) (hdst:o.dst=some d) {ti:TI} (hti:mkTI P S=some ti) {fs:List (Nat×Nat×TypeId)} (hs:ti.sh=.struct fs)
 {off sz:Nat} {ft:TypeId} (hf:fs[f]? = some (off,sz,ft)) {v:SV} (h:vlp (opdS Γ I x) off=some v):vbd Γ P o I J (d::orr x) [] [(d,v)] []:=by
 refine vbd.pure hdst (fun E ρ I' J' a w hag hah hI=>?_);have hx:=hI.opd x;rw [hag.opd (fun t ht=>by simp [ht])] at hx
 have key:∀ b oo,a.eval x=.pointer (some ⟨b,oo,none⟩)->(execOp a.eval o).run P w=.ok (.value (.pointer (some ⟨b,oo+off,none⟩))) w:=fun b oo e=>by
  have:=wnh (P:=P) (wgk hti) hs hf w b oo
  simp [execOp,ho,e,this]
 unfold vlp at h;split at h
 . rename_i b oo e
   cases h;rw [e] at hx;exact ⟨_,key _ _ hx.2,hx.1,rfl⟩
 . rename_i b es i ff e
   cases h;rw [e] at hx;exact ⟨_,key _ _ hx.2,hx.1,by rw [Nat.add_assoc]⟩
 . rename_i cs e
   cases h;rw [e] at hx;obtain ⟨b,oo,vs,hv,hc,hr⟩:=hx;refine ⟨_,key _ _ hv,b,oo+off,vs.drop off,rfl,fun j u hj=>?_,hr.drop off⟩;rw [List.getElem?_drop] at hj
   have:=hc (off+j) u hj
   rw [show oo+off+j=oo+(off+j) by omega];exact this
 . cases h
def vui (sh:Sh) (x y:SV):Option SV:=match y with
 | .one (.dat (.raw (.int _ n)))=>if 0<=n then match sh with
  | .slice _ es _ _=>match x with
   | .one (.sl b es' lo k)=>if es=es'/\n.toNat<k then some (.one (.pel b es (lo+n.toNat) 0)) else none
   | _=>none
  | .array m _ es=>match x with
   | .one (.ptr b o)=>if n.toNat<m/\es≠0 then some (.one (.ptr b (o+n.toNat*es))) else none
   | .elt cs=>if n.toNat<m/\es≠0 then some (.elt (cs.drop (n.toNat*es))) else none
   | _=>none
  | _=>none
  else none
 | _=>none
theorem yaf {o:Oper} {I:List SV} {J:List SB} {T:TypeId} {x y:Operand} {d:Nat} (ho:o.op=.indexAddr T x y) (hdst:o.dst=some d) {ti:TI} (hti:mkTI P T=some ti) {v:SV}
 (h:vui ti.sh (opdS Γ I x) (opdS Γ I y)=some v):vbd Γ P o I J (d::(orr x++orr y)) [] [(d,v)] []:=by
 refine vbd.pure hdst (fun E ρ I' J' a w hag hah hI=>?_);have hx:=hI.opd x;have hy:=hI.opd y;rw [hag.opd (fun t ht=>by simp [ht])] at hx hy;have hok:=wgk hti;unfold vui at h;split at h
 . rename_i kk n ey;rw [ey] at hy;have hye:a.eval y=.int kk n:=RdC.x18 hy;split at h
   . rename_i h0;split at h
     . rename_i e es eb ik hsh;split at h
       . rename_i b es' lo k ex;split at h
         . rename_i hc;obtain ⟨rfl,hn⟩:=hc
           cases h;rw [ex] at hx;obtain ⟨hob,ad,cap,hv,hle,hcap⟩:=hx;obtain ⟨_,had,_⟩:=hcap (by omega);subst had;refine ⟨.pointer (some ⟨bk (ρ b),(lo+n.toNat)*es+0,none⟩),?_,hob,rfl⟩
           have:=Slot.run_indexAt_slice (P:=P) hok hsh w (bk (ρ b)) (lo*es) k cap kk n h0 hn
           simp only [execOp,ho,hv,hye];rw [show (lo+n.toNat)*es+0=lo*es+n.toNat*es by rw [Nat.add_mul];omega];simp [this]
         . cases h
       . cases h
     . rename_i m e es hsh;obtain ⟨dd,i,z,hd,hi,hz,hsz',hby,hzs,hone,hzc,hsh'⟩:=hok.ex;obtain ⟨rfl,hes⟩:=yce (hsh'.symm.trans hsh)
       have key:∀ b oo,a.eval x=.pointer (some ⟨b,oo,none⟩)->n.toNat<m->es≠0->(execOp a.eval o).run P w=.ok (.value (.pointer (some ⟨b,oo+n.toNat*es,none⟩))) w:=fun b oo e1 hn hes0=>by
        have hlt:n<(m:Int):=by omega
        obtain ⟨j,hj,hjs⟩:=vpg (P:=P) (t:=e) (by rw [<-hes];exact hes0);simp only [execOp,ho,e1,hye];unfold Instr.indexAt;simp [asIntOf,w9c hd,h0,hlt,Instr.sureAddr,yyt hj,hjs,hes,v4h]
       split at h
       . rename_i b oo ex;split at h
         . rename_i hc
           cases h;rw [ex] at hx;exact ⟨_,key _ _ hx.2 hc.1 hc.2,hx.1,rfl⟩
         . cases h
       . rename_i cs ex;split at h
         . rename_i hc
           cases h;rw [ex] at hx;obtain ⟨b,oo,vs,hv,hcc,hr⟩:=hx;refine ⟨_,key _ _ hv hc.1 hc.2,b,oo+n.toNat*es,vs.drop (n.toNat*es),rfl,fun j u hj=>?_,hr.drop _⟩;rw [List.getElem?_drop] at hj
           have:=hcc (n.toNat*es+j) u hj
           rw [show oo+n.toNat*es+j=oo+(n.toNat*es+j) by omega];exact this
         . cases h
       . cases h
     . cases h
   . cases h
 . cases h
def ydz (x:SV) (n:Nat):Option SV:=match x with
 | .tup l=>l[n]?
 | _=>none
theorem xqb {o:Oper} {I:List SV} {J:List SB} {x:Operand} {n d:Nat} (ho:o.op=.extract x n) (hdst:o.dst=some d) {v:SV} (h:ydz (opdS Γ I x) n=some v):vbd Γ P o I J (d::orr x) [] [(d,v)] []:=by
 refine vbd.pure hdst (fun E ρ I' J' a w hag hah hI=>?_);have hx:=hI.opd x;rw [hag.opd (fun t ht=>by simp [ht])] at hx;unfold ydz at h;split at h
 . rename_i l e;rw [e] at hx;obtain ⟨vs,hv,hr⟩:=hx;obtain ⟨u,h1,h2⟩:=hr.get n v h;refine ⟨u,?_,SVR.of0 h2⟩;simp [execOp,ho,hv,Instr.extract,h1]
 . cases h
def ptrH:SV->Bool
 | .one (.ptr _ _) | .one (.pel _ _ _ _) | .elt _=>true
 | _=>false
theorem zk8 {o:Oper} {I:List SV} {J:List SB} {x:Operand} {d:Nat} (ho:o.op=.nilCheck x) (hdst:o.dst=some d) (h:ptrH (opdS Γ I x)=true):vbd Γ P o I J (d::orr x) [] [(d,opdS Γ I x)] []:=by
 refine vbd.pure hdst (fun E ρ I' J' a w hag hah hI=>?_);have hx:=hI.opd x;rw [hag.opd (fun t ht=>by simp [ht])] at hx
 have hv:∃ ad,a.eval x=.pointer (some ad):=by
  generalize opdS Γ I x=s at h hx;unfold ptrH at h;split at h
  . exact ⟨_,hx.2⟩
  . exact ⟨_,hx.2⟩
  . obtain ⟨b,oo,vs,e,_⟩:=hx;exact ⟨_,e⟩
  . cases h
 obtain ⟨ad,hv⟩:=hv;exact ⟨a.eval x,by simp [execOp,ho,hv],hx⟩
def lenH (J:List SB) (sh:Sh):SV->Option (List Nat×Nat)
 | .one (.sl _ _ _ n)=>match sh with
  | .slice _ _ _ _=>some ([],n)
  | _=>none
 | .one (.mp b)=>match sh with
  | .map _ _=>match gB J b with
   | .map es=>some ([b],es.length)
   | _=>none
  | _=>none
 | _=>none
theorem EnR.length {J:List SB} {ρ:Nat->Value} {M:Nat->Nat->Prop} {w:World}:∀{es:List MapEntry} {l:List (Value×SV)},EnR J ρ M w es l->es.length=l.length
 | [],[],_=>rfl
 | _::_,_::_,h=>by simp [h.2.length]
theorem w8w {d:TypeDesc} {k e:TypeId} (h:shOf P d=.map k e):d=.map k e:=by
 unfold shOf at h
 split at h<;>first | (cases h;done) | (cases h;rfl) | skip
 . split at h<;>cases h
 . split at h
   . split at h
     . split at h<;>cases h
     . cases h
   . cases h
theorem zs6 {o:Oper} {b:Builtin} {ρ:Operand->Value} {xs:Array Operand} {ts:Array TypeId} (ho:o.op=.call { callee:=.builtin b,args:=xs,argTypes:=ts }) :
 execOp ρ o=builtin b ts o.type (xs.map fun | .const _=>true | _=>false) (xs.map ρ):=by
 unfold execOp;rw [ho];rfl
theorem xlk {o:Oper} {I:List SV} {J:List SB} {T:TypeId} {x:Operand} {d:Nat} (ho:o.op=.call { callee:=.builtin .len,args:=#[x],argTypes:=#[T] }) (hdst:o.dst=some d) {ti:TI} (hti:mkTI P T=some ti) {rh:List Nat} {n:Nat}
 (h:lenH J ti.sh (opdS Γ I x)=some (rh,n)):vbd Γ P o I J (d::orr x) rh [(d,.one (.dat (.raw (.int .i64 (n:Int)))))] []:=by
 refine vbd.pure hdst (fun E ρ I' J' a w hag hah hI=>⟨_,?_,RdC.raw rfl⟩);have hx:=hI.opd x;rw [hag.opd (fun t ht=>by simp [ht])] at hx;have hok:=wgk hti;unfold lenH at h;split at h
 . rename_i b es lo k e;split at h
   . rename_i e' es' eb ik hsh
     cases h;rw [e] at hx;obtain ⟨_,ad,cap,hv,_⟩:=hx;have hrun:=Slot.run_len_slice (P:=P) hok hsh o.type ad n cap w;rw [zs6 ho,show (#[x]:Array Operand).map a.eval=#[a.eval x] from by simp]
     have:∀ cs,(builtin .len #[T] o.type cs #[a.eval x]).run P w=.ok (.value (.int .i64 n)) w:=fun cs=>by
      rw [hv];simp only [builtin,Sem.run_bind,hrun];rfl
     exact this _
   . cases h
 . rename_i b e;split at h
   . rename_i k ee hsh;split at h
     . rename_i es hb
       cases h;rw [e] at hx
       have hb':gB J' b=.map es:=by rw [hah.gB (by simp)];exact hb
       obtain ⟨bb,ents,clk,he,hh,hen⟩:=hI.sbr hb' (by simp);obtain ⟨dd,i,z,hd,hi,hz,hsz',hby,hzs,hone,hzc,hsh'⟩:=hok.ex;have hmap:=w8w (hsh'.symm.trans hsh);subst hmap;have hl:=hen.length
       have hv:a.eval x=.map (some bb):=by rw [hx.2.1,he]
       rw [zs6 ho,show (#[x]:Array Operand).map a.eval=#[a.eval x] from by simp]
       have:∀ cs,(builtin .len #[T] o.type cs #[a.eval x]).run P w=.ok (.value (.int .i64 es.length)) w:=fun cs=>by
        rw [hv];rw [<-hl];simp [builtin,Builtin.len_,w9c hd,getObj,Sem.run,hh,goInt]
       exact this _
     . cases h
   . cases h
 . cases h
def natH:SV->Option Nat
 | .one (.dat (.raw (.int _ n)))=>if 0<=n then some n.toNat else none
 | _=>none
def yjh (Γ:List (Nat×List Cell)) (I:List SV) (d:Nat):Option Operand->Option Nat
 | none=>some d
 | some x=>natH (opdS Γ I x)
theorem yuj {J:List SB} {ρ:Nat->Value} {M:Nat->Nat->Prop} {w:World} {v:Value} {x:SV} {n:Nat} (h:SVR J ρ M w v x) (hn:natH x=some n):∃ k,v=.int k n:=by
 unfold natH at hn;split at hn
 . rename_i k m;split at hn
   . rename_i h0
     cases hn;refine ⟨k,?_⟩;rw [RdC.x18 h];rw [Int.toNat_of_nonneg h0]
   . cases hn
 . cases hn
def yw0 (Γ:List (Nat×List Cell)) (I:List SV) (sh:Sh) (x:SV) (lo hi:Option Operand):Option SV:=match sh,x with
 | .slice _ es _ _,.one (.sl b es' l0 n)=>match yjh Γ I 0 lo,yjh Γ I n hi with
  | some l,some h=>if es=es'/\l<=h/\h<=n then some (.one (.sl b es (l0+l) (h-l))) else none
  | _,_=>none
 | _,_=>none
theorem z1i {o:Oper} {I:List SV} {J:List SB} {T:TypeId} {x:Operand} {lo hi:Option Operand} {d:Nat} (ho:o.op=.slice T x lo hi none) (hdst:o.dst=some d) {ti:TI} (hti:mkTI P T=some ti) {v:SV}
 (h:yw0 Γ I ti.sh (opdS Γ I x) lo hi=some v):vbd Γ P o I J (d::(orr x++orrO lo++orrO hi)) [] [(d,v)] []:=by
 refine vbd.pure hdst (fun E ρ I' J' a w hag hah hI=>?_);have hx:=hI.opd x;rw [hag.opd (fun t ht=>by simp [ht])] at hx;have hok:=wgk hti;unfold yw0 at h;split at h
 . rename_i e es eb ik b es' l0 n hsh ex;split at h
   . rename_i l hh hl hh';split at h
     . rename_i hc;obtain ⟨rfl,h1,h2⟩:=hc
       cases h;rw [ex] at hx;obtain ⟨hob,ad,cap,hv,hle,hcap⟩:=hx;obtain ⟨dd,i,z,hd,hi',hz,hsz',hby,hzs,hone,hzc,hsh'⟩:=hok.ex;obtain ⟨rfl,j,z',hj,_,hjs,_,hes0,_⟩:=zu3 (hsh'.symm.trans hsh)
       have hlo:match (lo.map a.eval) with | none=>l=0 | some v=>∃ k,v=.int k l:=by
        cases lo with
        | none=>simp only [yjh,Option.some.injEq] at hl;exact hl.symm
        | some y=>
         have hy:=hI.opd y;rw [hag.opd (fun t ht=>by simp [orrO,ht])] at hy;exact yuj hy hl
       have hhi:match (hi.map a.eval) with | none=>hh=n | some v=>∃ k,v=.int k hh:=by
        cases hi with
        | none=>simp only [yjh,Option.some.injEq] at hh';exact hh'.symm
        | some y=>
         have hy:=hI.opd y;rw [hag.opd (fun t ht=>by simp [orrO,ht])] at hy;exact yuj hy hh'
       have hb:=w8g (P:=P) (isS:=true) (len:=n) (cap:=cap) hlo hhi h1 (Nat.le_trans h2 hle) w;refine ⟨.slice (if cap=l then ad else ad.map (·.add (l*es))) (hh-l) (cap-l),?_,hob,_,_,rfl,by omega,fun h0=>?_⟩
       . cases ad with
         | none=>simp [execOp,ho,hv,Instr.sliceAt,w9c hd,Instr.slice,hb,yyt hj,hjs]
         | some ad=>simp [execOp,ho,hv,Instr.sliceAt,w9c hd,Instr.slice,hb,yyt hj,hjs]
       . obtain ⟨hre,had,arr,T',fz,hheap,hsz⟩:=hcap (by omega);subst had;refine ⟨hre,?_,arr,T',fz,hheap,?_⟩
         . rw [if_neg (by omega)];simp [v4h,Nat.add_mul]
         . rw [show l0+l+(cap-l)=l0+cap by omega];exact hsz
     . cases h
   . cases h
 . cases h
def frzB:SB->SB
 | .arr c _ T=>.arr c (c.cnt*c.esz) T
 | x=>x
def frzE (J:List SB) (bs:List Nat):List (Nat×SB):=bs.map fun b=>(b,frzB (gB J b))
def y10:SB->Bool
 | .arr _ _ _=>true
 | _=>false
def subC (c:Cell) (lo n:Nat):Cell:=match lo==0&&n==c.cnt with
 | true=>c
 | false=>c.sub lo n
def zyf (J:List SB):HC->Option (Cell×List Nat)
 | .dat c=>some (c,[])
 | .sl b es lo n=>match gB J b with
  | .arr c _ _=>if c.esz=es/\lo+n<=c.cnt then some (subC c lo n,[b]) else none
  | _=>none
 | _=>none
def w8n (J:List SB):List HC->Option (List Cell×List Nat)
 | []=>some ([],[])
 | h::r=>match zyf J h,w8n J r with
  | some (c,bs),some (cs,bs')=>some (c::cs,bs++bs')
  | _,_=>none
theorem xh6 {c:Cell} {lo n:Nat} (_h:lo+n<=c.cnt):(lo=0/\n=c.cnt/\subC c lo n=c)\/subC c lo n=c.sub lo n:=by
 unfold subC
 split
 . rename_i e;simp only [Bool.and_eq_true,beq_iff_eq] at e;exact .inl ⟨e.1,e.2,rfl⟩
 . exact .inr rfl
theorem x78 {M:Nat->Nat->Prop} {w:World} {b cap:Nat} {vs q:List Value} {T:TypeId} {c:Cell} (hb:w.heap[b]? = some (.cells (vs++q).toArray T (0,0))) (hr:RdD M w vs c.flat) (hu:c.uni)
 (hcap:c.cnt<=cap) (hM:∀ o,o<vs.length->¬M b o):RdC M w (.slice (some ⟨b,0,none⟩) c.cnt cap) c:=by
 cases c with
 | ints k l=>
  refine .ints b 0 rfl hcap (fun _=>rfl) (fun i hi=>?_);obtain ⟨v,hv,hrv⟩:=hr.get i (.raw (.int k l[i])) (by simp [Cell.flat,hi]);rw [RdC.x18 hrv] at hv;rw [Nat.zero_add];exact ⟨hM _ (List.getElem?_eq_some_iff.1 hv).1,xbn hb hv⟩
 | sl n rows=>
  have hu:∀ r∈rows,r.length=n:=hu
  have key:∀ i (hi:i<rows.length) j,j<n->∃ v,vs[i*n+j]? = some v/\∀ hj':j<rows[i].length,RdC M w v (rows[i][j]'hj'):=fun i hi j hj=>by
   have hlen:=hu _ (List.getElem_mem hi)
   obtain ⟨v,hv,hrv⟩:=hr.get (i*n+j) (rows[i][j]'(by omega)) (by
    simp only [Cell.flat];rw [xsd rows i j hu hi hj]
    have:rows.getD i []=rows[i]:=by simp [hi]
    rw [this]
    simp [hlen,hj])
   exact ⟨v,hv,fun _=>hrv⟩
  refine .sl b 0 (fun i j=>(vs[i*n+j]?).getD Go.undef) rfl hcap (fun _=>rfl) hu (fun i hi j hj=>?_) (fun i hi j hj=>?_)
  . obtain ⟨v,hv,_⟩:=key i hi j hj;rw [hv,Nat.zero_add];exact ⟨hM _ (List.getElem?_eq_some_iff.1 hv).1,xbn hb hv⟩
  . have hlen:=hu _ (List.getElem_mem hi);obtain ⟨v,hv,hrv⟩:=key i hi j (by omega);rw [hv];exact hrv hj
 | _=>exact hu.elim
theorem RdC.empty {M:Nat->Nat->Prop} {w:World} {ad:Option Addr} {cap:Nat} {c:Cell} (hu:c.uni) (h0:c.cnt=0):RdC M w (.slice ad 0 cap) c:=by
 cases c with
 | ints k l=>
  have:l=[]:=List.eq_nil_of_length_eq_zero h0
  subst this;exact .ints 0 0 rfl (Nat.zero_le _) (fun h=>absurd rfl h) (fun i hi=>absurd hi (by simp))
 | sl n rows=>
  have:rows=[]:=List.eq_nil_of_length_eq_zero h0
  subst this;exact .sl 0 0 (fun _ _=>Go.undef) rfl (Nat.zero_le _) (fun h=>absurd rfl h) (fun r hr=>by cases hr) (fun i hi=>absurd hi (by simp)) (fun i hi=>absurd hi (by simp))
 | _=>exact hu.elim
theorem Cell.woh {c:Cell} (hu:c.uni) {lo n:Nat}:(c.sub lo n).uni:=by
 cases c with
 | ints k l=>trivial
 | sl m rows=>exact fun r hr=>hu r (List.mem_of_mem_drop (List.mem_of_mem_take hr))
 | _=>exact hu.elim
theorem Cell.zhd {c:Cell} (hu:c.uni) {lo n:Nat} (h:lo+n<=c.cnt):(c.sub lo n).cnt=n:=by
 cases c with
 | ints k l=>simp [Cell.sub,Cell.cnt] at h ⊢;omega
 | sl m rows=>simp [Cell.sub,Cell.cnt] at h ⊢;omega
 | _=>exact hu.elim
theorem wak {Mo:Nat->Nat->Prop} {ρ:Nat->Value} {J:List SB} {w:World} (h:HInv Γ Mo ρ J w) {b es lo n:Nat} {c:Cell} {T:Option TypeId} (hb:J[b]? = some (.arr c (c.cnt*c.esz) T)) (hes:c.esz=es) (hfit:lo+n<=c.cnt)
 {v:Value} (hv:HRd J ρ (MX Mo ρ J) w v (.sl b es lo n)):RdC (MX Mo ρ J) w v (subC c lo n):=by
 obtain ⟨⟨hu,_⟩,h0⟩:=h.blk b _ hb;obtain ⟨_,ad,cap,rfl,hle,hcap⟩:=hv;by_cases hc0:cap=0
 . have hn:n=0:=by omega
   subst hn
   rcases xh6 hfit with ⟨h1,h2,h3⟩ | h3
   . rw [h3];exact RdC.empty hu h2.symm
   . rw [h3];exact RdC.empty (Cell.woh hu) (Cell.zhd hu hfit)
 . obtain ⟨hre,had,arr,T',fz,hheap,hsz⟩:=hcap hc0
   rcases h0 with ⟨_,e⟩ | ⟨bb,vs,q,T2,e,hh,hr,_⟩
   . exact absurd e hre
   . have hbk:bk (ρ b)=bb:=by rw [e];rfl
     have hfl:=Cell.wg8 hu;have hvl:=hr.length
     have hM:∀ o,o<vs.length->¬MX Mo ρ J bb o:=fun o ho hm=>by
      rcases hm with hm | ⟨j,y,hj,hy,hrj,ej⟩
      . exact h.sep b _ hb rfl hre o (by rw [hbk];exact hm)
      . have hjb:=h.inj j b y _ hj hb (SB.zgj hy) rfl hrj hre (by rw [hbk];exact ej);subst hjb;rw [hb] at hj;cases hj
        have:c.cnt*c.esz<=o:=hy
        omega
     have hd:=x78 (cap:=max c.cnt cap) hh hr hu (Nat.le_max_left _ _) hM;rw [hbk] at had
     rcases xh6 hfit with ⟨h1,h2,h3⟩ | h3
     . rw [h3]
       have:=RdC.sub hd hu (lo:=0) (n:=c.cnt) (cap':=cap) (ad:=ad) (by omega) (fun _=>by rw [had,h1];simp) (by omega)
       have hs:c.sub 0 c.cnt=c:=by
        cases c with
        | ints k l=>simp [Cell.sub,Cell.cnt]
        | sl m rows=>simp [Cell.sub,Cell.cnt]
        | _=>rfl
       rw [hs] at this;rw [h2];exact this
     . rw [h3];exact RdC.sub hd hu hfit (fun _=>by rw [had,hes,Nat.zero_add]) hle
theorem y74 {J:List SB} {b:Nat} {x:SB} (h:b<J.length):gB (J.set b x) b=x:=by simp [gB,h]
theorem yta {J:List SB} {b i:Nat} {x:SB} (h:i≠b):gB (J.set b x) i=gB J i:=by simp [gB,List.getElem?_set_ne (Ne.symm h)]
theorem wh0 {α:Type}:∀(e:List (Nat×α)) (l:List α),(appL e l).length=l.length
 | [],_=>rfl
 | (i,x)::e,l=>by simp only [appL];rw [wh0 e];simp
theorem Went.frz {Mo:Nat->Nat->Prop} {ρ:Nat->Value} {w:World} {J:List SB}:∀(bs:List Nat) (η1:List SB),HInv Γ Mo ρ η1 w->η1.length=J.length->(∀ b∈bs,y10 (gB J b)=true)->(∀ b,gB η1 b=gB J b\/gB η1 b=frzB (gB J b))->
 Went Γ Mo ρ η1 w ρ (appL (frzE J bs) η1) w/\(∀ b,gB (appL (frzE J bs) η1) b=gB η1 b\/gB (appL (frzE J bs) η1) b=frzB (gB J b))/\(∀ b∈bs,gB (appL (frzE J bs) η1) b=frzB (gB J b))
 | [],η1,h,_,_,_=>⟨Went.refl h,fun b=>.inl rfl,fun b hb=>by cases hb⟩
 | b::bs,η1,h,hl,ha,hg=>by
  have hab:=ha b (by simp)
  have hx:∃ c k T,gB J b=.arr c k T:=by
   generalize gB J b=y at hab
   cases y<;>first | exact ⟨_,_,_,rfl⟩ | cases hab
  obtain ⟨c,k,T,hx⟩:=hx
  have hf:frzB (gB J b)=.arr c (c.cnt*c.esz) T:=by rw [hx];rfl
  obtain ⟨k1,h1⟩:∃ k1,η1[b]? = some (.arr c k1 T):=by
   rcases hg b with e | e
   . exact ⟨k,xuw (e.trans hx) (by simp)⟩
   . exact ⟨_,xuw (e.trans hf) (by simp)⟩
  have hlt:b<η1.length:=(List.getElem?_eq_some_iff.1 h1).1;have hsbr:=h.blk b _ h1
  have hstep:Went Γ Mo ρ η1 w ρ (η1.set b (.arr c (c.cnt*c.esz) T)) w:=by
   refine Went.less h h1 (by simp) (fun _=>rfl) (fun o ho=>Nat.le_trans hsbr.1.2 ho) (fun m=>?_);obtain ⟨⟨hu,_⟩,h0⟩:=hsbr.mv m (fun _ _=>rfl);exact ⟨⟨hu,Nat.le_refl _⟩,h0⟩
  have hg':∀ i,gB (η1.set b (.arr c (c.cnt*c.esz) T)) i=gB J i\/gB (η1.set b (.arr c (c.cnt*c.esz) T)) i=frzB (gB J i):=fun i=>by
   by_cases e:i=b
   . subst e;rw [y74 hlt,hf];exact .inr rfl
   . rw [yta e];exact hg i
  obtain ⟨h3,h4,h5⟩:=Went.frz bs (η1.set b (.arr c (c.cnt*c.esz) T)) hstep.inv (by simp [hl]) (fun i hi=>ha i (by simp [hi])) hg'
  have he:appL (frzE J (b::bs)) η1=appL (frzE J bs) (η1.set b (.arr c (c.cnt*c.esz) T)):=by
   show appL ((b,frzB (gB J b))::frzE J bs) η1=_;rw [hf];rfl
  rw [he];refine ⟨hstep.trans h3,fun i=>?_,fun i hi=>?_⟩
  . rcases h4 i with e | e
    . by_cases e':i=b
      . subst e';rw [e,y74 hlt,hf];exact .inr rfl
      . rw [yta e'] at e;exact .inl e
    . exact .inr e
  . rcases List.mem_cons.1 hi with rfl | hi
    . rcases h4 i with e | e
      . rw [e,y74 hlt,hf]
      . exact e
    . exact h5 i hi
theorem wtp {J : List SB} {h : HC} {c : Cell} {bs : List Nat} (hd : zyf J h = some (c, bs)) : ∀ b ∈ bs, y10 (gB J b) = true := by
 unfold zyf at hd;split at hd
 . cases hd;intro b hb;cases hb
 . split at hd
   . rename_i c' k T hb;split at hd
     . cases hd;intro b hb';simp only [List.mem_singleton] at hb';subst hb';rw [hb];rfl
     . cases hd
   . cases hd
 . cases hd
theorem y93 {J:List SB}:∀{hs:List HC} {cs:List Cell} {bs:List Nat},w8n J hs=some (cs,bs)->∀ b∈bs,y10 (gB J b)=true
 | [],cs,bs,hd=>by cases hd;intro b hb;cases hb
 | h::hs,cs,bs,hd=>by
  simp only [w8n] at hd;split at hd
  . rename_i c bs1 cs2 bs2 h1 h2
    cases hd;intro b hb
    rcases List.mem_append.1 hb with hb | hb
    . exact wtp h1 b hb
    . exact y93 h2 b hb
  . cases hd
theorem yw5 {Mo : Nat → Nat → Prop} {ρ : Nat → Value} {J J' : List SB} {w : World} (h : HInv Γ Mo ρ J' w) {x : HC} {c : Cell} {bs : List Nat} (hd : zyf J x = some (c, bs)) (hf : ∀ b ∈ bs, gB J' b = frzB (gB J b)) {v : Value}
 (hv:HRd J' ρ (MX Mo ρ J') w v x):RdC (MX Mo ρ J') w v c:=by
 unfold zyf at hd;split at hd
 . cases hd;exact hv
 . rename_i b es lo n;split at hd
   . rename_i c' k T hb;split at hd
     . rename_i hc
       cases hd
       have:=hf b (by simp)
       rw [hb] at this;exact wak h (xuw this (by simp)) hc.1 hc.2 hv
     . cases hd
   . cases hd
 . cases hd
theorem zqm {Mo:Nat->Nat->Prop} {ρ:Nat->Value} {J J':List SB} {w:World} (h:HInv Γ Mo ρ J' w):∀{hs:List HC} {cs:List Cell} {bs:List Nat},w8n J hs=some (cs,bs)->(∀ b∈bs,gB J' b=frzB (gB J b))->∀{vs:List Value},
 HRL J' ρ (MX Mo ρ J') w vs hs->RdD (MX Mo ρ J') w vs cs
 | [],cs,bs,hd,_,vs,hv=>by
  cases hd
  cases vs with
  | nil=>trivial
  | cons _ _=>exact hv.elim
 | x::hs,cs,bs,hd,hf,vs,hv=>by
  simp only [w8n] at hd;split at hd
  . rename_i c bs1 cs2 bs2 h1 h2
    cases hd
    cases vs with
    | nil=>exact hv.elim
    | cons v vs=>exact ⟨yw5 h h1 (fun b hb=>hf b (by simp [hb])) hv.1,zqm h h2 (fun b hb=>hf b (by simp [hb])) hv.2⟩
  . cases hd
theorem xm5 {J J' : List SB} {x : HC} {c : Cell} {bs : List Nat} (hd : zyf J x = some (c, bs)) (ha : ∀ b ∈ bs, gB J' b = gB J b) : zyf J' x = some (c, bs) := by
 unfold zyf at hd ⊢;split at hd
 . exact hd
 . rename_i b es lo n
   have e:gB J' b=gB J b:=by
    split at hd
    . split at hd
      . cases hd;exact ha b (by simp)
      . cases hd
    . cases hd
   simp only [e];exact hd
 . cases hd
theorem vrp {J J':List SB}:∀{hs:List HC} {cs:List Cell} {bs:List Nat},w8n J hs=some (cs,bs)->(∀ b∈bs,gB J' b=gB J b)->w8n J' hs=some (cs,bs)
 | [],cs,bs,hd,_=>hd
 | x::hs,cs,bs,hd,ha=>by
  simp only [w8n] at hd ⊢;split at hd
  . rename_i c bs1 cs2 bs2 h1 h2
    cases hd;rw [xm5 h1 (fun b hb=>ha b (by simp [hb])),vrp h2 (fun b hb=>ha b (by simp [hb]))]
  . cases hd
theorem zii {J J':List SB}:∀{bs:List Nat},(∀ b∈bs,gB J' b=gB J b)->frzE J' bs=frzE J bs
 | [],_=>rfl
 | b::bs,ha=>by
  show (b,frzB (gB J' b))::frzE J' bs=(b,frzB (gB J b))::frzE J bs;rw [ha b (by simp),zii (fun i hi=>ha i (by simp [hi]))]
theorem RI.frz {E:HEnv} {ρ:Nat->Value} {I:List SV} {J:List SB} {a:Act} {w:World} (h:RI Γ E ρ I J a w) {bs:List Nat} (ha:∀ b∈bs,y10 (gB J b)=true) :
 RI Γ E ρ I (appL (frzE J bs) J) a w/\∀ b∈bs,gB (appL (frzE J bs) J) b=frzB (gB J b):=by
 obtain ⟨h1,_,h3⟩:=Went.frz bs J h.inv rfl ha (fun _=>.inl rfl);exact ⟨h.go h1,h3⟩
end Go.Hp
