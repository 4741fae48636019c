/- The proof, part Z5: Hd, He. -/
import Derived.Test.YtkbkjjahlafhoaaGreatDoorZ4
namespace Go.Hp
open Go Go.RowKit Go.Slot
variable {P:Program} {Γ:List (Nat×List Cell)}
theorem w7k {o:Oper} {J:List SV} {η:List SB} {x:Operand} {d:Nat} (ho:o.op=.move x\/o.op=.assign x) (hdst:o.dst=some d):wpk Γ P o J η (d::orr x) [] [(d,opdS Γ J x)] []:=by
 refine wpk.pure hdst (fun E ρ J' η' a w hag hah hI=>⟨a.eval x,?_,?_⟩)
 . rcases ho with ho | ho<;>simp [execOp,ho]
 . have:=hI.opd x
   rw [hag.opd (fun t ht=>by simp [ht])] at this;exact this
def v06 (c x y:SV):Option SV:=match c with
 | .one (.dat (.raw (.bool true)))=>some x
 | .one (.dat (.raw (.bool false)))=>some y
 | _=>none
theorem zfs {o:Oper} {J:List SV} {η:List SB} {c x y:Operand} {d:Nat} (ho:o.op=.pick c x y) (hdst:o.dst=some d) {v:SV} (h:v06 (opdS Γ J c) (opdS Γ J x) (opdS Γ J y)=some v) :
 wpk Γ P o J η (d::(orr c++orr x++orr y)) [] [(d,v)] []:=by
 refine wpk.pure hdst (fun E ρ J' η' a w hag hah hI=>?_);have hc:=hI.opd c;have hx:=hI.opd x;have hy:=hI.opd y;rw [hag.opd (fun t ht=>by simp [ht])] at hc hx hy;unfold v06 at h;split at h
 . rename_i e;rw [e] at hc;have ec:a.eval c=.bool true:=RdC.xbx hc
   cases h;exact ⟨a.eval x,by simp [execOp,ho,ec,asBool],hx⟩
 . rename_i e;rw [e] at hc;have ec:a.eval c=.bool false:=RdC.xbx hc
   cases h;exact ⟨a.eval y,by simp [execOp,ho,ec,asBool],hy⟩
 . cases h
def yg2:SV->Option (List HC)
 | .one h=>some [h]
 | .agg hs=>some hs
 | _=>none
theorem zvx {η:List SB} {ρ:Nat->Value} {M:Nat->Nat->Prop} {w:World} {v:Value} {x:SV} {hs:List HC} (hc:yg2 x=some hs) (h:SVR η ρ M w v x):HRL η ρ M w v.cells.toList hs:=by
 cases x with
 | one c=>
  cases hc
  have h1:v.cells=#[v]:=by
   have:=HRd.one h
   cases v<;>first | rfl | cases this
  rw [h1];exact ⟨h,trivial⟩
 | agg cs=>cases hc;obtain ⟨vs,rfl,h⟩:=h;simpa [Value.cells] using h
 | _=>cases hc
theorem wl9 {o:Oper} {J:List SV} {η:List SB} {rd rh:List Nat} {d nb:Nat} {T:TypeId} {hs:List HC} (hdst:o.dst=some d) (hroom:wo7 η nb=true)
 (hrun:∀(E:HEnv) (ρ:Nat->Value) (J':List SV) (η':List SB) (a:Act) (w:World),agS rd J J'->agB (nb::rh) η η'->RI Γ E ρ J' η' a w->
   ∃ vs:List Value,(execOp a.eval o).run P w=.ok (.value (.pointer (some ⟨w.heap.size,0,none⟩))) (w.alloc (.cells vs.toArray T))/\HRL η' ρ (MX E.Mo ρ η') w vs hs) :
 wpk Γ P o J η rd (nb::rh) [(d,.one (.ptr nb 0))] [(nb,.box hs (some T))]:=by
 refine wpk.val hdst (fun E ρ J' η' a w hag hah hI=>?_);obtain ⟨vs,h1,h2⟩:=hrun E ρ J' η' a w hag hah hI;have hfr:=hah.room (by simp) hroom;have hlt:nb<η'.length:=(List.getElem?_eq_some_iff.1 hfr).1;have hb:Below w.heap.size w (w.alloc (.cells vs.toArray T)):=(Below.refl _ _).alloc (Nat.le_refl _) _;refine ⟨_,_,upd ρ nb (.pointer (some ⟨w.heap.size,0,none⟩)),h1,Went.new hI.inv hb hfr (by simp) (fun _ _=>Nat.le_refl _) (fun m=>⟨w.heap.size,vs,T,rfl,vs6 w _,h2.mv m,fun t' ht=>by cases ht;rfl⟩),?_⟩;exact ⟨⟨_,by simp [appL,hlt];rfl,by simp⟩,by rw [xjo];rfl⟩
theorem x6l {η:List SB} {ρ:Nat->Value} {M:Nat->Nat->Prop} {w:World}:∀{l:List Value},(∀ v∈l,v.oneCell'=true)->HRL η ρ M w l ((l.map zto).map .dat)
 | [],_=>trivial
 | v::l,h=>⟨z8w (h v (by simp)),x6l (fun u hu=>h u (by simp [hu]))⟩
theorem vte {o:Oper} {J:List SV} {η:List SB} {T:TypeId} {d nb:Nat} (ho:o.op=.alloc T) (hdst:o.dst=some d) {ti:TI} (hti:mkTI P T=some ti) (hroom:wo7 η nb=true) :
 wpk Γ P o J η [d] [nb] [(d,.one (.ptr nb 0))] [(nb,.box (ti.zc.map .dat) (some T))]:=by
 refine wl9 hdst hroom (fun E ρ J' η' a w hag hah hI=>?_);obtain ⟨ds,i,z,hd,hi,hz,hsz,hby,hzs,hone,hzc,hsh⟩:=(vq6 hti).ex;refine ⟨z.cells.toList,?_,?_⟩
 . simp [execOp,ho,Instr.alloc,zef hi hz,newVar,newRow]
 . rw [hzc];exact x6l hone
theorem zea {o:Oper} {J:List SV} {η:List SB} {T:TypeId} {x:Operand} {d nb:Nat} (ho:o.op=.box T x) (hdst:o.dst=some d) {hs:List HC} (hcs:yg2 (opdS Γ J x)=some hs) (hroom:wo7 η nb=true) :
 wpk Γ P o J η (d::orr x) [nb] [(d,.one (.ptr nb 0))] [(nb,.box hs (some T))]:=by
 refine wl9 hdst hroom (fun E ρ J' η' a w hag hah hI=>?_);have h:=hI.opd x;rw [hag.opd (fun t ht=>by simp [ht])] at h;refine ⟨(a.eval x).cells.toList,?_,zvx hcs h⟩;simp [execOp,ho,Instr.box,newVar,newRow]
def w6z (ti:TI) (hs:List HC):Option SV:=
 match ti.many with
 | some true=>if ti.size<=hs.length then some (.agg (hs.take ti.size)) else none
 | some false=>match hs with
  | h::_=>some (.one h)
  | []=>none
 | none=>none
def seeH (η:List SB):SV->Option (List Nat×List HC)
 | .one (.ptr b off)=>match gB η b with
  | .box hs _=>some ([b],hs.drop off)
  | _=>none
 | .one (.pel b es i f)=>match gB η b with
  | .arr c _ _=>if c.esz=es then (c.at i f).map fun cs=>([b],cs.map .dat) else none
  | _=>none
 | .elt cs=>some ([],cs.map .dat)
 | _=>none
theorem wep {η:List SB} {b:Nat} {x:SB} (h:gB η b=x) (hx:x≠.dead):η[b]? = some x:=by
 unfold gB at h
 cases hb:η[b]? with
 | none=>rw [hb] at h;exact absurd h.symm hx
 | some y=>rw [hb] at h;exact congrArg some h
theorem RI.sbr {E:HEnv} {ρ:Nat->Value} {J:List SV} {η:List SB} {a:Act} {w:World} (h:RI Γ E ρ J η a w) {b:Nat} {x:SB} (hx:gB η b=x) (hd:x≠.dead):SBR η ρ (MX E.Mo ρ η) w (ρ b) x:=
 h.inv.blk b x (wep hx hd)
theorem x9h {w:World} {b:Nat} {vs q:List Value} {T:TypeId} (h:w.heap[b]? = some (.cells (vs++q).toArray T (0,0))) {j:Nat} {u:Value} (hj:vs[j]? = some u):w.cell? ⟨b,j,none⟩=some u:=by
 have hlt:=(List.getElem?_eq_some_iff.1 hj).1;simp only [World.cell?,h,Option.isSome_none,Bool.false_eq_true,if_false,List.getElem?_toArray];rw [List.getElem?_append_left hlt];exact hj
theorem vxe {E:HEnv} {ρ:Nat->Value} {J:List SV} {η:List SB} {a:Act} {w:World} (hI:RI Γ E ρ J η a w) {v:Value} {x:SV} {rh:List Nat} {hs:List HC} (hx:SVR η ρ (MX E.Mo ρ η) w v x) (h:seeH η x=some (rh,hs)) :
 ∃(b off:Nat) (vs:List Value),v=.pointer (some ⟨b,off,none⟩)/\(∀ j u,vs[j]? = some u->w.cell? ⟨b,off+j,none⟩=some u)/\HRL η ρ (MX E.Mo ρ η) w vs hs:=by
 unfold seeH at h;split at h
 . rename_i b off;split at h
   . rename_i hs' T hb
     cases h;obtain ⟨b',vs,T',e,hh,hr,_⟩:=hI.sbr hb (by simp);obtain ⟨_,rfl⟩:=hx;rw [e];exact ⟨b',off,vs.drop off,rfl,xh1 hh off,hr.drop off⟩
   . cases h
 . rename_i b es i f;split at h
   . rename_i c k T hb;split at h
     . rename_i hes;obtain ⟨cs,hat,e⟩:=Option.map_eq_some_iff.1 h
       cases e;obtain ⟨⟨hu,_⟩,h0⟩:=hI.sbr hb (by simp);obtain ⟨hi,r,hfl⟩:=Cell.vqx hu hat
       rcases h0 with ⟨h0,_⟩ | ⟨b',vs,q,T',e,hh,hr,_⟩
       . omega
       . obtain ⟨_,rfl⟩:=hx;rw [e];have hr':=hr.drop (i*c.esz+f);rw [hfl] at hr';have ht:=hr'.take cs.length;rw [List.take_left] at ht;refine ⟨b',i*es+f,(vs.drop (i*c.esz+f)).take cs.length,rfl,fun j u hj=>?_,RdD.hrl ht⟩;rw [List.getElem?_take] at hj;split at hj
         . rw [List.getElem?_drop] at hj;rw [<-hes];exact x9h hh hj
         . cases hj
     . cases h
   . cases h
 . rename_i cs
   cases h;obtain ⟨b,off,vs,rfl,hc,hr⟩:=hx;exact ⟨b,off,vs,rfl,fun j u hj=>(hc j u hj).2,RdD.hrl hr⟩
 . cases h
theorem run_load {T:TypeId} {ti:TI} (hti:TIok P T ti) {w:World} {b off:Nat} {vs:List Value} {η:List SB} {ρ:Nat->Value} {M:Nat->Nat->Prop} {hs:List HC} {x:SV}
 (hc:∀ j u,vs[j]? = some u->w.cell? ⟨b,off+j,none⟩=some u) (hr:HRL η ρ M w vs hs) (hl:w6z ti hs=some x) :
 ∃ v,(loadVar T ⟨b,off,none⟩).run P w=.ok v w/\SVR η ρ M w v x:=by
 unfold w6z at hl
 have hadd:∀ j,(⟨b,off,none⟩:Addr).add j=⟨b,off+j,none⟩:=fun j=>by unfold Addr.add;split<;>simp_all
 split at hl
 . rename_i hm;split at hl
   . rename_i hle
     cases hl;obtain ⟨d,i,z,hd,hi,hz,hsz,hby,hzs,hone,hzc,hsh⟩:=hti.ex;have hlen:=hr.length;refine ⟨.agg (vs.take ti.size).toArray,?_,⟨vs.take ti.size,rfl,hr.take _⟩⟩
     have hld:=run_loadCells_list (P:=P) w ⟨b,off,none⟩ (vs.take ti.size) (fun j u hj=>by
      rw [hadd];refine hc j u ?_;rw [List.getElem?_take] at hj;split at hj
      . exact hj
      . cases hj)
     have hlt:(vs.take ti.size).length=ti.size:=by rw [List.length_take];omega
     rw [hlt] at hld;unfold loadVar;simp only [Sem.run_bind,hti.vgd hm,Result.andThen_ok,if_true,zxp hi,hsz,hld,Sem.run_pure]
   . cases hl
 . rename_i hm;split at hl
   . rename_i c cs'
     cases hl
     cases vs with
     | nil=>exact hr.elim
     | cons v vs=>
      refine ⟨v,?_,hr.1⟩
      have:=hc 0 v rfl
      unfold loadVar;simp only [Sem.run_bind,hti.vgd hm,Result.andThen_ok,Bool.false_eq_true,if_false];simp only [Nat.add_zero] at this;simp [load,Sem.run,this]
   . cases hl
 . cases hl
theorem yy7 {η η':List SB} {x:SV} {rh:List Nat} {hs:List HC} (h:seeH η x=some (rh,hs)) (ha:∀ b∈rh,gB η' b=gB η b):seeH η' x=some (rh,hs):=by
 unfold seeH at h ⊢;split at h
 . rename_i b off
   have e:gB η' b=gB η b:=by
    split at h
    . cases h;exact ha b (by simp)
    . cases h
   simp only [e];exact h
 . rename_i b es i f
   have e:gB η' b=gB η b:=by
    split at h
    . split at h
      . obtain ⟨cs,hat,e⟩:=Option.map_eq_some_iff.1 h
        cases e;exact ha b (by simp)
      . cases h
    . cases h
   simp only [e];exact h
 . exact h
 . cases h
theorem v2s {o:Oper} {J:List SV} {η:List SB} {T:TypeId} {x:Operand} {d:Nat} (ho:o.op=.load T x) (hdst:o.dst=some d) {ti:TI} (hti:mkTI P T=some ti) {rh:List Nat} {hs:List HC} {v:SV}
 (hs':seeH η (opdS Γ J x)=some (rh,hs)) (hl:w6z ti hs=some v):wpk Γ P o J η (d::orr x) rh [(d,v)] []:=by
 refine wpk.pure hdst (fun E ρ J' η' a w hag hah hI=>?_);have hx:=hI.opd x;rw [hag.opd (fun t ht=>by simp [ht])] at hx;obtain ⟨b,off,vs,e,hc,hr⟩:=vxe hI hx (yy7 hs' (fun b hb=>hah.gB hb));obtain ⟨u,h1,h2⟩:=run_load (vq6 hti) hc hr hl;refine ⟨u,?_,h2⟩;simp [execOp,ho,Instr.loadAt,e,Instr.sureAddr,h1]
def yoy (η:List SB) (n:Nat) (x:SV) (us:List HC):Option (Nat×SB):=match x with
 | .one (.ptr b off)=>match gB η b with
  | .box hs T=>if off+n<=hs.length then some (b,.box (hs.take off++us++hs.drop (off+n)) T) else none
  | _=>none
 | .one (.pel b es i f)=>match gB η b with
  | .arr c 0 T=>if c.esz=es then match datL us with
   | some cs=>(c.upd i f cs).map fun c'=>(b,.arr c' 0 T)
   | none=>none
   else none
  | _=>none
 | _=>none
theorem zm3 {η η':List SB} {n:Nat} {x:SV} {us:List HC} {b:Nat} {y:SB} (h:yoy η n x us=some (b,y)) (ha:gB η' b=gB η b):yoy η' n x us=some (b,y):=by
 unfold yoy at h ⊢;split at h
 . rename_i b' off
   have e:b'=b:=by
    split at h
    . split at h<;>cases h;rfl
    . cases h
   subst e;simp only [ha];exact h
 . rename_i b' es i f
   have e:b'=b:=by
    split at h
    . split at h
      . split at h
        . obtain ⟨c',_,e⟩:=Option.map_eq_some_iff.1 h
          cases e;rfl
        . cases h
      . cases h
    . cases h
   subst e;simp only [ha];exact h
 . cases h
theorem zj2 {w:World} {b:Nat} {old cs:Array Value} {T:TypeId} {fz:Nat×Nat} (hb:w.heap[b]? = some (.cells old T fz)) (hsz:old.size<=cs.size):Grow w (w.setRow b cs):=fun i arr T' fz' hi=>by
 by_cases e:i=b
 . subst e;rw [hb] at hi;cases hi;exact ⟨cs,T,fz,setRow_heap w i _ cs T fz hb,hsz⟩
 . exact ⟨arr,T',fz',by rw [setRow_other w b i cs e];exact hi,Nat.le_refl _⟩
theorem za4 {o:Oper} {J:List SV} {η:List SB} {T:TypeId} {x y:Operand} (ho:o.op=.store T x y) (hdst:o.dst=none) {ti:TI} (hti:mkTI P T=some ti) {us:List HC} {b:Nat} {z:SB}
 (hu:yg2 (opdS Γ J y)=some us) (hlen:us.length=ti.size) (hst:yoy η ti.size (opdS Γ J x) us=some (b,z)):wpk Γ P o J η (orr x++orr y) [b] [] [(b,z)]:=by
 refine wpk.skip hdst (fun E ρ J' η' a w hag hah hI=>?_);have hx:=hI.opd x;have hy:=hI.opd y;rw [hag.opd (fun t ht=>by simp [ht])] at hx hy;have hst:=zm3 hst (hah.gB (by simp));have hr:=zvx hu hy
 have hsz:(a.eval y).cells.size=ti.size:=by rw [<-hlen,<-hr.length];simp
 unfold yoy at hst;split at hst
 . rename_i b' off hxe;split at hst
   . rename_i hs T' hb;split at hst
     . rename_i hfit
       cases hst;rw [hxe] at hx;obtain ⟨bb,vs,Tb,e,hh,hrb,hT⟩:=hI.sbr hb (by simp);have hvl:=hrb.length;have hrun:=vnf (P:=P) (vq6 hti) hh hsz hr.ones (off:=off) (by omega);obtain ⟨_,hx⟩:=hx
       have hbk:bk (ρ b)=bb:=by rw [e];rfl
       rw [hbk] at hx;refine ⟨w.setRow bb (vs.take off++(a.eval y).cells.toList++vs.drop (off+ti.size)).toArray,ρ,?_,Went.write hI.inv (wep hb (by simp)) rfl (by rw [e];simp [real]) rfl (fun o=>Iff.rfl) (by simp [World.setRow]) rfl rfl rfl (fun k hk=>setRow_other w bb k _ (by rw [<-hbk];exact hk)) (zj2 hh ?_) (fun o u hm=>absurd trivial hm) (fun m=>?_)⟩
       . simp [execOp,ho,Instr.storeAt,hx,Instr.sureAddr,hrun]
       . simp only [List.size_toArray,List.length_append,List.length_take,List.length_drop,Array.length_toList];omega
       . refine ⟨bb,_,Tb,e,setRow_heap w bb _ _ Tb (0,0) hh,?_,hT⟩;exact (((hrb.take off).append hr).append (hrb.drop (off+ti.size))).mv m
     . cases hst
   . cases hst
 . rename_i b' es i f hxe;split at hst
   . rename_i c T' hb;split at hst
     . rename_i hes;subst hes;split at hst
       . rename_i cs hcs;obtain ⟨c',hupd,e⟩:=Option.map_eq_some_iff.1 hst
         cases e;rw [hxe] at hx;obtain ⟨⟨hun,_⟩,h0⟩:=hI.sbr hb (by simp);obtain ⟨hun',hcnt,hesz,hfit,hflat⟩:=Cell.zhm hun hupd;have hrd:=HRL.dat hr hcs;have hcl:=hrd.length
         have hcl2:cs.length=ti.size:=by rw [<-hcl];simpa using hsz
         rcases h0 with ⟨h0,_⟩ | ⟨bb,vs,q,Tb,e,hh,hrb,hT⟩
         . exfalso;unfold Cell.upd at hupd;split at hupd
           . split at hupd
             . split at hupd
               . rename_i hc;simp [Cell.cnt] at h0;simp [h0] at hc
               . cases hupd
             . cases hupd
           . split at hupd
             . rename_i hc;simp [Cell.cnt] at h0;simp [h0] at hc
             . cases hupd
           . cases hupd
         . have hvl:=hrb.length;have hfl:=Cell.z4l hun;obtain ⟨_,hx⟩:=hx
           have hbk:bk (ρ b)=bb:=by rw [e];rfl
           rw [hbk] at hx;have hrun:=vnf (P:=P) (vq6 hti) hh hsz hr.ones (off:=i*c.esz+f) (by simp only [List.length_append];omega);refine ⟨w.setRow bb ((vs++q).take (i*c.esz+f)++(a.eval y).cells.toList++(vs++q).drop (i*c.esz+f+ti.size)).toArray,ρ,?_,Went.write hI.inv (wep hb (by simp)) rfl (by rw [e];simp [real]) rfl (fun o=>Iff.rfl) (by simp [World.setRow]) rfl rfl rfl (fun k hk=>setRow_other w bb k _ (by rw [<-hbk];exact hk)) (zj2 hh ?_) (fun o u hm=>absurd (Nat.zero_le o) hm) (fun m=>?_)⟩
           . simp [execOp,ho,Instr.storeAt,hx,Instr.sureAddr,hrun]
           . have:=hcl2
             simp only [List.size_toArray,List.length_append,List.length_take,List.length_drop,Array.length_toList];omega
           . have hsplit:(vs++q).take (i*c.esz+f)++(a.eval y).cells.toList++(vs++q).drop (i*c.esz+f+ti.size)=(vs.take (i*c.esz+f)++(a.eval y).cells.toList++vs.drop (i*c.esz+f+ti.size))++q:=by
              rw [List.take_append_of_le_length (by omega),List.drop_append_of_le_length (by omega)];simp [List.append_assoc]
             refine ⟨⟨hun',Nat.zero_le _⟩,.inr ⟨bb,_,q,Tb,e,by rw [setRow_heap w bb _ _ Tb (0,0) hh,hsplit],?_,hT⟩⟩;rw [hflat]
             have:=((hrb.take (i*c.esz+f)).append hrd).append (hrb.drop (i*c.esz+f+ti.size))
             rw [hcl2];exact this.keep m.keep
       . cases hst
     . cases hst
   . cases hst
 . cases hst
def z1z (x:SV) (off:Nat):Option SV:=match x with
 | .one (.ptr b o)=>some (.one (.ptr b (o+off)))
 | .one (.pel b es i f)=>some (.one (.pel b es i (f+off)))
 | .elt cs=>some (.elt (cs.drop off))
 | _=>none
theorem xq6 {o:Oper} {J:List SV} {η:List SB} {S:TypeId} {x:Operand} {f d:Nat} (ho:o.op=.fieldAddr S x f) (hdst:o.dst=some d) {ti:TI} (hti:mkTI P S=some ti) {fs:List (Nat×Nat×TypeId)} (hs:ti.sh=.struct fs)
 {off sz:Nat} {ft:TypeId} (hf:fs[f]? = some (off,sz,ft)) {v:SV} (h:z1z (opdS Γ J x) off=some v):wpk Γ P o J η (d::orr x) [] [(d,v)] []:=by
 refine wpk.pure hdst (fun E ρ J' η' a w hag hah hI=>?_);have hx:=hI.opd x;rw [hag.opd (fun t ht=>by simp [ht])] at hx
 have key:∀ b oo,a.eval x=.pointer (some ⟨b,oo,none⟩)->(execOp a.eval o).run P w=.ok (.value (.pointer (some ⟨b,oo+off,none⟩))) w:=fun b oo e=>by
  have:=yb5 (P:=P) (vq6 hti) hs hf w b oo
  simp [execOp,ho,e,this]
 unfold z1z at h;split at h
 . rename_i b oo e
   cases h;rw [e] at hx;exact ⟨_,key _ _ hx.2,hx.1,rfl⟩
 . rename_i b es i ff e
   cases h;rw [e] at hx;exact ⟨_,key _ _ hx.2,hx.1,by rw [Nat.add_assoc]⟩
 . rename_i cs e
   cases h;rw [e] at hx;obtain ⟨b,oo,vs,hv,hc,hr⟩:=hx;refine ⟨_,key _ _ hv,b,oo+off,vs.drop off,rfl,fun j u hj=>?_,hr.drop off⟩;rw [List.getElem?_drop] at hj
   have:=hc (off+j) u hj
   rw [show oo+off+j=oo+(off+j) by omega];exact this
 . cases h
def v50 (sh:Sh) (x y:SV):Option SV:=match y with
 | .one (.dat (.raw (.int _ n)))=>if 0<=n then match sh with
  | .slice _ es _ _=>match x with
   | .one (.sl b es' lo k)=>if es=es'/\n.toNat<k then some (.one (.pel b es (lo+n.toNat) 0)) else none
   | _=>none
  | .array m _ es=>match x with
   | .one (.ptr b o)=>if n.toNat<m/\es≠0 then some (.one (.ptr b (o+n.toNat*es))) else none
   | .elt cs=>if n.toNat<m/\es≠0 then some (.elt (cs.drop (n.toNat*es))) else none
   | _=>none
  | _=>none
  else none
 | _=>none
theorem vn8 {o:Oper} {J:List SV} {η:List SB} {T:TypeId} {x y:Operand} {d:Nat} (ho:o.op=.indexAddr T x y) (hdst:o.dst=some d) {ti:TI} (hti:mkTI P T=some ti) {v:SV}
 (h:v50 ti.sh (opdS Γ J x) (opdS Γ J y)=some v):wpk Γ P o J η (d::(orr x++orr y)) [] [(d,v)] []:=by
 refine wpk.pure hdst (fun E ρ J' η' a w hag hah hI=>?_);have hx:=hI.opd x;have hy:=hI.opd y;rw [hag.opd (fun t ht=>by simp [ht])] at hx hy;have hok:=vq6 hti;unfold v50 at h;split at h
 . rename_i kk n ey;rw [ey] at hy;have hye:a.eval y=.int kk n:=RdC.xbx hy;split at h
   . rename_i h0;split at h
     . rename_i e es eb ik hsh;split at h
       . rename_i b es' lo k ex;split at h
         . rename_i hc;obtain ⟨rfl,hn⟩:=hc
           cases h;rw [ex] at hx;obtain ⟨hob,ad,cap,hv,hle,hcap⟩:=hx;obtain ⟨_,had,_⟩:=hcap (by omega);subst had;refine ⟨.pointer (some ⟨bk (ρ b),(lo+n.toNat)*es+0,none⟩),?_,hob,rfl⟩
           have:=Slot.run_indexAt_slice (P:=P) hok hsh w (bk (ρ b)) (lo*es) k cap kk n h0 hn
           simp only [execOp,ho,hv,hye];rw [show (lo+n.toNat)*es+0=lo*es+n.toNat*es by rw [Nat.add_mul];omega];simp [this]
         . cases h
       . cases h
     . rename_i m e es hsh;obtain ⟨dd,i,z,hd,hi,hz,hsz',hby,hzs,hone,hzc,hsh'⟩:=hok.ex;obtain ⟨rfl,hes⟩:=v8s (hsh'.symm.trans hsh)
       have key:∀ b oo,a.eval x=.pointer (some ⟨b,oo,none⟩)->n.toNat<m->es≠0->(execOp a.eval o).run P w=.ok (.value (.pointer (some ⟨b,oo+n.toNat*es,none⟩))) w:=fun b oo e1 hn hes0=>by
        have hlt:n<(m:Int):=by omega
        obtain ⟨j,hj,hjs⟩:=y01 (P:=P) (t:=e) (by rw [<-hes];exact hes0);simp only [execOp,ho,e1,hye];unfold Instr.indexAt;simp [asIntOf,zp8 hd,h0,hlt,Instr.sureAddr,zxp hj,hjs,hes,ydc]
       split at h
       . rename_i b oo ex;split at h
         . rename_i hc
           cases h;rw [ex] at hx;exact ⟨_,key _ _ hx.2 hc.1 hc.2,hx.1,rfl⟩
         . cases h
       . rename_i cs ex;split at h
         . rename_i hc
           cases h;rw [ex] at hx;obtain ⟨b,oo,vs,hv,hcc,hr⟩:=hx;refine ⟨_,key _ _ hv hc.1 hc.2,b,oo+n.toNat*es,vs.drop (n.toNat*es),rfl,fun j u hj=>?_,hr.drop _⟩;rw [List.getElem?_drop] at hj
           have:=hcc (n.toNat*es+j) u hj
           rw [show oo+n.toNat*es+j=oo+(n.toNat*es+j) by omega];exact this
         . cases h
       . cases h
     . cases h
   . cases h
 . cases h
def vj0 (x:SV) (n:Nat):Option SV:=match x with
 | .tup l=>l[n]?
 | _=>none
theorem yrg {o:Oper} {J:List SV} {η:List SB} {x:Operand} {n d:Nat} (ho:o.op=.extract x n) (hdst:o.dst=some d) {v:SV} (h:vj0 (opdS Γ J x) n=some v):wpk Γ P o J η (d::orr x) [] [(d,v)] []:=by
 refine wpk.pure hdst (fun E ρ J' η' a w hag hah hI=>?_);have hx:=hI.opd x;rw [hag.opd (fun t ht=>by simp [ht])] at hx;unfold vj0 at h;split at h
 . rename_i l e;rw [e] at hx;obtain ⟨vs,hv,hr⟩:=hx;obtain ⟨u,h1,h2⟩:=hr.get n v h;refine ⟨u,?_,SVR.of0 h2⟩;simp [execOp,ho,hv,Instr.extract,h1]
 . cases h
def ptrH:SV->Bool
 | .one (.ptr _ _) | .one (.pel _ _ _ _) | .elt _=>true
 | _=>false
theorem wc0 {o:Oper} {J:List SV} {η:List SB} {x:Operand} {d:Nat} (ho:o.op=.nilCheck x) (hdst:o.dst=some d) (h:ptrH (opdS Γ J x)=true):wpk Γ P o J η (d::orr x) [] [(d,opdS Γ J x)] []:=by
 refine wpk.pure hdst (fun E ρ J' η' a w hag hah hI=>?_);have hx:=hI.opd x;rw [hag.opd (fun t ht=>by simp [ht])] at hx
 have hv:∃ ad,a.eval x=.pointer (some ad):=by
  generalize opdS Γ J x=s at h hx;unfold ptrH at h;split at h
  . exact ⟨_,hx.2⟩
  . exact ⟨_,hx.2⟩
  . obtain ⟨b,oo,vs,e,_⟩:=hx;exact ⟨_,e⟩
  . cases h
 obtain ⟨ad,hv⟩:=hv;exact ⟨a.eval x,by simp [execOp,ho,hv],hx⟩
def lenH (η:List SB) (sh:Sh):SV->Option (List Nat×Nat)
 | .one (.sl _ _ _ n)=>match sh with
  | .slice _ _ _ _=>some ([],n)
  | _=>none
 | .one (.mp b)=>match sh with
  | .map _ _=>match gB η b with
   | .map es=>some ([b],es.length)
   | _=>none
  | _=>none
 | _=>none
theorem EnR.length {η:List SB} {ρ:Nat->Value} {M:Nat->Nat->Prop} {w:World}:∀{es:List MapEntry} {l:List (Value×SV)},EnR η ρ M w es l->es.length=l.length
 | [],[],_=>rfl
 | _::_,_::_,h=>by simp [h.2.length]
theorem vay {d:TypeDesc} {k e:TypeId} (h:shOf P d=.map k e):d=.map k e:=by
 unfold shOf at h
 split at h<;>first | (cases h;done) | (cases h;rfl) | skip
 . split at h<;>cases h
 . split at h
   . split at h
     . split at h<;>cases h
     . cases h
   . cases h
theorem ziw {o:Oper} {b:Builtin} {ρ:Operand->Value} {xs:Array Operand} {ts:Array TypeId} (ho:o.op=.call { callee:=.builtin b,args:=xs,argTypes:=ts }) :
 execOp ρ o=builtin b ts o.type (xs.map fun | .const _=>true | _=>false) (xs.map ρ):=by
 unfold execOp;rw [ho];rfl
theorem w9c {o:Oper} {J:List SV} {η:List SB} {T:TypeId} {x:Operand} {d:Nat} (ho:o.op=.call { callee:=.builtin .len,args:=#[x],argTypes:=#[T] }) (hdst:o.dst=some d) {ti:TI} (hti:mkTI P T=some ti) {rh:List Nat} {n:Nat}
 (h:lenH η ti.sh (opdS Γ J x)=some (rh,n)):wpk Γ P o J η (d::orr x) rh [(d,.one (.dat (.raw (.int .i64 (n:Int)))))] []:=by
 refine wpk.pure hdst (fun E ρ J' η' a w hag hah hI=>⟨_,?_,RdC.raw rfl⟩);have hx:=hI.opd x;rw [hag.opd (fun t ht=>by simp [ht])] at hx;have hok:=vq6 hti;unfold lenH at h;split at h
 . rename_i b es lo k e;split at h
   . rename_i e' es' eb ik hsh
     cases h;rw [e] at hx;obtain ⟨_,ad,cap,hv,_⟩:=hx;have hrun:=Slot.run_len_slice (P:=P) hok hsh o.type ad n cap w;rw [ziw ho,show (#[x]:Array Operand).map a.eval=#[a.eval x] from by simp]
     have:∀ cs,(builtin .len #[T] o.type cs #[a.eval x]).run P w=.ok (.value (.int .i64 n)) w:=fun cs=>by
      rw [hv];simp only [builtin,Sem.run_bind,hrun];rfl
     exact this _
   . cases h
 . rename_i b e;split at h
   . rename_i k ee hsh;split at h
     . rename_i es hb
       cases h;rw [e] at hx
       have hb':gB η' b=.map es:=by rw [hah.gB (by simp)];exact hb
       obtain ⟨bb,ents,clk,he,hh,hen,_⟩:=hI.sbr hb' (by simp);obtain ⟨dd,i,z,hd,hi,hz,hsz',hby,hzs,hone,hzc,hsh'⟩:=hok.ex;have hmap:=vay (hsh'.symm.trans hsh);subst hmap;have hl:=hen.length
       have hv:a.eval x=.map (some bb):=by rw [hx.2.1,he]
       rw [ziw ho,show (#[x]:Array Operand).map a.eval=#[a.eval x] from by simp]
       have:∀ cs,(builtin .len #[T] o.type cs #[a.eval x]).run P w=.ok (.value (.int .i64 es.length)) w:=fun cs=>by
        rw [hv];rw [<-hl];simp [builtin,Builtin.len_,zp8 hd,getObj,Sem.run,hh,goInt]
       exact this _
     . cases h
   . cases h
 . cases h
def natH:SV->Option Nat
 | .one (.dat (.raw (.int _ n)))=>if 0<=n then some n.toNat else none
 | _=>none
def vgo (Γ:List (Nat×List Cell)) (J:List SV) (d:Nat):Option Operand->Option Nat
 | none=>some d
 | some x=>natH (opdS Γ J x)
theorem ylr {η:List SB} {ρ:Nat->Value} {M:Nat->Nat->Prop} {w:World} {v:Value} {x:SV} {n:Nat} (h:SVR η ρ M w v x) (hn:natH x=some n):∃ k,v=.int k n:=by
 unfold natH at hn;split at hn
 . rename_i k m;split at hn
   . rename_i h0
     cases hn;refine ⟨k,?_⟩;rw [RdC.xbx h];rw [Int.toNat_of_nonneg h0]
   . cases hn
 . cases hn
def x84 (Γ:List (Nat×List Cell)) (J:List SV) (sh:Sh) (x:SV) (lo hi:Option Operand):Option SV:=match sh,x with
 | .slice _ es _ _,.one (.sl b es' l0 n)=>match vgo Γ J 0 lo,vgo Γ J n hi with
  | some l,some h=>if es=es'/\l<=h/\h<=n then some (.one (.sl b es (l0+l) (h-l))) else none
  | _,_=>none
 | _,_=>none
theorem wxe {o:Oper} {J:List SV} {η:List SB} {T:TypeId} {x:Operand} {lo hi:Option Operand} {d:Nat} (ho:o.op=.slice T x lo hi none) (hdst:o.dst=some d) {ti:TI} (hti:mkTI P T=some ti) {v:SV}
 (h:x84 Γ J ti.sh (opdS Γ J x) lo hi=some v):wpk Γ P o J η (d::(orr x++orrO lo++orrO hi)) [] [(d,v)] []:=by
 refine wpk.pure hdst (fun E ρ J' η' a w hag hah hI=>?_);have hx:=hI.opd x;rw [hag.opd (fun t ht=>by simp [ht])] at hx;have hok:=vq6 hti;unfold x84 at h;split at h
 . rename_i e es eb ik b es' l0 n hsh ex;split at h
   . rename_i l hh hl hh';split at h
     . rename_i hc;obtain ⟨rfl,h1,h2⟩:=hc
       cases h;rw [ex] at hx;obtain ⟨hob,ad,cap,hv,hle,hcap⟩:=hx;obtain ⟨dd,i,z,hd,hi',hz,hsz',hby,hzs,hone,hzc,hsh'⟩:=hok.ex;obtain ⟨rfl,j,z',hj,_,hjs,_,hes0,_⟩:=xhf (hsh'.symm.trans hsh)
       have hlo:match (lo.map a.eval) with | none=>l=0 | some v=>∃ k,v=.int k l:=by
        cases lo with
        | none=>simp only [vgo,Option.some.injEq] at hl;exact hl.symm
        | some y=>
         have hy:=hI.opd y;rw [hag.opd (fun t ht=>by simp [orrO,ht])] at hy;exact ylr hy hl
       have hhi:match (hi.map a.eval) with | none=>hh=n | some v=>∃ k,v=.int k hh:=by
        cases hi with
        | none=>simp only [vgo,Option.some.injEq] at hh';exact hh'.symm
        | some y=>
         have hy:=hI.opd y;rw [hag.opd (fun t ht=>by simp [orrO,ht])] at hy;exact ylr hy hh'
       have hb:=wa1 (P:=P) (isS:=true) (len:=n) (cap:=cap) hlo hhi h1 (Nat.le_trans h2 hle) w;refine ⟨.slice (if cap=l then ad else ad.map (·.add (l*es))) (hh-l) (cap-l),?_,hob,_,_,rfl,by omega,fun h0=>?_⟩
       . cases ad with
         | none=>simp [execOp,ho,hv,Instr.sliceAt,zp8 hd,Instr.slice,hb,zxp hj,hjs]
         | some ad=>simp [execOp,ho,hv,Instr.sliceAt,zp8 hd,Instr.slice,hb,zxp hj,hjs]
       . obtain ⟨hre,had,arr,T',fz,hheap,hsz⟩:=hcap (by omega);subst had;refine ⟨hre,?_,arr,T',fz,hheap,?_⟩
         . rw [if_neg (by omega)];simp [ydc,Nat.add_mul]
         . rw [show l0+l+(cap-l)=l0+cap by omega];exact hsz
     . cases h
   . cases h
 . cases h
def frzB:SB->SB
 | .arr c _ T=>.arr c (c.cnt*c.esz) T
 | x=>x
def frzE (η:List SB) (bs:List Nat):List (Nat×SB):=bs.map fun b=>(b,frzB (gB η b))
def w9u:SB->Bool
 | .arr _ _ _=>true
 | _=>false
def subC (c:Cell) (lo n:Nat):Cell:=match lo==0&&n==c.cnt with
 | true=>c
 | false=>c.sub lo n
def yo0 (η:List SB):HC->Option (Cell×List Nat)
 | .dat c=>some (c,[])
 | .sl b es lo n=>match gB η b with
  | .arr c _ _=>if c.esz=es/\lo+n<=c.cnt then some (subC c lo n,[b]) else none
  | _=>none
 | _=>none
def ym9 (η:List SB):List HC->Option (List Cell×List Nat)
 | []=>some ([],[])
 | h::r=>match yo0 η h,ym9 η r with
  | some (c,bs),some (cs,bs')=>some (c::cs,bs++bs')
  | _,_=>none
theorem zzt {c:Cell} {lo n:Nat} (_h:lo+n<=c.cnt):(lo=0/\n=c.cnt/\subC c lo n=c)\/subC c lo n=c.sub lo n:=by
 unfold subC
 split
 . rename_i e;simp only [Bool.and_eq_true,beq_iff_eq] at e;exact .inl ⟨e.1,e.2,rfl⟩
 . exact .inr rfl
theorem vdj {M:Nat->Nat->Prop} {w:World} {b cap:Nat} {vs q:List Value} {T:TypeId} {c:Cell} (hb:w.heap[b]? = some (.cells (vs++q).toArray T (0,0))) (hr:RdD M w vs c.flat) (hu:c.uni)
 (hcap:c.cnt<=cap) (hM:∀ o,o<vs.length->¬M b o):RdC M w (.slice (some ⟨b,0,none⟩) c.cnt cap) c:=by
 cases c with
 | ints k l=>
  refine .ints b 0 rfl hcap (fun _=>rfl) (fun i hi=>?_);obtain ⟨v,hv,hrv⟩:=hr.get i (.raw (.int k l[i])) (by simp [Cell.flat,hi]);rw [RdC.xbx hrv] at hv;rw [Nat.zero_add];exact ⟨hM _ (List.getElem?_eq_some_iff.1 hv).1,x9h hb hv⟩
 | sl n rows=>
  have hu:∀ r∈rows,r.length=n:=hu
  have key:∀ i (hi:i<rows.length) j,j<n->∃ v,vs[i*n+j]? = some v/\∀ hj':j<rows[i].length,RdC M w v (rows[i][j]'hj'):=fun i hi j hj=>by
   have hlen:=hu _ (List.getElem_mem hi)
   obtain ⟨v,hv,hrv⟩:=hr.get (i*n+j) (rows[i][j]'(by omega)) (by
    simp only [Cell.flat];rw [ygz rows i j hu hi hj]
    have:rows.getD i []=rows[i]:=by simp [hi]
    rw [this]
    simp [hlen,hj])
   exact ⟨v,hv,fun _=>hrv⟩
  refine .sl b 0 (fun i j=>(vs[i*n+j]?).getD Go.undef) rfl hcap (fun _=>rfl) hu (fun i hi j hj=>?_) (fun i hi j hj=>?_)
  . obtain ⟨v,hv,_⟩:=key i hi j hj;rw [hv,Nat.zero_add];exact ⟨hM _ (List.getElem?_eq_some_iff.1 hv).1,x9h hb hv⟩
  . have hlen:=hu _ (List.getElem_mem hi);obtain ⟨v,hv,hrv⟩:=key i hi j (by omega);rw [hv];exact hrv hj
 | _=>exact hu.elim
theorem RdC.empty {M:Nat->Nat->Prop} {w:World} {ad:Option Addr} {cap:Nat} {c:Cell} (hu:c.uni) (h0:c.cnt=0):RdC M w (.slice ad 0 cap) c:=by
 cases c with
 | ints k l=>
  have:l=[]:=List.eq_nil_of_length_eq_zero h0
  subst this;exact .ints 0 0 rfl (Nat.zero_le _) (fun h=>absurd rfl h) (fun i hi=>absurd hi (by simp))
 | sl n rows=>
  have:rows=[]:=List.eq_nil_of_length_eq_zero h0
  subst this;exact .sl 0 0 (fun _ _=>Go.undef) rfl (Nat.zero_le _) (fun h=>absurd rfl h) (fun r hr=>by cases hr) (fun i hi=>absurd hi (by simp)) (fun i hi=>absurd hi (by simp))
 | _=>exact hu.elim
theorem Cell.xcz {c:Cell} (hu:c.uni) {lo n:Nat}:(c.sub lo n).uni:=by
 cases c with
 | ints k l=>trivial
 | sl m rows=>exact fun r hr=>hu r (List.mem_of_mem_drop (List.mem_of_mem_take hr))
 | _=>exact hu.elim
theorem Cell.yis {c:Cell} (hu:c.uni) {lo n:Nat} (h:lo+n<=c.cnt):(c.sub lo n).cnt=n:=by
 cases c with
 | ints k l=>simp [Cell.sub,Cell.cnt] at h ⊢;omega
 | sl m rows=>simp [Cell.sub,Cell.cnt] at h ⊢;omega
 | _=>exact hu.elim
theorem wqz {Mo:Nat->Nat->Prop} {ρ:Nat->Value} {η:List SB} {w:World} (h:HInv Γ Mo ρ η w) {b es lo n:Nat} {c:Cell} {T:Option TypeId} (hb:η[b]? = some (.arr c (c.cnt*c.esz) T)) (hes:c.esz=es) (hfit:lo+n<=c.cnt)
 {v:Value} (hv:HRd η ρ (MX Mo ρ η) w v (.sl b es lo n)):RdC (MX Mo ρ η) w v (subC c lo n):=by
 obtain ⟨⟨hu,_⟩,h0⟩:=h.blk b _ hb;obtain ⟨_,ad,cap,rfl,hle,hcap⟩:=hv;by_cases hc0:cap=0
 . have hn:n=0:=by omega
   subst hn
   rcases zzt hfit with ⟨h1,h2,h3⟩ | h3
   . rw [h3];exact RdC.empty hu h2.symm
   . rw [h3];exact RdC.empty (Cell.xcz hu) (Cell.yis hu hfit)
 . obtain ⟨hre,had,arr,T',fz,hheap,hsz⟩:=hcap hc0
   rcases h0 with ⟨_,e⟩ | ⟨bb,vs,q,T2,e,hh,hr,_⟩
   . exact absurd e hre
   . have hbk:bk (ρ b)=bb:=by rw [e];rfl
     have hfl:=Cell.z4l hu;have hvl:=hr.length
     have hM:∀ o,o<vs.length->¬MX Mo ρ η bb o:=fun o ho hm=>by
      rcases hm with hm | ⟨j,y,hj,hy,hrj,ej⟩
      . exact h.sep b _ hb rfl hre o (by rw [hbk];exact hm)
      . have hjb:=h.inj j b y _ hj hb (SB.wwj hy) rfl hrj hre (by rw [hbk];exact ej);subst hjb;rw [hb] at hj;cases hj
        have:c.cnt*c.esz<=o:=hy
        omega
     have hd:=vdj (cap:=max c.cnt cap) hh hr hu (Nat.le_max_left _ _) hM;rw [hbk] at had
     rcases zzt hfit with ⟨h1,h2,h3⟩ | h3
     . rw [h3]
       have:=RdC.sub hd hu (lo:=0) (n:=c.cnt) (cap':=cap) (ad:=ad) (by omega) (fun _=>by rw [had,h1];simp) (by omega)
       have hs:c.sub 0 c.cnt=c:=by
        cases c with
        | ints k l=>simp [Cell.sub,Cell.cnt]
        | sl m rows=>simp [Cell.sub,Cell.cnt]
        | _=>rfl
       rw [hs] at this;rw [h2];exact this
     . rw [h3];exact RdC.sub hd hu hfit (fun _=>by rw [had,hes,Nat.zero_add]) hle
theorem y3l {η:List SB} {b:Nat} {x:SB} (h:b<η.length):gB (η.set b x) b=x:=by simp [gB,h]
theorem xse {η:List SB} {b i:Nat} {x:SB} (h:i≠b):gB (η.set b x) i=gB η i:=by simp [gB,List.getElem?_set_ne (Ne.symm h)]
theorem y2l {α:Type}:∀(e:List (Nat×α)) (l:List α),(appL e l).length=l.length
 | [],_=>rfl
 | (i,x)::e,l=>by simp only [appL];rw [y2l e];simp
theorem Went.frz {Mo:Nat->Nat->Prop} {ρ:Nat->Value} {w:World} {η:List SB}:∀(bs:List Nat) (η1:List SB),HInv Γ Mo ρ η1 w->η1.length=η.length->(∀ b∈bs,w9u (gB η b)=true)->(∀ b,gB η1 b=gB η b\/gB η1 b=frzB (gB η b))->
 Went Γ Mo ρ η1 w ρ (appL (frzE η bs) η1) w/\(∀ b,gB (appL (frzE η bs) η1) b=gB η1 b\/gB (appL (frzE η bs) η1) b=frzB (gB η b))/\(∀ b∈bs,gB (appL (frzE η bs) η1) b=frzB (gB η b))
 | [],η1,h,_,_,_=>⟨Went.refl h,fun b=>.inl rfl,fun b hb=>by cases hb⟩
 | b::bs,η1,h,hl,ha,hg=>by
  have hab:=ha b (by simp)
  have hx:∃ c k T,gB η b=.arr c k T:=by
   generalize gB η b=y at hab
   cases y<;>first | exact ⟨_,_,_,rfl⟩ | cases hab
  obtain ⟨c,k,T,hx⟩:=hx
  have hf:frzB (gB η b)=.arr c (c.cnt*c.esz) T:=by rw [hx];rfl
  obtain ⟨k1,h1⟩:∃ k1,η1[b]? = some (.arr c k1 T):=by
   rcases hg b with e | e
   . exact ⟨k,wep (e.trans hx) (by simp)⟩
   . exact ⟨_,wep (e.trans hf) (by simp)⟩
  have hlt:b<η1.length:=(List.getElem?_eq_some_iff.1 h1).1;have hsbr:=h.blk b _ h1
  have hstep:Went Γ Mo ρ η1 w ρ (η1.set b (.arr c (c.cnt*c.esz) T)) w:=by
   refine Went.less h h1 (by simp) (fun _=>rfl) (fun o ho=>Nat.le_trans hsbr.1.2 ho) (fun m=>?_);obtain ⟨⟨hu,_⟩,h0⟩:=hsbr.mv m (fun _ _=>rfl);exact ⟨⟨hu,Nat.le_refl _⟩,h0⟩
  have hg':∀ i,gB (η1.set b (.arr c (c.cnt*c.esz) T)) i=gB η i\/gB (η1.set b (.arr c (c.cnt*c.esz) T)) i=frzB (gB η i):=fun i=>by
   by_cases e:i=b
   . subst e;rw [y3l hlt,hf];exact .inr rfl
   . rw [xse e];exact hg i
  obtain ⟨h3,h4,h5⟩:=Went.frz bs (η1.set b (.arr c (c.cnt*c.esz) T)) hstep.inv (by simp [hl]) (fun i hi=>ha i (by simp [hi])) hg'
  have he:appL (frzE η (b::bs)) η1=appL (frzE η bs) (η1.set b (.arr c (c.cnt*c.esz) T)):=by
   show appL ((b,frzB (gB η b))::frzE η bs) η1=_;rw [hf];rfl
  rw [he];refine ⟨hstep.trans h3,fun i=>?_,fun i hi=>?_⟩
  . rcases h4 i with e | e
    . by_cases e':i=b
      . subst e';rw [e,y3l hlt,hf];exact .inr rfl
      . rw [xse e'] at e;exact .inl e
    . exact .inr e
  . rcases List.mem_cons.1 hi with rfl | hi
    . rcases h4 i with e | e
      . rw [e,y3l hlt,hf]
      . exact e
    . exact h5 i hi
theorem xoq {η : List SB} {h : HC} {c : Cell} {bs : List Nat} (hd : yo0 η h = some (c, bs)) : ∀ b ∈ bs, w9u (gB η b) = true := by
 unfold yo0 at hd;split at hd
 . cases hd;intro b hb;cases hb
 . split at hd
   . rename_i c' k T hb;split at hd
     . cases hd;intro b hb';simp only [List.mem_singleton] at hb';subst hb';rw [hb];rfl
     . cases hd
   . cases hd
 . cases hd
theorem wy7 {η:List SB}:∀{hs:List HC} {cs:List Cell} {bs:List Nat},ym9 η hs=some (cs,bs)->∀ b∈bs,w9u (gB η b)=true
 | [],cs,bs,hd=>by cases hd;intro b hb;cases hb
 | h::hs,cs,bs,hd=>by
  simp only [ym9] at hd;split at hd
  . rename_i c bs1 cs2 bs2 h1 h2
    cases hd;intro b hb
    rcases List.mem_append.1 hb with hb | hb
    . exact xoq h1 b hb
    . exact wy7 h2 b hb
  . cases hd
theorem zpt {Mo : Nat → Nat → Prop} {ρ : Nat → Value} {η η' : List SB} {w : World} (h : HInv Γ Mo ρ η' w) {x : HC} {c : Cell} {bs : List Nat} (hd : yo0 η x = some (c, bs)) (hf : ∀ b ∈ bs, gB η' b = frzB (gB η b)) {v : Value}
 (hv:HRd η' ρ (MX Mo ρ η') w v x):RdC (MX Mo ρ η') w v c:=by
 unfold yo0 at hd;split at hd
 . cases hd;exact hv
 . rename_i b es lo n;split at hd
   . rename_i c' k T hb;split at hd
     . rename_i hc
       cases hd
       have:=hf b (by simp)
       rw [hb] at this;exact wqz h (wep this (by simp)) hc.1 hc.2 hv
     . cases hd
   . cases hd
 . cases hd
theorem vmp {Mo:Nat->Nat->Prop} {ρ:Nat->Value} {η η':List SB} {w:World} (h:HInv Γ Mo ρ η' w):∀{hs:List HC} {cs:List Cell} {bs:List Nat},ym9 η hs=some (cs,bs)->(∀ b∈bs,gB η' b=frzB (gB η b))->∀{vs:List Value},
 HRL η' ρ (MX Mo ρ η') w vs hs->RdD (MX Mo ρ η') w vs cs
 | [],cs,bs,hd,_,vs,hv=>by
  cases hd
  cases vs with
  | nil=>trivial
  | cons _ _=>exact hv.elim
 | x::hs,cs,bs,hd,hf,vs,hv=>by
  simp only [ym9] at hd;split at hd
  . rename_i c bs1 cs2 bs2 h1 h2
    cases hd
    cases vs with
    | nil=>exact hv.elim
    | cons v vs=>exact ⟨zpt h h1 (fun b hb=>hf b (by simp [hb])) hv.1,vmp h h2 (fun b hb=>hf b (by simp [hb])) hv.2⟩
  . cases hd
theorem xvg {η η' : List SB} {x : HC} {c : Cell} {bs : List Nat} (hd : yo0 η x = some (c, bs)) (ha : ∀ b ∈ bs, gB η' b = gB η b) : yo0 η' x = some (c, bs) := by
 unfold yo0 at hd ⊢;split at hd
 . exact hd
 . rename_i b es lo n
   have e:gB η' b=gB η b:=by
    split at hd
    . split at hd
      . cases hd;exact ha b (by simp)
      . cases hd
    . cases hd
   simp only [e];exact hd
 . cases hd
theorem zan {η η':List SB}:∀{hs:List HC} {cs:List Cell} {bs:List Nat},ym9 η hs=some (cs,bs)->(∀ b∈bs,gB η' b=gB η b)->ym9 η' hs=some (cs,bs)
 | [],cs,bs,hd,_=>hd
 | x::hs,cs,bs,hd,ha=>by
  simp only [ym9] at hd ⊢;split at hd
  . rename_i c bs1 cs2 bs2 h1 h2
    cases hd;rw [xvg h1 (fun b hb=>ha b (by simp [hb])),zan h2 (fun b hb=>ha b (by simp [hb]))]
  . cases hd
theorem vlv {η η':List SB}:∀{bs:List Nat},(∀ b∈bs,gB η' b=gB η b)->frzE η' bs=frzE η bs
 | [],_=>rfl
 | b::bs,ha=>by
  show (b,frzB (gB η' b))::frzE η' bs=(b,frzB (gB η b))::frzE η bs;rw [ha b (by simp),vlv (fun i hi=>ha i (by simp [hi]))]
theorem RI.frz {E:HEnv} {ρ:Nat->Value} {J:List SV} {η:List SB} {a:Act} {w:World} (h:RI Γ E ρ J η a w) {bs:List Nat} (ha:∀ b∈bs,w9u (gB η b)=true) :
 RI Γ E ρ J (appL (frzE η bs) η) a w/\∀ b∈bs,gB (appL (frzE η bs) η) b=frzB (gB η b):=by
 obtain ⟨h1,_,h3⟩:=Went.frz bs η h.inv rfl ha (fun _=>.inl rfl);exact ⟨h.go h1,h3⟩
end Go.Hp
