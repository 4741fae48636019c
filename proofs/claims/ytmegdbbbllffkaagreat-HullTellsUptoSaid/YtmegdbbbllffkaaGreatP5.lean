/- The proof, part P5: Hc, Hd, He, Hf, Hg, Hh. -/
import Derived.Test.YtmegdbbbllffkaaGreatP4
import Derived.Laws.StructEq
import Derived.Laws.NewFold
import Derived.MapKept
namespace Go.Hp
open Go Go.RowKit Go.Slot
variable {P:Program} {Γ:List (Nat×List Cell)}
variable {o:Oper} {I I':List SV} {J J':List SB} {rd rh bs:List Nat} {x y:Operand} {heff:List (Nat×SB)} {E:HEnv} {ρ:Nat->Value} {a:Act} {w:World} {av:AV} {nb b off lo cap es eb:Nat} {M Mo:Nat->Nat->Prop} {hs us:List HC} {T e kt et:TypeId} {ti te tk:TI} {vs q:List Value} {k k':Value} {parts:List (Nat×Operand)} {ik:Option IntKind}
theorem yvu.val {d:Nat} {x:SV} (hdst:o.dst=some d)
 (hrun:∀(E:HEnv) (ρ:Nat->Value) (I':List SV) (J':List SB) (a:Act) (w:World),agS rd I I'->agB rh J J'->RI Γ E ρ I' J' a w->
   ∃ v w' ρ',(execOp a.eval o).run P w=.ok (.value v) w'/\Went Γ E.Mo ρ J' w ρ' (appL heff J') w'/\SVR (appL heff J') ρ' (MX E.Mo ρ' (appL heff J')) w' v x):yvu Γ P o I J rd rh [(d,x)] heff:=by
 intro E ρ I' J' a w hag hah hI K Q hK;obtain ⟨v,w',ρ',hr,hw,hx⟩:=hrun E ρ I' J' a w hag hah hI;unfold Oper.wp;rw [hr];show K (a.put o.dst v) w';rw [hdst];exact hK _ _ ρ' ((hI.go hw).put hx)
theorem yvu.pure {d:Nat} {x:SV} (hdst:o.dst=some d)
 (hrun:∀(E:HEnv) (ρ:Nat->Value) (I':List SV) (J':List SB) (a:Act) (w:World),agS rd I I'->agB rh J J'->RI Γ E ρ I' J' a w->
   ∃ v,(execOp a.eval o).run P w=.ok (.value v) w/\SVR J' ρ (MX E.Mo ρ J') w v x):yvu Γ P o I J rd rh [(d,x)] []:=
 yvu.val hdst (fun E ρ I' J' a w hag hah hI=>by
  obtain ⟨v,h1,h2⟩:=hrun E ρ I' J' a w hag hah hI
  exact ⟨v,w,ρ,h1,Went.refl hI.inv,h2⟩)
theorem yvu.skip {o:Oper} {I:List SV} {J:List SB} {rd rh:List Nat} {heff:List (Nat×SB)} (hdst:o.dst=none)
 (hrun:∀(E:HEnv) (ρ:Nat->Value) (I':List SV) (J':List SB) (a:Act) (w:World),agS rd I I'->agB rh J J'->RI Γ E ρ I' J' a w->
   ∃ w' ρ',(execOp a.eval o).run P w=.ok .skip w'/\Went Γ E.Mo ρ J' w ρ' (appL heff J') w'):yvu Γ P o I J rd rh [] heff:=by
 intro E ρ I' J' a w hag hah hI K Q hK;obtain ⟨w',ρ',hr,hw⟩:=hrun E ρ I' J' a w hag hah hI;unfold Oper.wp;rw [hr];show K (a.put o.dst Go.undef) w';rw [hdst];exact hK _ _ ρ' (hI.go hw)
theorem agS.view (h:agS rd I I'):wwy rd (I.map vw) (I'.map vw):=
 ⟨by simp [h.1],fun r hr=>by rw [yy2,yy2,h.2 r hr]⟩
theorem RI.take {σv:List AV} (h:RI Γ E ρ I J a w) {d:Nat} (hvo:wjz o.op=true) (hdst:o.dst=some d) (hlt:d<I.length)
 (hst:yh6 P o σv rd [] [(d,av)]) (hag:wwy rd σv (I.map vw)) :
 ∃ v w' M' τ tm,(execOp a.eval o).run P w=.ok (.value v) w'/\Below w.heap.size w w'/\(∀ b o,MX E.Mo ρ J b o->M' b o)/\vi6 M' w' τ tm v av/\(av.vy8=true->av.fresh=true->w.heap.size<=blk v/\∀ o,M' (blk v) o):=by
 have hA:=hst (x1a h) (I.map vw) a w hag (by intro t ht;cases ht) ⟨_,_,h.old⟩ (fun a' w'=>Rel (x1a h) ((I.map vw).set d av) a' w') (fun _ _ _=>False) (fun a' w' hR=>hR);unfold Oper.wp at hA
 cases hr:(execOp a.eval o).run P w with
 | halt hh w'=>
  rw [hr] at hA
  cases hh<;>exact hA.elim
 | ok n w'=>
  obtain ⟨v,rfl⟩:=yv1 hvo hr;rw [hr] at hA;rw [Oper.upon_value,hdst] at hA;obtain ⟨τ,M',hI⟩:=hA
  have hd:((I.map vw).set d av)[d]? = some av:=by simp [hlt]
  have hs:=hI.slot d av hd
  have hlt':d<a.tmps.size:=by rw [h.hs];exact hlt
  have hself:(a.put (some d) v).tmps.getD d Go.undef=v:=by simp [Act.put,hlt']
  rw [hself] at hs;refine ⟨v,w',M',τ,_,rfl,⟨hI.os,hI.tape,hI.output,hI.size,fun k hk=>hI.frame k hk (fun hx=>hx)⟩,hI.m0,hs,fun hh hf=>?_⟩;have h1:=(hI.hold d av hd hh).2.2.1 hf;have h2:=(hI.hold d av hd hh).1;rw [hself] at h1 h2;exact ⟨h1,h2⟩
def av2 (nb:Nat):AV->Option (SV×Option SB)
 | .one c=>some (.one (.dat c.bare),none)
 | .agg cs=>some (.agg ((zcr cs).map .dat),none)
 | .elt cs=>some (.elt cs,none)
 | .any=>some (.any,none)
 | .arr [] c none=>some (.one (.sl nb c.esz 0 c.cnt),some (.arr c 0 none))
 | _=>none
theorem RdL.hrl {J:List SB} {ρ:Nat->Value} {M M':Nat->Nat->Prop} {w:World} {τ:Nat->TV} (hM:∀ b o,M b o->M' b o):∀{vs:List Value} {cs:List Cell},RdL M' w τ vs cs->HRL J ρ M w vs ((zcr cs).map .dat)
 | [],[],_=>trivial
 | _::_,_::_,h=>⟨(RdT.bare h.1).keep (ya3.shrink w hM),RdL.hrl hM h.2⟩
def oB (nb:Nat):Option SB->List (Nat×SB)
 | none=>[]
 | some x=>[(nb,x)]
def oN (nb:Nat):Option SB->List Nat
 | none=>[]
 | some _=>[nb]
def xvh (J:List SB) (nb:Nat):Bool:=match J[nb]? with
 | some .fresh=>true
 | _=>false
theorem z8o (h:xvh J nb=true):J[nb]? = some .fresh:=by
 unfold xvh at h;split at h
 . assumption
 . cases h
theorem agB.room (h:agB rh J J') (hb:nb∈rh) (hr:xvh J nb=true):J'[nb]? = some .fresh:=by
 rw [h.2 nb hb];exact z8o hr
def wmm (J:List SB) (nb:Nat):Option SB->Bool
 | none=>true
 | some _=>xvh J nb
theorem ytu {d:Nat} {x:SV} {ob:Option SB} (hvo:wjz o.op=true) (hdst:o.dst=some d) (hst:yh6 P o (I.map vw) rd [] [(d,av)])
 (hd:d<I.length) (h2:av2 nb av=some (x,ob)) (hroom:wmm J nb ob=true):yvu Γ P o I J rd (oN nb ob) [(d,x)] (oB nb ob):=by
 refine yvu.val hdst (fun E ρ I' J' a w hag hah hI=>?_);obtain ⟨v,w',M',τ,tm,hrun,hb,hM,hs,hf⟩:=hI.take hvo hdst (by rw [hag.1];exact hd) hst hag.view
 have plain:ob=none->SVR J' ρ (MX E.Mo ρ J') w' v x->∃ v w' ρ',(execOp a.eval o).run P w=.ok (.value v) w'/\Went Γ E.Mo ρ J' w ρ' (appL (oB nb ob) J') w'/\SVR (appL (oB nb ob) J') ρ' (MX E.Mo ρ' (appL (oB nb ob) J')) w' v x:=fun e hx=>by
  subst e;exact ⟨v,w',ρ,hrun,Went.below hI.inv hb,hx⟩
 unfold av2 at h2;split at h2
 . rename_i c
   cases h2;exact plain rfl ((RdT.bare hs).keep (ya3.shrink w' hM))
 . rename_i cs
   cases h2;obtain ⟨vs,e,hr⟩:=hs;exact plain rfl ⟨vs,e,RdL.hrl hM hr⟩
 . rename_i cs
   cases h2;obtain ⟨b,off,vs,e,hc,hr⟩:=hs;exact plain rfl ⟨b,off,vs,e,fun j u hj=>⟨fun hm=>(hc j u hj).1 (hM _ _ hm),(hc j u hj).2⟩,hr.keep (ya3.shrink w' hM)⟩
 . cases h2;exact plain rfl trivial
 . rename_i c
   cases h2;obtain ⟨b,T,vs,q,cap,rfl,hbk,hr,_,hu,hcap,hsz⟩:=hs;have hfr:=hah.room (show nb∈oN nb (some (SB.arr c 0 none)) by simp [oN]) hroom;have hge:w.heap.size<=b:=(hf rfl rfl).1;have hlt:nb<J'.length:=(List.getElem?_eq_some_iff.1 hfr).1;have hok:okB (J'.set nb (.arr c 0 none)) nb:=⟨_,by simp [hlt];rfl,by simp⟩;refine ⟨_,w',upd ρ nb (.pointer (some ⟨b,0,none⟩)),hrun,Went.new hI.inv hb hfr (by simp) (fun _ _=>hge) (fun _=>⟨⟨hu,Nat.zero_le _⟩,.inr ⟨b,vs,q,T,rfl,by simpa using hbk,hr.keep (ya3.shrink w' ?_),by simp⟩⟩),?_⟩
   . intro b' o' hm
     rcases hm with hm | ⟨i,y,hi,hy,hre,e⟩
     . exact hM _ _ (.inl hm)
     . rcases zr6 hi with ⟨rfl,rfl⟩ | ⟨hn,hi⟩
       . rw [vgt] at e;subst e;exact (hf rfl rfl).2 o'
       . rw [wl3 hn] at hre e;exact hM _ _ (.inr ⟨i,y,hi,hy,hre,e⟩)
   . refine ⟨hok,_,cap,rfl,hcap,fun _=>⟨by rw [vgt];simp [real],by rw [vgt];simp [bk,blk],_,T,_,by rw [vgt];exact hbk,?_⟩⟩;simpa using hsz
 . cases h2
theorem z4l {d:Nat} (ho:o.op=.move x\/o.op=.assign x) (hdst:o.dst=some d):yvu Γ P o I J (d::orr x) [] [(d,opdS Γ I x)] []:=by
 refine yvu.pure hdst (fun E ρ I' J' a w hag hah hI=>⟨a.eval x,?_,?_⟩)
 . rcases ho with ho | ho<;>simp [execOp,ho]
 . have:=hI.opd x
   rw [hag.opd (fun t ht=>by simp [ht])] at this;exact this
def y8q (c x y:SV):Option SV:=match c with
 | .one (.dat (.raw (.bool true)))=>some x
 | .one (.dat (.raw (.bool false)))=>some y
 | _=>none
theorem yjd {c:Operand} {d:Nat} (ho:o.op=.pick c x y) (hdst:o.dst=some d) {v:SV} (h:y8q (opdS Γ I c) (opdS Γ I x) (opdS Γ I y)=some v) :
 yvu Γ P o I J (d::(orr c++orr x++orr y)) [] [(d,v)] []:=by
 refine yvu.pure hdst (fun E ρ I' J' a w hag hah hI=>?_);have hc:=hI.opd c;have hx:=hI.opd x;have hy:=hI.opd y;rw [hag.opd (fun t ht=>by simp [ht])] at hc hx hy;unfold y8q at h;split at h
 . rename_i e;rw [e] at hc;have ec:a.eval c=.bool true:=RdC.zb6 hc
   cases h;exact ⟨a.eval x,by simp [execOp,ho,ec,asBool],hx⟩
 . rename_i e;rw [e] at hc;have ec:a.eval c=.bool false:=RdC.zb6 hc
   cases h;exact ⟨a.eval y,by simp [execOp,ho,ec,asBool],hy⟩
 . cases h
def ymo:SV->Option (List HC)
 | .one h=>some [h]
 | .agg hs=>some hs
 | _=>none
theorem v00 {v:Value} {x:SV} (hc:ymo x=some hs) (h:SVR J ρ M w v x):HRL J ρ M w v.cells.toList hs:=by
 cases x with
 | one c=>
  cases hc
  have h1:v.cells=#[v]:=by
   have:=HRd.one h
   cases v<;>first | rfl | cases this
  rw [h1];exact ⟨h,trivial⟩
 | agg cs=>cases hc;obtain ⟨vs,rfl,h⟩:=h;simpa [Value.cells] using h
 | _=>cases hc
theorem yaa {d:Nat} (hdst:o.dst=some d) (hroom:xvh J nb=true)
 (hrun:∀(E:HEnv) (ρ:Nat->Value) (I':List SV) (J':List SB) (a:Act) (w:World),agS rd I I'->agB (nb::rh) J J'->RI Γ E ρ I' J' a w->
   ∃ vs:List Value,(execOp a.eval o).run P w=.ok (.value (.pointer (some ⟨w.heap.size,0,none⟩))) (w.alloc (.cells vs.toArray T))/\HRL J' ρ (MX E.Mo ρ J') w vs hs) :
 yvu Γ P o I J rd (nb::rh) [(d,.one (.ptr nb 0))] [(nb,.box hs (some T))]:=by
 refine yvu.val hdst (fun E ρ I' J' a w hag hah hI=>?_);obtain ⟨vs,h1,h2⟩:=hrun E ρ I' J' a w hag hah hI;have hfr:=hah.room (by simp) hroom;have hlt:nb<J'.length:=(List.getElem?_eq_some_iff.1 hfr).1;have hb:Below w.heap.size w (w.alloc (.cells vs.toArray T)):=(Below.refl _ _).alloc (Nat.le_refl _) _;refine ⟨_,_,upd ρ nb (.pointer (some ⟨w.heap.size,0,none⟩)),h1,Went.new hI.inv hb hfr (by simp) (fun _ _=>Nat.le_refl _) (fun m=>⟨w.heap.size,vs,T,rfl,zuf w _,h2.mv m,fun t' ht=>by cases ht;rfl⟩),?_⟩;exact ⟨⟨_,by simp [appL,hlt];rfl,by simp⟩,by rw [vgt];rfl⟩
theorem xgi {J:List SB} {ρ:Nat->Value} {M:Nat->Nat->Prop} {w:World}:∀{l:List Value},(∀ v∈l,v.oneCell'=true)->HRL J ρ M w l ((l.map wqc).map .dat)
 | [],_=>trivial
 | v::l,h=>⟨yb5 (h v (by simp)),xgi (fun u hu=>h u (by simp [hu]))⟩
theorem vvs {d:Nat} (ho:o.op=.alloc T) (hdst:o.dst=some d) (hti:mkTI P T=some ti) (hroom:xvh J nb=true) :
 yvu Γ P o I J [d] [nb] [(d,.one (.ptr nb 0))] [(nb,.box (ti.zc.map .dat) (some T))]:=by
 refine yaa hdst hroom (fun E ρ I' J' a w hag hah hI=>?_);obtain ⟨ds,i,z,hd,hi,hz,hsz,hby,hzs,hone,hzc,hsh⟩:=(vnz hti).ex;refine ⟨z.cells.toList,?_,?_⟩
 . simp [execOp,ho,Instr.alloc,xt1 hi hz,newVar,newRow]
 . rw [hzc];exact xgi hone
theorem ww2 {d:Nat} (ho:o.op=.box T x) (hdst:o.dst=some d) (hcs:ymo (opdS Γ I x)=some hs) (hroom:xvh J nb=true) :
 yvu Γ P o I J (d::orr x) [nb] [(d,.one (.ptr nb 0))] [(nb,.box hs (some T))]:=by
 refine yaa hdst hroom (fun E ρ I' J' a w hag hah hI=>?_);have h:=hI.opd x;rw [hag.opd (fun t ht=>by simp [ht])] at h;refine ⟨(a.eval x).cells.toList,?_,v00 hcs h⟩;simp [execOp,ho,Instr.box,newVar,newRow]
def y05 (ti:TI) (hs:List HC):Option SV:=
 match ti.many with
 | some true=>if ti.size<=hs.length then some (.agg (hs.take ti.size)) else none
 | some false=>match hs with
  | h::_=>some (.one h)
  | []=>none
 | none=>none
def seeH (J:List SB):SV->Option (List Nat×List HC)
 | .one (.ptr b off)=>match gB J b with
  | .box hs _=>some ([b],hs.drop off)
  | _=>none
 | .one (.pel b es i f)=>match gB J b with
  | .arr c _ _=>if c.esz=es then (c.at i f).map fun cs=>([b],cs.map .dat) else none
  | _=>none
 | .elt cs=>some ([],cs.map .dat)
 | _=>none
theorem vil {x:SB} (h:gB J b=x) (hx:x≠.dead):J[b]? = some x:=by
 unfold gB at h
 cases hb:J[b]? with
 | none=>rw [hb] at h;exact absurd h.symm hx
 | some y=>rw [hb] at h;exact congrArg some h
theorem RI.sbr (h:RI Γ E ρ I J a w) {x:SB} (hx:gB J b=x) (hd:x≠.dead):SBR J ρ (MX E.Mo ρ J) w (ρ b) x:=
 h.inv.blk b x (vil hx hd)
theorem w02 (h:w.heap[b]? = some (.cells (vs++q).toArray T (0,0))) {j:Nat} {u:Value} (hj:vs[j]? = some u):w.cell? ⟨b,j,none⟩=some u:=by
 have hlt:=(List.getElem?_eq_some_iff.1 hj).1;simp only [World.cell?,h,Option.isSome_none,Bool.false_eq_true,if_false,List.getElem?_toArray];rw [List.getElem?_append_left hlt];exact hj
theorem xlq (hI:RI Γ E ρ I J a w) {v:Value} {x:SV} (hx:SVR J ρ (MX E.Mo ρ J) w v x) (h:seeH J x=some (rh,hs)) :
 ∃(b off:Nat) (vs:List Value),v=.pointer (some ⟨b,off,none⟩)/\(∀ j u,vs[j]? = some u->w.cell? ⟨b,off+j,none⟩=some u)/\HRL J ρ (MX E.Mo ρ J) w vs hs:=by
 unfold seeH at h;split at h
 . rename_i b off;split at h
   . rename_i hs' T hb
     cases h;obtain ⟨b',vs,T',e,hh,hr,_⟩:=hI.sbr hb (by simp);obtain ⟨_,rfl⟩:=hx;rw [e];exact ⟨b',off,vs.drop off,rfl,y2q hh off,hr.drop off⟩
   . cases h
 . rename_i b es i f;split at h
   . rename_i c k T hb;split at h
     . rename_i hes;obtain ⟨cs,hat,e⟩:=Option.map_eq_some_iff.1 h
       cases e;obtain ⟨⟨hu,_⟩,h0⟩:=hI.sbr hb (by simp);obtain ⟨hi,r,hfl⟩:=Cell.va2 hu hat
       rcases h0 with ⟨h0,_⟩ | ⟨b',vs,q,T',e,hh,hr,_⟩
       . omega
       . obtain ⟨_,rfl⟩:=hx;rw [e];have hr':=hr.drop (i*c.esz+f);rw [hfl] at hr';have ht:=hr'.take cs.length;rw [List.take_left] at ht;refine ⟨b',i*es+f,(vs.drop (i*c.esz+f)).take cs.length,rfl,fun j u hj=>?_,RdD.hrl ht⟩;rw [List.getElem?_take] at hj;split at hj
         . rw [List.getElem?_drop] at hj;rw [<-hes];exact w02 hh hj
         . cases hj
     . cases h
   . cases h
 . rename_i cs
   cases h;obtain ⟨b,off,vs,rfl,hc,hr⟩:=hx;exact ⟨b,off,vs,rfl,fun j u hj=>(hc j u hj).2,RdD.hrl hr⟩
 . cases h
theorem run_load (hti:TIok P T ti) {x:SV}
 (hc:∀ j u,vs[j]? = some u->w.cell? ⟨b,off+j,none⟩=some u) (hr:HRL J ρ M w vs hs) (hl:y05 ti hs=some x) :
 ∃ v,(loadVar T ⟨b,off,none⟩).run P w=.ok v w/\SVR J ρ M w v x:=by
 unfold y05 at hl
 have hadd:∀ j,(⟨b,off,none⟩:Addr).add j=⟨b,off+j,none⟩:=fun j=>by unfold Addr.add;split<;>simp_all
 split at hl
 . rename_i hm;split at hl
   . rename_i hle
     cases hl;obtain ⟨d,i,z,hd,hi,hz,hsz,hby,hzs,hone,hzc,hsh⟩:=hti.ex;have hlen:=hr.length;refine ⟨.agg (vs.take ti.size).toArray,?_,⟨vs.take ti.size,rfl,hr.take _⟩⟩
     have hld:=run_loadCells_list (P:=P) w ⟨b,off,none⟩ (vs.take ti.size) (fun j u hj=>by
      rw [hadd];refine hc j u ?_;rw [List.getElem?_take] at hj;split at hj
      . exact hj
      . cases hj)
     have hlt:(vs.take ti.size).length=ti.size:=by rw [List.length_take];omega
     rw [hlt] at hld;unfold loadVar;simp only [Sem.run_bind,hti.z1x hm,Result.andThen_ok,if_true,xvp hi,hsz,hld,Sem.run_pure]
   . cases hl
 . rename_i hm;split at hl
   . rename_i c cs'
     cases hl
     cases vs with
     | nil=>exact hr.elim
     | cons v vs=>
      refine ⟨v,?_,hr.1⟩
      have:=hc 0 v rfl
      unfold loadVar;simp only [Sem.run_bind,hti.z1x hm,Result.andThen_ok,Bool.false_eq_true,if_false];simp only [Nat.add_zero] at this;simp [load,Sem.run,this]
   . cases hl
 . cases hl
theorem vfa {x:SV} (h:seeH J x=some (rh,hs)) (ha:∀ b∈rh,gB J' b=gB J b):seeH J' x=some (rh,hs):=by
 unfold seeH at h ⊢;split at h
 . rename_i b off
   have e:gB J' b=gB J b:=by
    split at h
    . cases h;exact ha b (by simp)
    . cases h
   simp only [e];exact h
 . rename_i b es i f
   have e:gB J' b=gB J b:=by
    split at h
    . split at h
      . obtain ⟨cs,hat,e⟩:=Option.map_eq_some_iff.1 h
        cases e;exact ha b (by simp)
      . cases h
    . cases h
   simp only [e];exact h
 . exact h
 . cases h
theorem zls {d:Nat} (ho:o.op=.load T x) (hdst:o.dst=some d) (hti:mkTI P T=some ti) {v:SV}
 (hs':seeH J (opdS Γ I x)=some (rh,hs)) (hl:y05 ti hs=some v):yvu Γ P o I J (d::orr x) rh [(d,v)] []:=by
 refine yvu.pure hdst (fun E ρ I' J' a w hag hah hI=>?_);have hx:=hI.opd x;rw [hag.opd (fun t ht=>by simp [ht])] at hx;obtain ⟨b,off,vs,e,hc,hr⟩:=xlq hI hx (vfa hs' (fun b hb=>hah.gB hb));obtain ⟨u,h1,h2⟩:=run_load (vnz hti) hc hr hl;refine ⟨u,?_,h2⟩;simp [execOp,ho,Instr.loadAt,e,Instr.sureAddr,h1]
def ztk (J:List SB) (n:Nat) (x:SV) (us:List HC):Option (Nat×SB):=match x with
 | .one (.ptr b off)=>match gB J b with
  | .box hs T=>if off+n<=hs.length then some (b,.box (hs.take off++us++hs.drop (off+n)) T) else none
  | _=>none
 | .one (.pel b es i f)=>match gB J b with
  | .arr c 0 T=>if c.esz=es then match datL us with
   | some cs=>(c.upd i f cs).map fun c'=>(b,.arr c' 0 T)
   | none=>none
   else none
  | _=>none
 | _=>none
theorem v05 {n:Nat} {x:SV} {y:SB} (h:ztk J n x us=some (b,y)) (ha:gB J' b=gB J b):ztk J' n x us=some (b,y):=by
 unfold ztk at h ⊢;split at h
 . rename_i b' off
   have e:b'=b:=by
    split at h
    . split at h<;>cases h;rfl
    . cases h
   subst e;simp only [ha];exact h
 . rename_i b' es i f
   have e:b'=b:=by
    split at h
    . split at h
      . split at h
        . obtain ⟨c',_,e⟩:=Option.map_eq_some_iff.1 h
          cases e;rfl
        . cases h
      . cases h
    . cases h
   subst e;simp only [ha];exact h
 . cases h
theorem wuk {old cs:Array Value} {fz:Nat×Nat} (hb:w.heap[b]? = some (.cells old T fz)) (hsz:old.size<=cs.size):Grow w (w.setRow b cs):=fun i arr T' fz' hi=>by
 by_cases e:i=b
 . subst e;rw [hb] at hi;cases hi;exact ⟨cs,T,fz,setRow_heap w i _ cs T fz hb,hsz⟩
 . exact ⟨arr,T',fz',by rw [setRow_other w b i cs e];exact hi,Nat.le_refl _⟩
theorem vxy (ho:o.op=.store T x y) (hdst:o.dst=none) (hti:mkTI P T=some ti) {z:SB}
 (hu:ymo (opdS Γ I y)=some us) (hlen:us.length=ti.size) (hst:ztk J ti.size (opdS Γ I x) us=some (b,z)):yvu Γ P o I J (orr x++orr y) [b] [] [(b,z)]:=by
 refine yvu.skip hdst (fun E ρ I' J' a w hag hah hI=>?_);have hx:=hI.opd x;have hy:=hI.opd y;rw [hag.opd (fun t ht=>by simp [ht])] at hx hy;have hst:=v05 hst (hah.gB (by simp));have hr:=v00 hu hy
 have hsz:(a.eval y).cells.size=ti.size:=by rw [<-hlen,<-hr.length];simp
 unfold ztk at hst;split at hst
 . rename_i b' off hxe;split at hst
   . rename_i hs T' hb;split at hst
     . rename_i hfit
       cases hst;rw [hxe] at hx;obtain ⟨bb,vs,Tb,e,hh,hrb,hT⟩:=hI.sbr hb (by simp);have hvl:=hrb.length;have hrun:=y2r (P:=P) (vnz hti) hh hsz hr.ones (off:=off) (by omega);obtain ⟨_,hx⟩:=hx
       have hbk:bk (ρ b)=bb:=by rw [e];rfl
       rw [hbk] at hx;refine ⟨w.setRow bb (vs.take off++(a.eval y).cells.toList++vs.drop (off+ti.size)).toArray,ρ,?_,Went.write hI.inv (vil hb (by simp)) rfl (by rw [e];simp [real]) rfl (fun o=>Iff.rfl) (by simp [World.setRow]) rfl rfl rfl (fun k hk=>setRow_other w bb k _ (by rw [<-hbk];exact hk)) (wuk hh ?_) (fun o u hm=>absurd trivial hm) (fun m=>?_)⟩
       . simp [execOp,ho,Instr.storeAt,hx,Instr.sureAddr,hrun]
       . simp only [List.size_toArray,List.length_append,List.length_take,List.length_drop,Array.length_toList];omega
       . refine ⟨bb,_,Tb,e,setRow_heap w bb _ _ Tb (0,0) hh,?_,hT⟩;exact (((hrb.take off).append hr).append (hrb.drop (off+ti.size))).mv m
     . cases hst
   . cases hst
 . rename_i b' es i f hxe;split at hst
   . rename_i c T' hb;split at hst
     . rename_i hes;subst hes;split at hst
       . rename_i cs hcs;obtain ⟨c',hupd,e⟩:=Option.map_eq_some_iff.1 hst
         cases e;rw [hxe] at hx;obtain ⟨⟨hun,_⟩,h0⟩:=hI.sbr hb (by simp);obtain ⟨hun',hcnt,hesz,hfit,hflat⟩:=Cell.vf9 hun hupd;have hrd:=HRL.dat hr hcs;have hcl:=hrd.length
         have hcl2:cs.length=ti.size:=by rw [<-hcl];simpa using hsz
         rcases h0 with ⟨h0,_⟩ | ⟨bb,vs,q,Tb,e,hh,hrb,hT⟩
         . exfalso;unfold Cell.upd at hupd;split at hupd
           . split at hupd
             . split at hupd
               . rename_i hc;simp [Cell.cnt] at h0;simp [h0] at hc
               . cases hupd
             . cases hupd
           . split at hupd
             . rename_i hc;simp [Cell.cnt] at h0;simp [h0] at hc
             . cases hupd
           . cases hupd
         . have hvl:=hrb.length;have hfl:=Cell.ym0 hun;obtain ⟨_,hx⟩:=hx
           have hbk:bk (ρ b)=bb:=by rw [e];rfl
           rw [hbk] at hx;have hrun:=y2r (P:=P) (vnz hti) hh hsz hr.ones (off:=i*c.esz+f) (by simp only [List.length_append];omega);refine ⟨w.setRow bb ((vs++q).take (i*c.esz+f)++(a.eval y).cells.toList++(vs++q).drop (i*c.esz+f+ti.size)).toArray,ρ,?_,Went.write hI.inv (vil hb (by simp)) rfl (by rw [e];simp [real]) rfl (fun o=>Iff.rfl) (by simp [World.setRow]) rfl rfl rfl (fun k hk=>setRow_other w bb k _ (by rw [<-hbk];exact hk)) (wuk hh ?_) (fun o u hm=>absurd (Nat.zero_le o) hm) (fun m=>?_)⟩
           . simp [execOp,ho,Instr.storeAt,hx,Instr.sureAddr,hrun]
           . have:=hcl2
             simp only [List.size_toArray,List.length_append,List.length_take,List.length_drop,Array.length_toList];omega
           . have hsplit:(vs++q).take (i*c.esz+f)++(a.eval y).cells.toList++(vs++q).drop (i*c.esz+f+ti.size)=(vs.take (i*c.esz+f)++(a.eval y).cells.toList++vs.drop (i*c.esz+f+ti.size))++q:=by
              rw [List.take_append_of_le_length (by omega),List.drop_append_of_le_length (by omega)];simp [List.append_assoc]
             refine ⟨⟨hun',Nat.zero_le _⟩,.inr ⟨bb,_,q,Tb,e,by rw [setRow_heap w bb _ _ Tb (0,0) hh,hsplit],?_,hT⟩⟩;rw [hflat]
             have:=((hrb.take (i*c.esz+f)).append hrd).append (hrb.drop (i*c.esz+f+ti.size))
             rw [hcl2];exact this.keep m.keep
       . cases hst
     . cases hst
   . cases hst
 . cases hst
def ywi (x:SV) (off:Nat):Option SV:=match x with
 | .one (.ptr b o)=>some (.one (.ptr b (o+off)))
 | .one (.pel b es i f)=>some (.one (.pel b es i (f+off)))
 | .elt cs=>some (.elt (cs.drop off))
 | _=>none
theorem z6f {S:TypeId} {f d:Nat} (ho:o.op=.fieldAddr S x f) (hdst:o.dst=some d) (hti:mkTI P S=some ti) {fs:List (Nat×Nat×TypeId)} (hs:ti.sh=.struct fs)
 {sz:Nat} {ft:TypeId} (hf:fs[f]? = some (off,sz,ft)) {v:SV} (h:ywi (opdS Γ I x) off=some v):yvu Γ P o I J (d::orr x) [] [(d,v)] []:=by
 refine yvu.pure hdst (fun E ρ I' J' a w hag hah hI=>?_);have hx:=hI.opd x;rw [hag.opd (fun t ht=>by simp [ht])] at hx
 have key:∀ b oo,a.eval x=.pointer (some ⟨b,oo,none⟩)->(execOp a.eval o).run P w=.ok (.value (.pointer (some ⟨b,oo+off,none⟩))) w:=fun b oo e=>by
  have:=w2u (P:=P) (vnz hti) hs hf w b oo
  simp [execOp,ho,e,this]
 unfold ywi at h;split at h
 . rename_i b oo e
   cases h;rw [e] at hx;exact ⟨_,key _ _ hx.2,hx.1,rfl⟩
 . rename_i b es i ff e
   cases h;rw [e] at hx;exact ⟨_,key _ _ hx.2,hx.1,by rw [Nat.add_assoc]⟩
 . rename_i cs e
   cases h;rw [e] at hx;obtain ⟨b,oo,vs,hv,hc,hr⟩:=hx;refine ⟨_,key _ _ hv,b,oo+off,vs.drop off,rfl,fun j u hj=>?_,hr.drop off⟩;rw [List.getElem?_drop] at hj
   have:=hc (off+j) u hj
   rw [show oo+off+j=oo+(off+j) by omega];exact this
 . cases h
def z9d (sh:Sh) (x y:SV):Option SV:=match y with
 | .one (.dat (.raw (.int _ n)))=>if 0<=n then match sh with
  | .slice _ es _ _=>match x with
   | .one (.sl b es' lo k)=>if es=es'/\n.toNat<k then some (.one (.pel b es (lo+n.toNat) 0)) else none
   | _=>none
  | .array m _ es=>match x with
   | .one (.ptr b o)=>if n.toNat<m/\es≠0 then some (.one (.ptr b (o+n.toNat*es))) else none
   | .elt cs=>if n.toNat<m/\es≠0 then some (.elt (cs.drop (n.toNat*es))) else none
   | _=>none
  | _=>none
  else none
 | _=>none
theorem zh2 {d:Nat} (ho:o.op=.indexAddr T x y) (hdst:o.dst=some d) (hti:mkTI P T=some ti) {v:SV}
 (h:z9d ti.sh (opdS Γ I x) (opdS Γ I y)=some v):yvu Γ P o I J (d::(orr x++orr y)) [] [(d,v)] []:=by
 refine yvu.pure hdst (fun E ρ I' J' a w hag hah hI=>?_);have hx:=hI.opd x;have hy:=hI.opd y;rw [hag.opd (fun t ht=>by simp [ht])] at hx hy;have hok:=vnz hti;unfold z9d at h;split at h
 . rename_i kk n ey;rw [ey] at hy;have hye:a.eval y=.int kk n:=RdC.zb6 hy;split at h
   . rename_i h0;split at h
     . rename_i e es eb ik hsh;split at h
       . rename_i b es' lo k ex;split at h
         . rename_i hc;obtain ⟨rfl,hn⟩:=hc
           cases h;rw [ex] at hx;obtain ⟨hob,ad,cap,hv,hle,hcap⟩:=hx;obtain ⟨_,had,_⟩:=hcap (by omega);subst had;refine ⟨.pointer (some ⟨bk (ρ b),(lo+n.toNat)*es+0,none⟩),?_,hob,rfl⟩
           have:=Slot.run_indexAt_slice (P:=P) hok hsh w (bk (ρ b)) (lo*es) k cap kk n h0 hn
           simp only [execOp,ho,hv,hye];rw [show (lo+n.toNat)*es+0=lo*es+n.toNat*es by rw [Nat.add_mul];omega];simp [this]
         . cases h
       . cases h
     . rename_i m e es hsh;obtain ⟨dd,i,z,hd,hi,hz,hsz',hby,hzs,hone,hzc,hsh'⟩:=hok.ex;obtain ⟨rfl,hes⟩:=w3p (hsh'.symm.trans hsh)
       have key:∀ b oo,a.eval x=.pointer (some ⟨b,oo,none⟩)->n.toNat<m->es≠0->(execOp a.eval o).run P w=.ok (.value (.pointer (some ⟨b,oo+n.toNat*es,none⟩))) w:=fun b oo e1 hn hes0=>by
        have hlt:n<(m:Int):=by omega
        obtain ⟨j,hj,hjs⟩:=zbv (P:=P) (t:=e) (by rw [<-hes];exact hes0);simp only [execOp,ho,e1,hye];unfold Instr.indexAt;simp [asIntOf,voj hd,h0,hlt,Instr.sureAddr,xvp hj,hjs,hes,v1c]
       split at h
       . rename_i b oo ex;split at h
         . rename_i hc
           cases h;rw [ex] at hx;exact ⟨_,key _ _ hx.2 hc.1 hc.2,hx.1,rfl⟩
         . cases h
       . rename_i cs ex;split at h
         . rename_i hc
           cases h;rw [ex] at hx;obtain ⟨b,oo,vs,hv,hcc,hr⟩:=hx;refine ⟨_,key _ _ hv hc.1 hc.2,b,oo+n.toNat*es,vs.drop (n.toNat*es),rfl,fun j u hj=>?_,hr.drop _⟩;rw [List.getElem?_drop] at hj
           have:=hcc (n.toNat*es+j) u hj
           rw [show oo+n.toNat*es+j=oo+(n.toNat*es+j) by omega];exact this
         . cases h
       . cases h
     . cases h
   . cases h
 . cases h
def w9o (x:SV) (n:Nat):Option SV:=match x with
 | .tup l=>l[n]?
 | _=>none
theorem zyi {n d:Nat} (ho:o.op=.extract x n) (hdst:o.dst=some d) {v:SV} (h:w9o (opdS Γ I x) n=some v):yvu Γ P o I J (d::orr x) [] [(d,v)] []:=by
 refine yvu.pure hdst (fun E ρ I' J' a w hag hah hI=>?_);have hx:=hI.opd x;rw [hag.opd (fun t ht=>by simp [ht])] at hx;unfold w9o at h;split at h
 . rename_i l e;rw [e] at hx;obtain ⟨vs,hv,hr⟩:=hx;obtain ⟨u,h1,h2⟩:=hr.get n v h;refine ⟨u,?_,SVR.of0 h2⟩;simp [execOp,ho,hv,Instr.extract,h1]
 . cases h
def ptrH:SV->Bool
 | .one (.ptr _ _) | .one (.pel _ _ _ _) | .elt _=>true
 | _=>false
theorem v0d {d:Nat} (ho:o.op=.nilCheck x) (hdst:o.dst=some d) (h:ptrH (opdS Γ I x)=true):yvu Γ P o I J (d::orr x) [] [(d,opdS Γ I x)] []:=by
 refine yvu.pure hdst (fun E ρ I' J' a w hag hah hI=>?_);have hx:=hI.opd x;rw [hag.opd (fun t ht=>by simp [ht])] at hx
 have hv:∃ ad,a.eval x=.pointer (some ad):=by
  generalize opdS Γ I x=s at h hx;unfold ptrH at h;split at h
  . exact ⟨_,hx.2⟩
  . exact ⟨_,hx.2⟩
  . obtain ⟨b,oo,vs,e,_⟩:=hx;exact ⟨_,e⟩
  . cases h
 obtain ⟨ad,hv⟩:=hv;exact ⟨a.eval x,by simp [execOp,ho,hv],hx⟩
def lenH (J:List SB) (sh:Sh):SV->Option (List Nat×Nat)
 | .one (.sl _ _ _ n)=>match sh with
  | .slice _ _ _ _=>some ([],n)
  | _=>none
 | .one (.mp b)=>match sh with
  | .map _ _=>match gB J b with
   | .map es=>some ([b],es.length)
   | _=>none
  | _=>none
 | _=>none
theorem EnR.length {J:List SB} {ρ:Nat->Value} {M:Nat->Nat->Prop} {w:World}:∀{es:List MapEntry} {l:List (Value×SV)},EnR J ρ M w es l->es.length=l.length
 | [],[],_=>rfl
 | _::_,_::_,h=>by simp [h.2.length]
theorem vji {d:TypeDesc} {k:TypeId} (h:shOf P d=.map k e):d=.map k e:=by
 unfold shOf at h
 split at h<;>first | (cases h;done) | (cases h;rfl) | skip
 . split at h<;>cases h
 . split at h
   . split at h
     . split at h<;>cases h
     . cases h
   . cases h
theorem x6y {b:Builtin} {ρ:Operand->Value} {xs:Array Operand} {ts:Array TypeId} (ho:o.op=.call { callee:=.builtin b,args:=xs,argTypes:=ts }) :
 execOp ρ o=builtin b ts o.type (xs.map fun | .const _=>true | _=>false) (xs.map ρ):=by
 unfold execOp;rw [ho];rfl
theorem yg4 {d:Nat} (ho:o.op=.call { callee:=.builtin .len,args:=#[x],argTypes:=#[T] }) (hdst:o.dst=some d) (hti:mkTI P T=some ti) {n:Nat}
 (h:lenH J ti.sh (opdS Γ I x)=some (rh,n)):yvu Γ P o I J (d::orr x) rh [(d,.one (.dat (.raw (.int .i64 (n:Int)))))] []:=by
 refine yvu.pure hdst (fun E ρ I' J' a w hag hah hI=>⟨_,?_,RdC.raw rfl⟩);have hx:=hI.opd x;rw [hag.opd (fun t ht=>by simp [ht])] at hx;have hok:=vnz hti;unfold lenH at h;split at h
 . rename_i b es lo k e;split at h
   . rename_i e' es' eb ik hsh
     cases h;rw [e] at hx;obtain ⟨_,ad,cap,hv,_⟩:=hx;have hrun:=Slot.run_len_slice (P:=P) hok hsh o.type ad n cap w;rw [x6y ho,show (#[x]:Array Operand).map a.eval=#[a.eval x] from by simp]
     have:∀ cs,(builtin .len #[T] o.type cs #[a.eval x]).run P w=.ok (.value (.int .i64 n)) w:=fun cs=>by
      rw [hv];simp only [builtin,Sem.run_bind,hrun];rfl
     exact this _
   . cases h
 . rename_i b e;split at h
   . rename_i k ee hsh;split at h
     . rename_i es hb
       cases h;rw [e] at hx
       have hb':gB J' b=.map es:=by rw [hah.gB (by simp)];exact hb
       obtain ⟨bb,ents,clk,he,hh,hen⟩:=hI.sbr hb' (by simp);obtain ⟨dd,i,z,hd,hi,hz,hsz',hby,hzs,hone,hzc,hsh'⟩:=hok.ex;have hmap:=vji (hsh'.symm.trans hsh);subst hmap;have hl:=hen.length
       have hv:a.eval x=.map (some bb):=by rw [hx.2.1,he]
       rw [x6y ho,show (#[x]:Array Operand).map a.eval=#[a.eval x] from by simp]
       have:∀ cs,(builtin .len #[T] o.type cs #[a.eval x]).run P w=.ok (.value (.int .i64 es.length)) w:=fun cs=>by
        rw [hv];rw [<-hl];simp [builtin,Builtin.len_,voj hd,getObj,Sem.run,hh,goInt]
       exact this _
     . cases h
   . cases h
 . cases h
def natH:SV->Option Nat
 | .one (.dat (.raw (.int _ n)))=>if 0<=n then some n.toNat else none
 | _=>none
def wao (Γ:List (Nat×List Cell)) (I:List SV) (d:Nat):Option Operand->Option Nat
 | none=>some d
 | some x=>natH (opdS Γ I x)
theorem yy5 {v:Value} {x:SV} {n:Nat} (h:SVR J ρ M w v x) (hn:natH x=some n):∃ k,v=.int k n:=by
 unfold natH at hn;split at hn
 . rename_i k m;split at hn
   . rename_i h0
     cases hn;refine ⟨k,?_⟩;rw [RdC.zb6 h];rw [Int.toNat_of_nonneg h0]
   . cases hn
 . cases hn
def xvr (Γ:List (Nat×List Cell)) (I:List SV) (sh:Sh) (x:SV) (lo hi:Option Operand):Option SV:=match sh,x with
 | .slice _ es _ _,.one (.sl b es' l0 n)=>match wao Γ I 0 lo,wao Γ I n hi with
  | some l,some h=>if es=es'/\l<=h/\h<=n then some (.one (.sl b es (l0+l) (h-l))) else none
  | _,_=>none
 | _,_=>none
theorem ztf {lo hi:Option Operand} {d:Nat} (ho:o.op=.slice T x lo hi none) (hdst:o.dst=some d) (hti:mkTI P T=some ti) {v:SV}
 (h:xvr Γ I ti.sh (opdS Γ I x) lo hi=some v):yvu Γ P o I J (d::(orr x++orrO lo++orrO hi)) [] [(d,v)] []:=by
 refine yvu.pure hdst (fun E ρ I' J' a w hag hah hI=>?_);have hx:=hI.opd x;rw [hag.opd (fun t ht=>by simp [ht])] at hx;have hok:=vnz hti;unfold xvr at h;split at h
 . rename_i e es eb ik b es' l0 n hsh ex;split at h
   . rename_i l hh hl hh';split at h
     . rename_i hc;obtain ⟨rfl,h1,h2⟩:=hc
       cases h;rw [ex] at hx;obtain ⟨hob,ad,cap,hv,hle,hcap⟩:=hx;obtain ⟨dd,i,z,hd,hi',hz,hsz',hby,hzs,hone,hzc,hsh'⟩:=hok.ex;obtain ⟨rfl,j,z',hj,_,hjs,_,hes0,_⟩:=wqb (hsh'.symm.trans hsh)
       have hlo:match (lo.map a.eval) with | none=>l=0 | some v=>∃ k,v=.int k l:=by
        cases lo with
        | none=>simp only [wao,Option.some.injEq] at hl;exact hl.symm
        | some y=>
         have hy:=hI.opd y;rw [hag.opd (fun t ht=>by simp [orrO,ht])] at hy;exact yy5 hy hl
       have hhi:match (hi.map a.eval) with | none=>hh=n | some v=>∃ k,v=.int k hh:=by
        cases hi with
        | none=>simp only [wao,Option.some.injEq] at hh';exact hh'.symm
        | some y=>
         have hy:=hI.opd y;rw [hag.opd (fun t ht=>by simp [orrO,ht])] at hy;exact yy5 hy hh'
       have hb:=yip (P:=P) (isS:=true) (len:=n) (cap:=cap) hlo hhi h1 (Nat.le_trans h2 hle) w;refine ⟨.slice (if cap=l then ad else ad.map (·.add (l*es))) (hh-l) (cap-l),?_,hob,_,_,rfl,by omega,fun h0=>?_⟩
       . cases ad with
         | none=>simp [execOp,ho,hv,Instr.sliceAt,voj hd,Instr.slice,hb,xvp hj,hjs]
         | some ad=>simp [execOp,ho,hv,Instr.sliceAt,voj hd,Instr.slice,hb,xvp hj,hjs]
       . obtain ⟨hre,had,arr,T',fz,hheap,hsz⟩:=hcap (by omega);subst had;refine ⟨hre,?_,arr,T',fz,hheap,?_⟩
         . rw [if_neg (by omega)];simp [v1c,Nat.add_mul]
         . rw [show l0+l+(cap-l)=l0+cap by omega];exact hsz
     . cases h
   . cases h
 . cases h
def frzB:SB->SB
 | .arr c _ T=>.arr c (c.cnt*c.esz) T
 | x=>x
def frzE (J:List SB) (bs:List Nat):List (Nat×SB):=bs.map fun b=>(b,frzB (gB J b))
def vfv:SB->Bool
 | .arr _ _ _=>true
 | _=>false
def subC (c:Cell) (lo n:Nat):Cell:=match lo==0&&n==c.cnt with
 | true=>c
 | false=>c.sub lo n
def v9i (J:List SB):HC->Option (Cell×List Nat)
 | .dat c=>some (c,[])
 | .sl b es lo n=>match gB J b with
  | .arr c _ _=>if c.esz=es/\lo+n<=c.cnt then some (subC c lo n,[b]) else none
  | _=>none
 | _=>none
def yp0 (J:List SB):List HC->Option (List Cell×List Nat)
 | []=>some ([],[])
 | h::r=>match v9i J h,yp0 J r with
  | some (c,bs),some (cs,bs')=>some (c::cs,bs++bs')
  | _,_=>none
theorem xaa {c:Cell} {n:Nat} (_h:lo+n<=c.cnt):(lo=0/\n=c.cnt/\subC c lo n=c)\/subC c lo n=c.sub lo n:=by
 unfold subC
 split
 . rename_i e;simp only [Bool.and_eq_true,beq_iff_eq] at e;exact .inl ⟨e.1,e.2,rfl⟩
 . exact .inr rfl
theorem wio {c:Cell} (hb:w.heap[b]? = some (.cells (vs++q).toArray T (0,0))) (hr:RdD M w vs c.flat) (hu:c.uni)
 (hcap:c.cnt<=cap) (hM:∀ o,o<vs.length->¬M b o):RdC M w (.slice (some ⟨b,0,none⟩) c.cnt cap) c:=by
 cases c with
 | ints k l=>
  refine .ints b 0 rfl hcap (fun _=>rfl) (fun i hi=>?_);obtain ⟨v,hv,hrv⟩:=hr.get i (.raw (.int k l[i])) (by simp [Cell.flat,hi]);rw [RdC.zb6 hrv] at hv;rw [Nat.zero_add];exact ⟨hM _ (List.getElem?_eq_some_iff.1 hv).1,w02 hb hv⟩
 | sl n rows=>
  have hu:∀ r∈rows,r.length=n:=hu
  have key:∀ i (hi:i<rows.length) j,j<n->∃ v,vs[i*n+j]? = some v/\∀ hj':j<rows[i].length,RdC M w v (rows[i][j]'hj'):=fun i hi j hj=>by
   have hlen:=hu _ (List.getElem_mem hi)
   obtain ⟨v,hv,hrv⟩:=hr.get (i*n+j) (rows[i][j]'(by omega)) (by
    simp only [Cell.flat];rw [xma rows i j hu hi hj]
    have:rows.getD i []=rows[i]:=by simp [hi]
    rw [this]
    simp [hlen,hj])
   exact ⟨v,hv,fun _=>hrv⟩
  refine .sl b 0 (fun i j=>(vs[i*n+j]?).getD Go.undef) rfl hcap (fun _=>rfl) hu (fun i hi j hj=>?_) (fun i hi j hj=>?_)
  . obtain ⟨v,hv,_⟩:=key i hi j hj;rw [hv,Nat.zero_add];exact ⟨hM _ (List.getElem?_eq_some_iff.1 hv).1,w02 hb hv⟩
  . have hlen:=hu _ (List.getElem_mem hi);obtain ⟨v,hv,hrv⟩:=key i hi j (by omega);rw [hv];exact hrv hj
 | _=>exact hu.elim
theorem RdC.empty {ad:Option Addr} {c:Cell} (hu:c.uni) (h0:c.cnt=0):RdC M w (.slice ad 0 cap) c:=by
 cases c with
 | ints k l=>
  have:l=[]:=List.eq_nil_of_length_eq_zero h0
  subst this;exact .ints 0 0 rfl (Nat.zero_le _) (fun h=>absurd rfl h) (fun i hi=>absurd hi (by simp))
 | sl n rows=>
  have:rows=[]:=List.eq_nil_of_length_eq_zero h0
  subst this;exact .sl 0 0 (fun _ _=>Go.undef) rfl (Nat.zero_le _) (fun h=>absurd rfl h) (fun r hr=>by cases hr) (fun i hi=>absurd hi (by simp)) (fun i hi=>absurd hi (by simp))
 | _=>exact hu.elim
theorem Cell.vwk {c:Cell} (hu:c.uni) {n:Nat}:(c.sub lo n).uni:=by
 cases c with
 | ints k l=>trivial
 | sl m rows=>exact fun r hr=>hu r (List.mem_of_mem_drop (List.mem_of_mem_take hr))
 | _=>exact hu.elim
theorem Cell.zfi {c:Cell} (hu:c.uni) {n:Nat} (h:lo+n<=c.cnt):(c.sub lo n).cnt=n:=by
 cases c with
 | ints k l=>simp [Cell.sub,Cell.cnt] at h ⊢;omega
 | sl m rows=>simp [Cell.sub,Cell.cnt] at h ⊢;omega
 | _=>exact hu.elim
theorem zgk (h:HInv Γ Mo ρ J w) {n:Nat} {c:Cell} {T:Option TypeId} (hb:J[b]? = some (.arr c (c.cnt*c.esz) T)) (hes:c.esz=es) (hfit:lo+n<=c.cnt)
 {v:Value} (hv:HRd J ρ (MX Mo ρ J) w v (.sl b es lo n)):RdC (MX Mo ρ J) w v (subC c lo n):=by
 obtain ⟨⟨hu,_⟩,h0⟩:=h.blk b _ hb;obtain ⟨_,ad,cap,rfl,hle,hcap⟩:=hv;by_cases hc0:cap=0
 . have hn:n=0:=by omega
   subst hn
   rcases xaa hfit with ⟨h1,h2,h3⟩ | h3
   . rw [h3];exact RdC.empty hu h2.symm
   . rw [h3];exact RdC.empty (Cell.vwk hu) (Cell.zfi hu hfit)
 . obtain ⟨hre,had,arr,T',fz,hheap,hsz⟩:=hcap hc0
   rcases h0 with ⟨_,e⟩ | ⟨bb,vs,q,T2,e,hh,hr,_⟩
   . exact absurd e hre
   . have hbk:bk (ρ b)=bb:=by rw [e];rfl
     have hfl:=Cell.ym0 hu;have hvl:=hr.length
     have hM:∀ o,o<vs.length->¬MX Mo ρ J bb o:=fun o ho hm=>by
      rcases hm with hm | ⟨j,y,hj,hy,hrj,ej⟩
      . exact h.sep b _ hb rfl hre o (by rw [hbk];exact hm)
      . have hjb:=h.inj j b y _ hj hb (SB.v7h hy) rfl hrj hre (by rw [hbk];exact ej);subst hjb;rw [hb] at hj;cases hj
        have:c.cnt*c.esz<=o:=hy
        omega
     have hd:=wio (cap:=max c.cnt cap) hh hr hu (Nat.le_max_left _ _) hM;rw [hbk] at had
     rcases xaa hfit with ⟨h1,h2,h3⟩ | h3
     . rw [h3]
       have:=RdC.sub hd hu (lo:=0) (n:=c.cnt) (cap':=cap) (ad:=ad) (by omega) (fun _=>by rw [had,h1];simp) (by omega)
       have hs:c.sub 0 c.cnt=c:=by
        cases c with
        | ints k l=>simp [Cell.sub,Cell.cnt]
        | sl m rows=>simp [Cell.sub,Cell.cnt]
        | _=>rfl
       rw [hs] at this;rw [h2];exact this
     . rw [h3];exact RdC.sub hd hu hfit (fun _=>by rw [had,hes,Nat.zero_add]) hle
theorem xij {x:SB} (h:b<J.length):gB (J.set b x) b=x:=by simp [gB,h]
theorem x8q {i:Nat} {x:SB} (h:i≠b):gB (J.set b x) i=gB J i:=by simp [gB,List.getElem?_set_ne (Ne.symm h)]
theorem z2a {α:Type}:∀(e:List (Nat×α)) (l:List α),(appL e l).length=l.length
 | [],_=>rfl
 | (i,x)::e,l=>by simp only [appL];rw [z2a e];simp
theorem Went.frz {Mo:Nat->Nat->Prop} {ρ:Nat->Value} {w:World} {J:List SB}:∀(bs:List Nat) (η1:List SB),HInv Γ Mo ρ η1 w->η1.length=J.length->(∀ b∈bs,vfv (gB J b)=true)->(∀ b,gB η1 b=gB J b\/gB η1 b=frzB (gB J b))->
 Went Γ Mo ρ η1 w ρ (appL (frzE J bs) η1) w/\(∀ b,gB (appL (frzE J bs) η1) b=gB η1 b\/gB (appL (frzE J bs) η1) b=frzB (gB J b))/\(∀ b∈bs,gB (appL (frzE J bs) η1) b=frzB (gB J b))
 | [],η1,h,_,_,_=>⟨Went.refl h,fun b=>.inl rfl,fun b hb=>by cases hb⟩
 | b::bs,η1,h,hl,ha,hg=>by
  have hab:=ha b (by simp)
  have hx:∃ c k T,gB J b=.arr c k T:=by
   generalize gB J b=y at hab
   cases y<;>first | exact ⟨_,_,_,rfl⟩ | cases hab
  obtain ⟨c,k,T,hx⟩:=hx
  have hf:frzB (gB J b)=.arr c (c.cnt*c.esz) T:=by rw [hx];rfl
  obtain ⟨k1,h1⟩:∃ k1,η1[b]? = some (.arr c k1 T):=by
   rcases hg b with e | e
   . exact ⟨k,vil (e.trans hx) (by simp)⟩
   . exact ⟨_,vil (e.trans hf) (by simp)⟩
  have hlt:b<η1.length:=(List.getElem?_eq_some_iff.1 h1).1;have hsbr:=h.blk b _ h1
  have hstep:Went Γ Mo ρ η1 w ρ (η1.set b (.arr c (c.cnt*c.esz) T)) w:=by
   refine Went.less h h1 (by simp) (fun _=>rfl) (fun o ho=>Nat.le_trans hsbr.1.2 ho) (fun m=>?_);obtain ⟨⟨hu,_⟩,h0⟩:=hsbr.mv m (fun _ _=>rfl);exact ⟨⟨hu,Nat.le_refl _⟩,h0⟩
  have hg':∀ i,gB (η1.set b (.arr c (c.cnt*c.esz) T)) i=gB J i\/gB (η1.set b (.arr c (c.cnt*c.esz) T)) i=frzB (gB J i):=fun i=>by
   by_cases e:i=b
   . subst e;rw [xij hlt,hf];exact .inr rfl
   . rw [x8q e];exact hg i
  obtain ⟨h3,h4,h5⟩:=Went.frz bs (η1.set b (.arr c (c.cnt*c.esz) T)) hstep.inv (by simp [hl]) (fun i hi=>ha i (by simp [hi])) hg'
  have he:appL (frzE J (b::bs)) η1=appL (frzE J bs) (η1.set b (.arr c (c.cnt*c.esz) T)):=by
   show appL ((b,frzB (gB J b))::frzE J bs) η1=_;rw [hf];rfl
  rw [he];refine ⟨hstep.trans h3,fun i=>?_,fun i hi=>?_⟩
  . rcases h4 i with e | e
    . by_cases e':i=b
      . subst e';rw [e,xij hlt,hf];exact .inr rfl
      . rw [x8q e'] at e;exact .inl e
    . exact .inr e
  . rcases List.mem_cons.1 hi with rfl | hi
    . rcases h4 i with e | e
      . rw [e,xij hlt,hf]
      . exact e
    . exact h5 i hi
theorem xee {h : HC} {c : Cell} (hd : v9i J h = some (c, bs)) : ∀ b ∈ bs, vfv (gB J b) = true := by
 unfold v9i at hd;split at hd
 . cases hd;intro b hb;cases hb
 . split at hd
   . rename_i c' k T hb;split at hd
     . cases hd;intro b hb';simp only [List.mem_singleton] at hb';subst hb';rw [hb];rfl
     . cases hd
   . cases hd
 . cases hd
theorem x5z {J:List SB}:∀{hs:List HC} {cs:List Cell} {bs:List Nat},yp0 J hs=some (cs,bs)->∀ b∈bs,vfv (gB J b)=true
 | [],cs,bs,hd=>by cases hd;intro b hb;cases hb
 | h::hs,cs,bs,hd=>by
  simp only [yp0] at hd;split at hd
  . rename_i c bs1 cs2 bs2 h1 h2
    cases hd;intro b hb
    rcases List.mem_append.1 hb with hb | hb
    . exact xee h1 b hb
    . exact x5z h2 b hb
  . cases hd
theorem ydg {Mo : Nat → Nat → Prop} {ρ : Nat → Value} (h : HInv Γ Mo ρ J' w) {x : HC} {c : Cell} (hd : v9i J x = some (c, bs)) (hf : ∀ b ∈ bs, gB J' b = frzB (gB J b)) {v : Value}
 (hv:HRd J' ρ (MX Mo ρ J') w v x):RdC (MX Mo ρ J') w v c:=by
 unfold v9i at hd;split at hd
 . cases hd;exact hv
 . rename_i b es lo n;split at hd
   . rename_i c' k T hb;split at hd
     . rename_i hc
       cases hd
       have:=hf b (by simp)
       rw [hb] at this;exact zgk h (vil this (by simp)) hc.1 hc.2 hv
     . cases hd
   . cases hd
 . cases hd
theorem w1u {Mo:Nat->Nat->Prop} {ρ:Nat->Value} {J J':List SB} {w:World} (h:HInv Γ Mo ρ J' w):∀{hs:List HC} {cs:List Cell} {bs:List Nat},yp0 J hs=some (cs,bs)->(∀ b∈bs,gB J' b=frzB (gB J b))->∀{vs:List Value},
 HRL J' ρ (MX Mo ρ J') w vs hs->RdD (MX Mo ρ J') w vs cs
 | [],cs,bs,hd,_,vs,hv=>by
  cases hd
  cases vs with
  | nil=>trivial
  | cons _ _=>exact hv.elim
 | x::hs,cs,bs,hd,hf,vs,hv=>by
  simp only [yp0] at hd;split at hd
  . rename_i c bs1 cs2 bs2 h1 h2
    cases hd
    cases vs with
    | nil=>exact hv.elim
    | cons v vs=>exact ⟨ydg h h1 (fun b hb=>hf b (by simp [hb])) hv.1,w1u h h2 (fun b hb=>hf b (by simp [hb])) hv.2⟩
  . cases hd
theorem zci {x : HC} {c : Cell} (hd : v9i J x = some (c, bs)) (ha : ∀ b ∈ bs, gB J' b = gB J b) : v9i J' x = some (c, bs) := by
 unfold v9i at hd ⊢;split at hd
 . exact hd
 . rename_i b es lo n
   have e:gB J' b=gB J b:=by
    split at hd
    . split at hd
      . cases hd;exact ha b (by simp)
      . cases hd
    . cases hd
   simp only [e];exact hd
 . cases hd
theorem xkd {J J':List SB}:∀{hs:List HC} {cs:List Cell} {bs:List Nat},yp0 J hs=some (cs,bs)->(∀ b∈bs,gB J' b=gB J b)->yp0 J' hs=some (cs,bs)
 | [],cs,bs,hd,_=>hd
 | x::hs,cs,bs,hd,ha=>by
  simp only [yp0] at hd ⊢;split at hd
  . rename_i c bs1 cs2 bs2 h1 h2
    cases hd;rw [zci h1 (fun b hb=>ha b (by simp [hb])),xkd h2 (fun b hb=>ha b (by simp [hb]))]
  . cases hd
theorem xei {J J':List SB}:∀{bs:List Nat},(∀ b∈bs,gB J' b=gB J b)->frzE J' bs=frzE J bs
 | [],_=>rfl
 | b::bs,ha=>by
  show (b,frzB (gB J' b))::frzE J' bs=(b,frzB (gB J b))::frzE J bs;rw [ha b (by simp),xei (fun i hi=>ha i (by simp [hi]))]
def xl4 (place:Nat->Option (Nat×Nat)) (cs:List HC):List (Nat×SV)->Option (List HC)
 | []=>some cs
 | (i,x)::r=>match place i,ymo x with
  | some (off,size),some us=>if us.length=size/\off+size<=cs.length then xl4 place (cs.take off++us++cs.drop (off+size)) r else none
  | _,_=>none
def vmp (Γ:List (Nat×List Cell)) (I:List SV):List (Nat×Operand)->List (Nat×SV)
 | []=>[]
 | (i,x)::r=>(i,opdS Γ I x)::vmp Γ I r
theorem wff {E:HEnv} {ρ:Nat->Value} {I:List SV} {J:List SB} {a:Act} {w:World} (hI:RI Γ E ρ I J a w) (place:Nat->Option (Nat×Nat)):∀(ps:List (Nat×Operand)) (cells:Array Value) (cs cs':List HC),
 HRL J ρ (MX E.Mo ρ J) w cells.toList cs->xl4 place cs (vmp Γ I ps)=some cs'->∃ cells',Instr.fill place cells (ps.map fun p=>(p.1,a.eval p.2))=some cells'/\HRL J ρ (MX E.Mo ρ J) w cells'.toList cs'
 | [],cells,cs,cs',hr,h=>by
  simp only [vmp,xl4,Option.some.injEq] at h;subst h;exact ⟨cells,rfl,hr⟩
 | (i, x) :: ps, cells, cs, cs', hr, h => by
  simp only [vmp,xl4] at h;split at h
  . rename_i off size us hp hu;split at h
    . rename_i hc;obtain ⟨h1,h2⟩:=hc;have hv:=v00 hu (hI.opd x)
      have hvl:(a.eval x).cells.size=size:=by rw [<-h1,<-hv.length];simp
      have hcl:cells.size=cs.length:=by rw [<-hr.length];simp
      have hfold:((a.eval x).cells.zipIdx.foldl (fun cs (p:Value×Nat)=>cs.setIfInBounds (off+p.2) p.1) cells).toList=cells.toList.take off++(a.eval x).cells.toList++cells.toList.drop (off+size):=by
       have:=z01 off (a.eval x).cells.toList 0 cells (by simp [hvl];omega)
       rw [<-Array.foldl_toList];simpa [hvl] using this
      obtain ⟨cells',hf,hr'⟩:=wff hI place ps ((a.eval x).cells.zipIdx.foldl (fun cs (p:Value×Nat)=>cs.setIfInBounds (off+p.2) p.1) cells) _ cs' (by
       rw [hfold]
       exact ((hr.take off).append hv).append (hr.drop _)) h
      refine ⟨cells',?_,hr'⟩;simp only [List.map_cons,Instr.fill,hp];rw [if_neg]
      . exact hf
      . simp only [hvl,ne_eq,not_true_eq_false,decide_false,Bool.false_or,decide_eq_true_eq];omega
    . cases h
  . cases h
theorem ypm {rd:List Nat} {I I':List SV} (hag:agS rd I I'):∀(ps:List (Nat×Operand)),(∀ t∈orrs ps,t∈rd)->vmp Γ I' ps=vmp Γ I ps
 | [],_=>rfl
 | (i,x)::ps,h=>by
  simp only [vmp];rw [hag.opd (fun t ht=>h t (by simp [orrs,ht])),ypm hag ps (fun t ht=>h t (by simp [orrs,ht]))]
theorem w05 {d:Nat} (ho:o.op=.build T parts.toArray) (hdst:o.dst=some d) (hti:mkTI P T=some ti)
 (harr:xjd ti=true) (hagg:ti.sh.agg=true) (hf:xl4 (placeOf ti.sh) (ti.zc.map .dat) (vmp Γ I parts)=some hs):yvu Γ P o I J (d::orrs parts) [] [(d,.agg hs)] []:=by
 have hok:=vnz hti;obtain ⟨ds,i,z,hd,hi,hz,hsz,_,hzs,hone,hzc,hsh⟩:=hok.ex;refine yvu.pure hdst (fun E ρ I' J' a w hag hah hI=>?_);have hav:=ypm (Γ:=Γ) hag parts (fun t ht=>by simp [ht])
 have hz0:HRL J' ρ (MX E.Mo ρ J') w z.cells.toList (ti.zc.map .dat):=by rw [hzc];exact xgi hone
 obtain ⟨cells',hfill,hrd⟩:=wff hI (placeOf ti.sh) parts z.cells _ hs hz0 (by rw [hav];exact hf)
 have hbuilt:P.built T (parts.map fun p=>(p.1,a.eval p.2))=some cells':=by
  unfold Program.built;rw [hi,hd];rw [hsh] at hagg
  rcases wdi hagg with ⟨fl,rfl⟩ | ⟨n,e,rfl⟩
  . have hst:∃ fs,ti.sh=.struct fs:=by
     rw [hsh];unfold shOf at hagg ⊢;dsimp only at hagg ⊢;split at hagg
     . exact ⟨_,by rename_i hc;rw [if_pos hc]⟩
     . cases hagg
    obtain ⟨fs,hfs⟩:=hst;obtain ⟨fl',e1,rfl,hne⟩:=zhd (hsh.symm.trans hfs)
    cases e1;have hpl:fl.toList.mapM (fun f=>(P.info? f.type).map fun i=>(f.offset,i.size))=some (fl.toList.map fun f=>(f.offset,P.cellsOf f.type)):=
     mapM_some _ _ _ (fun f hf=>by
      obtain ⟨j,hj,hjs⟩:=zbv (hne f hf)
      simp [hj,hjs])
    simp only [hz,hpl];rw [hfs] at hfill;rw [<-hfill]
    congr 1
    funext x
    simp [placeOf];rfl
  . have har:ti.sh=.array n e (P.cellsOf e):=hsh
    have har':P.cellsOf e≠0:=by unfold xjd at harr;rw [har] at harr;simpa using harr
    obtain ⟨j,hj,hjs⟩:=zbv har';simp only [hz,hj];rw [har] at hfill;rw [<-hfill,hjs];rfl
 refine ⟨.agg cells',?_,⟨cells'.toList,by simp,hrd⟩⟩;have hrun:=run_build (P:=P) w T (parts.map fun p=>(p.1,a.eval p.2)).toArray cells' (by simpa using hbuilt);simp only [execOp,ho]
 have he:(parts.toArray.map fun (p:Nat×Operand)=>(p.1,a.eval p.2))=(parts.map fun p=>(p.1,a.eval p.2)).toArray:=by simp
 have:(Array.map (fun x=>match x with | (i,x)=>(i,a.eval x)) parts.toArray)=(parts.map fun p=>(p.1,a.eval p.2)).toArray:=by rw [<-he]
 rw [this];simp [hrun]
def wa7 (es:Nat) (ik:Option IntKind) (n:Nat) (cs:List Cell):Option Cell:=match ik with
 | some k=>if es=1 then (xdp k cs).map (.ints k) else none
 | none=>some (.sl es (chunk es n cs))
theorem y8d {k : IntKind} : ∀ {cs : List Cell} {l : List Int}, xdp k cs = some l → cs = l.map fun n => .raw (.int k n)
 | [],l,h=>by simp [xdp] at h;simp [h]
 | c::cs,l,h=>by
  unfold xdp at h;split at h
  . rename_i heq;cases heq
  . rename_i k' n r heq
    cases heq;split at h
    . rename_i hk;subst hk;simp only [Option.map_eq_some_iff] at h;obtain ⟨l',h1,rfl⟩:=h;rw [y8d h1];rfl
    . cases h
  . cases h
theorem xzr {n:Nat} {cs:List Cell} {c:Cell} (hlen:cs.length=n*es) (h:wa7 es ik n cs=some c):c.uni/\c.cnt=n/\c.esz=es/\c.flat=cs:=by
 unfold wa7 at h;split at h
 . rename_i k;split at h
   . rename_i he;subst he;obtain ⟨l,hl,rfl⟩:=Option.map_eq_some_iff.1 h
     have:=y8d hl
     subst this;simp only [List.length_map,Nat.mul_one] at hlen;exact ⟨trivial,hlen,rfl,rfl⟩
   . cases h
 . cases h;exact ⟨vvw es n cs hlen,w0y es n cs,rfl,x2z es n cs hlen⟩
theorem z6h {place : Nat → Option (Nat × Nat)} : ∀ (ps : List (Nat × SV)) (cs cs' : List HC), xl4 place cs ps = some cs' → cs'.length = cs.length
 | [],cs,cs',h=>by simp only [xl4,Option.some.injEq] at h;rw [h]
 | (i, x) :: ps, cs, cs', h => by
  simp only [xl4] at h;split at h
  . rename_i off size us hp hu;split at h
    . rename_i hc;rw [z6h ps _ cs' h];simp only [List.length_append,List.length_take,List.length_drop];omega
    . cases h
  . cases h
theorem w1r {J:List SB}:∀{hs:List HC} {cs:List Cell} {bs:List Nat},yp0 J hs=some (cs,bs)->cs.length=hs.length
 | [],cs,bs,hd=>by cases hd;rfl
 | h::hs,cs,bs,hd=>by
  simp only [yp0] at hd;split at hd
  . rename_i c bs1 cs2 bs2 h1 h2
    cases hd;simp [w1r h2]
  . cases hd
def litH (Γ:List (Nat×List Cell)) (I:List SV) (J:List SB) (es:Nat) (ik:Option IntKind) (zc:List Cell) (n:Nat) (parts:List (Nat×Operand)):Option (Cell×List Nat):=
 if n*es<=16777216/\n≠0 then match xl4 (fun i=>some (i*es,es)) ((v8c zc n).map .dat) (vmp Γ I parts) with
  | some hs=>match yp0 J hs with
   | some (cs,bs)=>(wa7 es ik n cs).map fun c=>(c,bs)
   | none=>none
  | none=>none
 else none
theorem vck {J:List SB} {ρ:Nat->Value} {M:Nat->Nat->Prop} {w:World} {vs:List Value} {cs:List Cell} (h:HRL J ρ M w vs (cs.map .dat)):∀ n,HRL J ρ M w (v8c vs n) ((v8c cs n).map .dat)
 | 0=>trivial
 | n+1=>by
  simp only [v8c,List.map_append];exact h.append (vck h n)
theorem zcc (hI:RI Γ E ρ I J a w) {n:Nat} (ho:o.op=.buildSlice T n parts.toArray)
 (hti:mkTI P T=some ti) (hsh:ti.sh=.slice e es eb ik) (hte:mkTI P e=some te) {c:Cell} (h:litH Γ I J es ik te.zc n parts=some (c,bs)) :
 ∃ vs:List Value,(execOp a.eval o).run P w=.ok (.value (.slice (some ⟨w.heap.size,0,none⟩) n n)) (w.alloc (.cells vs.toArray e))/\c.uni/\c.cnt=n/\c.esz=es/\vs.length=n*es/\(∀ b∈bs,vfv (gB J b)=true)/\
  ∀(ρ':Nat->Value) (J':List SB) (w':World),HInv Γ E.Mo ρ' J' w'->Mv J ρ (MX E.Mo ρ J) w J' ρ' (MX E.Mo ρ' J') w'->(∀ b∈bs,gB J' b=frzB (gB J b))->RdD (MX E.Mo ρ' J') w' vs c.flat:=by
 have hok:=vnz hti;obtain ⟨ds,i,z,hd,hi,hz,_,_,_,_,_,hsh'⟩:=hok.ex;unfold litH at h;split at h
 case isFalse=>cases h
 rename_i hsmall;split at h
 case h_2=>cases h
 rename_i hs hfill;split at h
 case h_2=>cases h
 rename_i cs bs' hdat;obtain ⟨c',hsl,he⟩:=Option.map_eq_some_iff.1 h
 cases he;obtain ⟨rfl,j,z',hj,hz',hjs,hjb,hes0,hzs,hik⟩:=wqb (hsh'.symm.trans hsh);obtain ⟨de,je,ze,hde,hje,hze,_,_,_,hone,hzce,_⟩:=(vnz hte).ex;rw [hj] at hje;cases hje;rw [hz'] at hze;cases hze;have hz0:HRL J ρ (MX E.Mo ρ J) w (v8c z'.cells.toList n) ((v8c te.zc n).map .dat):=vck (by rw [hzce];exact xgi hone) n
 have hinit:(Array.range (n*es)).map (z'.cells[· % z'.cells.size]!)=(v8c z'.cells.toList n).toArray:=by
  apply Array.ext
  . simp [y3g,hzs]
  . intro q h1 h2;simp only [Array.size_map,Array.size_range] at h1;have hq:=vfz z'.cells.toList n q (by simpa [hzs] using h1);have hlt:q % z'.cells.size<z'.cells.size:=Nat.mod_lt _ (by rw [hzs];omega);simp only [Array.getElem_map,Array.getElem_range,List.getElem_toArray];simp only [Array.length_toList,Array.getElem?_toList] at hq;rw [Array.getElem?_eq_getElem hlt,List.getElem?_eq_getElem (by simpa using h2)] at hq;simp at hq;rw [hq];simp [hlt]
 obtain ⟨cells',hf,hrd⟩:=wff hI (fun i=>some (i*es,es)) parts (v8c z'.cells.toList n).toArray _ hs (by simpa using hz0) hfill
 have hrun:(execOp a.eval o).run P w=.ok (.value (.slice (some ⟨w.heap.size,0,none⟩) n n)) (w.alloc (.cells cells' e)):=by
  have hpe:(Array.map (fun x=>match x with | (i,x)=>(i,a.eval x)) parts.toArray).toList=parts.map fun p=>(p.1,a.eval p.2):=by simp
  have h24:¬(16777216<n*es):=by omega
  have hne:¬(n*es=0):=by
   intro h0
   rcases Nat.mul_eq_zero.1 h0 with h0 | h0
   . exact hsmall.2 h0
   . exact hes0 h0
  simp only [execOp,ho,Instr.buildSlice,Sem.run_bind,voj hd,Result.andThen_ok,xvp hj,hjs];rw [if_neg (by simpa using h24),if_neg hne];simp only [Sem.run_bind,xt1 hj hz',Result.andThen_ok,Sem.run_pure,hinit];rw [hpe,hf];simp [newRow]
 have hlen:cs.length=n*es:=by
  rw [w1r hdat,z6h _ _ _ hfill,List.length_map,y3g,hzce];simp [hzs]
 obtain ⟨h1,h2,h3,h4⟩:=xzr hlen hsl;refine ⟨cells'.toList,by rw [Array.toArray_toList];exact hrun,h1,h2,h3,?_,x5z hdat,fun ρ' J' w' hinv m hfz=>?_⟩
 . rw [hrd.length,<-w1r hdat,hlen]
 . rw [h4];exact w1u hinv hdat hfz (hrd.mv m)
theorem z0j {n:Nat} {zc:List Cell} {c:Cell} (hp:vmp Γ I' parts=vmp Γ I parts) (h:litH Γ I J es ik zc n parts=some (c,bs))
 (ha:∀ b∈bs,gB J' b=gB J b):litH Γ I' J' es ik zc n parts=some (c,bs):=by
 unfold litH at h ⊢;rw [hp];split at h
 . rename_i hc;rw [if_pos hc];split at h
   . rename_i hs hf;split at h
     . rename_i cs bs' hd;obtain ⟨c',_,he⟩:=Option.map_eq_some_iff.1 h
       cases he;rw [xkd hd ha];exact h
     . cases h
   . cases h
 . cases h
theorem we6 {α:Type}:∀(e e':List (Nat×α)) (l:List α),appL (e++e') l=appL e' (appL e l)
 | [],_,_=>rfl
 | (i,x)::e,e',l=>by simp only [List.cons_append,appL];exact we6 e e' _
theorem zuh (ha : ∀ b ∈ bs, vfv (gB J b) = true) (hf : J[nb]? = some .fresh) : (appL (frzE J bs) J)[nb]? = some .fresh := by
 have key:∀(bs:List Nat) (η1:List SB),(∀ b∈bs,vfv (gB J b)=true)->η1[nb]? = some .fresh->(appL (frzE J bs) η1)[nb]? = some .fresh:=by
  intro bs
  induction bs with
  | nil=>intro η1 _ h;exact h
  | cons b bs ih=>
   intro η1 ha h;show (appL (frzE J bs) (η1.set b (frzB (gB J b))))[nb]? = _;refine ih _ (fun i hi=>ha i (by simp [hi])) ?_
   have hne:b≠nb:=fun e=>by
    have h1:=ha b (by simp);rw [e] at h1;unfold gB at h1;rw [hf] at h1
    cases h1
   rw [List.getElem?_set_ne hne];exact h
 exact key bs J ha hf
theorem yt9 {n d:Nat} (ho:o.op=.buildSlice T n parts.toArray) (hdst:o.dst=some d)
 (hti:mkTI P T=some ti) (hsh:ti.sh=.slice e es eb ik) (hte:mkTI P e=some te) {c:Cell} (h:litH Γ I J es ik te.zc n parts=some (c,bs)) (hroom:xvh J nb=true) :
 yvu Γ P o I J (d::orrs parts) (nb::bs) [(d,.one (.sl nb es 0 n))] (frzE J bs++[(nb,.arr c 0 (some e))]):=by
 refine yvu.val hdst (fun E ρ I' J' a w hag hah hI=>?_);have hp:=ypm (Γ:=Γ) hag parts (fun t ht=>by simp [ht])
 have hgb:∀ b∈bs,gB J' b=gB J b:=fun b hb=>hah.gB (by simp [hb])
 obtain ⟨vs,hrun,hu,hcnt,hesz,hvl,harr,hrd⟩:=zcc hI ho hti hsh hte (z0j hp h hgb);obtain ⟨hw1,_,hfz⟩:=Went.frz bs J' hI.inv rfl harr (fun _=>.inl rfl);have hfr:=zuh harr (hah.room (by simp) hroom);have hb:Below w.heap.size w (w.alloc (.cells vs.toArray e)):=(Below.refl _ _).alloc (Nat.le_refl _) _;have hlt:nb<(appL (frzE J' bs) J').length:=(List.getElem?_eq_some_iff.1 hfr).1;have hrd1:=hrd ρ _ w hw1.inv hw1.mv hfz;have hw2:=Went.new hw1.inv hb hfr (v:=.pointer (some ⟨w.heap.size,0,none⟩)) (x:=.arr c 0 (some e)) (by simp) (fun _ _=>Nat.le_refl _) (fun m=>⟨⟨hu,Nat.zero_le _⟩,.inr ⟨w.heap.size,vs,[],e,rfl,by simpa using zuf w _,hrd1.keep m.keep,fun t' ht=>by cases ht;rfl⟩⟩);refine ⟨_,_,upd ρ nb (.pointer (some ⟨w.heap.size,0,none⟩)),hrun,?_,?_⟩
 . rw [<-xei hgb,we6];exact hw1.trans hw2
 . rw [<-xei hgb,we6];refine ⟨⟨_,by simp only [appL];rw [List.getElem?_set_self hlt],by simp⟩,_,n,rfl,Nat.le_refl _,fun _=>⟨by rw [vgt];simp [real],by rw [vgt];simp [bk,blk],vs.toArray,e,(0,0),by rw [vgt];exact zuf w _,?_⟩⟩;simp [hvl]
theorem xoo {n d:Nat} (ho:o.op=.buildSlice T n parts.toArray) (hdst:o.dst=some d)
 (hti:mkTI P T=some ti) (hsh:ti.sh=.slice e es eb ik) (hte:mkTI P e=some te) {c:Cell} (h:litH Γ I J es ik te.zc n parts=some (c,bs)) :
 yvu Γ P o I J (d::orrs parts) bs [(d,.one (.dat c))] (frzE J bs):=by
 refine yvu.val hdst (fun E ρ I' J' a w hag hah hI=>?_);have hp:=ypm (Γ:=Γ) hag parts (fun t ht=>by simp [ht])
 have hgb:∀ b∈bs,gB J' b=gB J b:=fun b hb=>hah.gB hb
 obtain ⟨vs,hrun,hu,hcnt,hesz,hvl,harr,hrd⟩:=zcc hI ho hti hsh hte (z0j hp h hgb);obtain ⟨hw1,_,hfz⟩:=Went.frz bs J' hI.inv rfl harr (fun _=>.inl rfl);have hb:Below w.heap.size w (w.alloc (.cells vs.toArray e)):=(Below.refl _ _).alloc (Nat.le_refl _) _;have hw2:=Went.below hw1.inv hb;have hrd2:=(hrd ρ _ w hw1.inv hw1.mv hfz).keep hw2.keep;refine ⟨_,_,ρ,hrun,?_,?_⟩
 . rw [<-xei hgb];exact hw1.trans hw2
 . rw [<-xei hgb]
   have hM:∀ o,o<vs.length->¬MX E.Mo ρ (appL (frzE J' bs) J') w.heap.size o:=fun o _ hm=>by
    have:=zef hw1.inv hm
    omega
   have:=wio (cap:=n) (q:=[]) (by simpa using zuf w (.cells vs.toArray e)) hrd2 hu (by omega) hM
   rw [hcnt] at this;exact this
def appT (T:Option TypeId) (e:TypeId):Option TypeId:=match T with
 | some t=>if t=e then some e else none
 | none=>none
def dstH (J:List SB) (e:TypeId) (es:Nat) (ik:Option IntKind):SV->Option (Option Nat×Cell×Nat×Option TypeId)
 | .one (.sl b es' 0 n)=>match gB J b with
  | .arr c k T=>if es'=es/\c.esz=es/\n=c.cnt then some (some b,c,k,T) else none
  | _=>none
 | .one (.dat c)=>match isZc c with
  | true=>some (none,yo1 es ik,0,some e)
  | false=>none
 | _=>none
def srcH (J:List SB):SV->Option (Cell×List Nat)
 | .one h=>v9i J h
 | _=>none
def ykn:Option Nat->List (Nat×SB)
 | some b=>[(b,.dead)]
 | none=>[]
def yhf (J:List SB) (nb:Nat) (e:TypeId) (es eb:Nat) (ik:Option IntKind) (x y:SV):Option (List Nat×List (Nat×SB)×SV):=
 match dstH J e es ik x,srcH J y with
 | some (ob,c,k,T),some (cy,bs)=>match y5i es eb ik c cy with
  | some c'=>if bs.all (fun i=>ob != some i) then some (ob.toList++bs,frzE J bs++(ykn ob++[(nb,.arr c' k (appT T e))]),.one (.sl nb es 0 c'.cnt)) else none
  | none=>none
 | _,_=>none
theorem xgd {J:List SB} {b:Nat}:∀(bs:List Nat) (η1:List SB),b∉bs->gB (appL (frzE J bs) η1) b=gB η1 b
 | [],_,_=>rfl
 | i::bs,η1,h=>by
  show gB (appL (frzE J bs) (η1.set i (frzB (gB J i)))) b=_;rw [xgd bs _ (fun hb=>h (by simp [hb])),x8q (fun e=>h (by simp [e]))]
theorem zaj (es:Nat) (ik:Option IntKind):(yo1 es ik).uni/\(yo1 es ik).cnt=0:=by
 cases ik with
 | none=>exact ⟨fun r hr=>(by cases hr),rfl⟩
 | some k=>exact ⟨trivial,rfl⟩
theorem xml (h:HInv Γ Mo ρ J w) (hf:J[nb]? = some .fresh) {n m k:Nat} {T:Option TypeId} {c':Cell} {all:List Value} {rest:Array Value}
 (hu:c'.uni) (_hcnt:c'.cnt=n+m) (hk:k<=c'.cnt*c'.esz) (hrd:RdD (MX Mo ρ J) w all c'.flat) (hall:all.length=(n+m)*es) (hcap:n+m<=cap) (hrest:rest.size=(cap-(n+m))*es) :
 Went Γ Mo ρ J w (upd ρ nb (.pointer (some ⟨w.heap.size,0,none⟩))) (J.set nb (.arr c' k (appT T e))) (w.drew.alloc (.cells (all.toArray++rest) e))/\
 HRd (J.set nb (.arr c' k (appT T e))) (upd ρ nb (.pointer (some ⟨w.heap.size,0,none⟩))) (MX Mo (upd ρ nb (.pointer (some ⟨w.heap.size,0,none⟩))) (J.set nb (.arr c' k (appT T e)))) (w.drew.alloc (.cells (all.toArray++rest) e))
  (.slice (some ⟨w.heap.size,0,none⟩) (n+m) cap) (.sl nb es 0 (n+m)):=by
 have hb:Below w.heap.size w (w.drew.alloc (.cells (all.toArray++rest) e)):=((Below.refl _ _).drew).alloc (Nat.le_refl _) _
 have hheap:(w.drew.alloc (.cells (all.toArray++rest) e)).heap[w.heap.size]? = some (.cells (all++rest.toList).toArray e (0,0)):=by
  have:=zuf w.drew (.cells (all.toArray++rest) e)
  rw [show (all++rest.toList).toArray=all.toArray++rest by apply Array.ext';simp];exact this
 have hlt:nb<J.length:=(List.getElem?_eq_some_iff.1 hf).1;refine ⟨Went.new h hb hf (by simp) (fun _ _=>Nat.le_refl _) (fun m=>⟨⟨hu,hk⟩,.inr ⟨w.heap.size,all,rest.toList,e,rfl,hheap,hrd.keep m.keep,fun t' ht=>?_⟩⟩),?_⟩
 . unfold appT at ht;split at ht
   . split at ht<;>cases ht;rfl
   . cases ht
 . refine ⟨⟨_,by rw [List.getElem?_set_self hlt],by simp⟩,_,cap,rfl,hcap,fun _=>⟨by rw [vgt];simp [real],by rw [vgt];simp [bk,blk],_,e,(0,0),by rw [vgt];exact hheap,?_⟩⟩;simp only [List.size_toArray,List.length_append,Array.length_toList,hall,hrest,Nat.zero_add];rw [<-Nat.add_mul];exact Nat.le_of_eq (by congr 1;omega)
theorem yaw {d:Nat} (ho:o.op=.call { callee:=.builtin .append,args:=#[x,y],argTypes:=#[T,T] }) (hdst:o.dst=some d)
 (hti:mkTI P T=some ti) (hsh:ti.sh=.slice e es eb ik) {v:SV} (h:yhf J nb e es eb ik (opdS Γ I x) (opdS Γ I y)=some (rh,heff,v)) (hroom:xvh J nb=true) :
 yvu Γ P o I J (d::(orr x++orr y)) (nb::rh) [(d,v)] heff:=by
 refine yvu.val hdst (fun E ρ I' J' a w hag hah hI=>?_);obtain ⟨d0,i,z,hd0,hi,hz,_,_,_,_,_,hsh'⟩:=(vnz hti).ex;obtain ⟨rfl,j,z',hj,hz',hjs,hjb,hes0,hzs,hik⟩:=wqb (hsh'.symm.trans hsh)
 have hes:0<es:=by omega
 have hx:=hI.opd x;have hy:=hI.opd y;rw [hag.opd (fun t ht=>by simp [ht])] at hx hy;unfold yhf at h;split at h
 case h_2=>cases h
 rename_i ob c k T0 cy bs hD hS;split at h
 case h_2=>cases h
 rename_i c' ztg;split at h
 case isFalse=>cases h
 rename_i hob
 cases h
 have hnb:∀ b,ob=some b->b∉bs:=fun b e1 hb=>by
  have:=(List.all_eq_true.1 hob) b hb
  rw [e1] at this;simp at this
 obtain ⟨hsv,hS'⟩:∃ hc,opdS Γ I y=.one hc/\v9i J hc=some (cy,bs):=by
  unfold srcH at hS;split at hS
  . rename_i hc e1;exact ⟨hc,e1,hS⟩
  . cases hS
 obtain ⟨hye,hyd⟩:=hS';rw [hye] at hy
 have hgb:∀ b∈bs,gB J' b=gB J b:=fun b hb=>hah.gB (by simp [hb])
 have hyd':=zci hyd hgb;have harr:=xee hyd';obtain ⟨hw1,_,hfz⟩:=Went.frz bs J' hI.inv rfl harr (fun _=>.inl rfl);have hfr:=zuh harr (hah.room (by simp) hroom);have hyr:=ydg hw1.inv hyd' hfz (HRd.mv hw1.mv hy);have hfe:frzE J bs=frzE J' bs:=(xei hgb).symm;rw [hfe];simp only [we6];have hlt:nb<(appL (frzE J' bs) J').length:=(List.getElem?_eq_some_iff.1 hfr).1;generalize hη1:appL (frzE J' bs) J'=η1 at hw1 hfr hyr hfz hlt
 have hexec:∀(vx vy u:Value) (w2:World),a.eval x=vx->a.eval y=vy->(Builtin.append_ #[T,T] o.type #[vx,vy]).run P w=.ok u w2->(execOp a.eval o).run P w=.ok (.value u) w2:=fun vx vy u w2 e1 e2 hr=>by
  rw [x6y ho,show (#[x,y]:Array Operand).map a.eval=#[vx,vy] from by simp [e1,e2]];simp only [builtin,Sem.run_bind,hr];rfl
 have nothing:∀(ad yad:Option Addr) (ycap:Nat),(Builtin.append_ #[T,T] o.type #[.slice ad 0 0,.slice yad 0 ycap]).run P w=.ok (.slice ad 0 0) w:=fun ad yad ycap=>by
  have hf0:(Builtin.firstCells j.size 0 (.slice yad 0 ycap)).run P w=.ok #[] w:=vfb w 0 _ [] ⟨_,_,rfl⟩ (by simp) (.inl rfl)
  cases ad with
  | none=>simp [Builtin.append_,run_underlying hd0,sizeOf,typeInfo,hj,Builtin.lenOf,hf0]
  | some b=>simp [Builtin.append_,run_underlying hd0,sizeOf,typeInfo,hj,Builtin.lenOf,hf0,storeCells]
 unfold dstH at hD;split at hD
 ·
  rename_i b es' n hxe;split at hD
  case h_2=>cases hD
  rename_i c0 k0 T1 hb;split at hD
  case isFalse=>cases hD
  rename_i hc;obtain ⟨rfl,hcz,hn⟩:=hc
  cases hD;rw [hxe] at hx;have hx0:HRd J' ρ (MX E.Mo ρ J') w (a.eval x) (.sl b es' 0 n):=hx;have hx1:=HRd.mv hw1.mv hx0
  have hb':gB η1 b=.arr c k T0:=by
   rw [<-hη1,xgd bs J' (hnb b rfl),hah.gB (by simp)];exact hb
  have hb1:=vil hb' (by simp);have hsb:=hw1.inv.blk b _ hb1;obtain ⟨⟨hu,hk⟩,h0⟩:=hsb;obtain ⟨m,news,fy,⟨yad,ycap,hvy⟩,hnl,hnr,hnc,hu',hcnt',hesz',hcesz,hflat',hb1',hb2'⟩:=va8 hes ztg hu hyr;obtain ⟨_,ad,cap,hv,hle,hcap⟩:=hx1
  have hk':k<=c'.cnt*c'.esz:=by
   rw [hcnt',hesz',<-hcesz,Nat.add_mul];omega
  have hne:nb≠b:=fun e1=>by rw [e1,hb1] at hfr;cases hfr
  have hkf:(η1.set b .dead)[nb]? = some .fresh:=by rw [List.getElem?_set_ne (Ne.symm hne)];exact hfr
  have hnc':news=[]\/∃ b off cap,Value.slice yad m ycap=.slice (some ⟨b,off,none⟩) m cap/\∀ j u,news[j]? = some u->w.cell? ⟨b,off+j,none⟩=some u:=
   hnc.imp id fun ⟨b,off,cap,e,h⟩=>⟨b,off,cap,hvy▸e,fun j u hj=>(h j u hj).2⟩
  show ∃ v w' ρ',_/\Went Γ E.Mo ρ J' w ρ' ((η1.set b .dead).set nb (.arr c' k (appT T0 e))) w'/\SVR ((η1.set b .dead).set nb (.arr c' k (appT T0 e))) ρ' (MX E.Mo ρ' ((η1.set b .dead).set nb (.arr c' k (appT T0 e)))) w' v _;by_cases hcm:cap=0/\m=0
  . obtain ⟨rfl,rfl⟩:=hcm
    have hn0:n=0:=by omega
    subst hn0;have hk0:=Went.kill hw1.inv hb1;have hw2:=Went.new hk0.inv (zgs w) hkf (v:=.pointer none) (x:=.arr c' k (appT T0 e)) (by simp) (fun _ hr=>absurd rfl hr) (fun m=>⟨⟨hu',hk'⟩,.inl ⟨by rw [hcnt'];omega,rfl⟩⟩);refine ⟨.slice ad 0 0,w,_,hexec _ _ _ _ hv hvy (nothing ad yad ycap),hw1.trans (hk0.trans hw2),⟨_,by rw [List.getElem?_set_self (by simpa using hlt)],by simp⟩,ad,0,?_,by omega,fun h=>absurd rfl h⟩;rw [hcnt',<-hn]
  . by_cases hroom':n+m<=cap
    ·
     obtain ⟨hre,had,arr,Tb,fz,hheap,hsz⟩:=hcap (by omega)
     rcases h0 with ⟨_,e1⟩ | ⟨bb,vs,q,Tb',e1,hh,hr,hT⟩
     . exact absurd e1 hre
     have hbk:bk (ρ b)=bb:=by rw [e1];rfl
     rw [hbk] at had hheap;rw [hh] at hheap
     cases hheap;have hvl:=hr.length;have hfl:=Cell.ym0 hu
     have hfit:n*es'+news.length<=(vs++q).length:=by
      have:(n+m)*es'<=(0+cap)*es':=Nat.mul_le_mul_right _ (by omega)
      rw [Nat.add_mul] at this;simp only [List.size_toArray] at hsz;rw [hnl];omega
     have hf:(Builtin.firstCells j.size m (.slice yad m ycap)).run P w=.ok news.toArray w:=vfb w m _ news ⟨_,_,rfl⟩ (by rw [hjs];exact hnl) hnc'
     have hones:∀ u∈news,u.oneCell'=true:=fun u hu=>hnr.oneL u hu
     have hrun:=zl6 (P:=P) hd0 hj w o.type bb Tb n cap (vs++q).toArray hh m (.slice yad m ycap) news ⟨_,_,rfl⟩ (by rw [hjs];exact hnl) hf hones hroom' (by rw [hjs];simpa using hfit);rw [hjs] at hrun
     have hnv:n*es'=vs.length:=by rw [hvl,hfl,hn,hcesz]
     have hnew:(vs++q).toArray.toList.take (n*es')++news++(vs++q).toArray.toList.drop (n*es'+news.length)=(vs++news)++(vs++q).drop (vs.length+news.length):=by
      simp only [hnv,List.take_left',List.append_assoc]
     rw [hnew] at hrun
     have hdrop:(vs++q).drop (vs.length+news.length)=q.drop news.length:=by rw [List.drop_append];simp
     rw [hdrop] at hrun;rw [hnv,List.length_append] at hfit
     have hsize':((vs++news)++q.drop news.length).length=(vs++q).length:=by
      simp only [List.length_append,List.length_drop];omega
     have hwr:=Went.write (w':=w.setRow bb ((vs++news)++q.drop news.length).toArray) (x':=.arr c' k (appT T0 e)) hw1.inv hb1 rfl hre rfl (fun o=>Iff.rfl) (by simp [World.setRow]) rfl rfl rfl (fun kk hk=>setRow_other w bb kk _ (by rw [<-hbk];exact hk))
      (wuk hh (by simp only [List.size_toArray];omega)) (fun oo u hm hc=>by
        rw [hbk] at hc ⊢;rw [cell_setRow_same w bb oo _ _ _ _ hh]
        have hlt':oo<vs.length:=by
         have:¬k<=oo:=hm
         omega
        simp only [World.cell?,hh,Option.isSome_none,Bool.false_eq_true,if_false,List.getElem?_toArray] at hc;rw [List.getElem?_append_left hlt'] at hc;rw [List.getElem?_toArray,List.append_assoc,List.getElem?_append_left hlt']
        exact hc)
      (fun m'=>⟨⟨hu',hk'⟩,.inr ⟨bb,vs++news,q.drop news.length,Tb,e1,setRow_heap w bb _ _ Tb (0,0) hh,by rw [hflat'];exact (hr.app hnr).keep m'.keep,fun t' ht=>by
        unfold appT at ht;split at ht
        . rename_i t;split at ht
          . rename_i e2;cases ht;rw [<-e2];exact hT t rfl
          . cases ht
        . cases ht⟩⟩)
     have hfr2:(η1.set b (.arr c' k (appT T0 e)))[nb]? = some .fresh:=by rw [List.getElem?_set_ne (Ne.symm hne)];exact hfr
     have hmv:=Went.move hwr.inv (b:=b) (nb:=nb) (x:=.arr c' k (appT T0 e)) (by rw [List.getElem?_set_self (List.getElem?_eq_some_iff.1 hb1).1]) rfl hfr2;rw [List.set_set] at hmv;subst had;refine ⟨_,_,_,hexec _ _ _ _ hv hvy (by rw [Nat.zero_mul];exact hrun),hw1.trans (hwr.trans hmv),⟨_,by rw [List.getElem?_set_self (by simpa using hlt)],by simp⟩,_,cap,?_,?_,fun _=>⟨by rw [vgt];exact hre,by rw [vgt,hbk,Nat.zero_mul],_,Tb,(0,0),by rw [vgt,hbk];exact setRow_heap w bb _ _ Tb (0,0) hh,?_⟩⟩
     . rw [hcnt',<-hn]
     . rw [hcnt',<-hn];exact hroom'
     . simp only [List.size_toArray] at hsz ⊢;rw [hsize'];exact hsz
    ·
     have hold:cap<n+m:=by omega
     have hxs:∃ xs:List Value,RdD (MX E.Mo ρ η1) w xs c.flat/\(xs=[]\/∃ g cap',Value.slice ad n cap=.slice (some ⟨g,0,none⟩) n cap'/\∀ j u,xs[j]? = some u->w.cell? ⟨g,0+j,none⟩=some u):=by
      by_cases h00:n=0
      . have hf0:c.flat=[]:=List.eq_nil_of_length_eq_zero (by rw [Cell.ym0 hu,<-hn,h00];simp);rw [hf0];exact ⟨[],trivial,.inl rfl⟩
      . obtain ⟨hre,had,arr,Tb,fz,hheap,hsz⟩:=hcap (by omega)
        rcases h0 with ⟨h00',_⟩ | ⟨bb,vs,q,Tb',e1,hh,hr,hT⟩
        . omega
        . have hbk:bk (ρ b)=bb:=by rw [e1];rfl
          rw [hbk] at had;refine ⟨vs,hr,.inr ⟨bb,cap,by rw [had];simp,fun jj u hj=>?_⟩⟩;rw [Nat.zero_add];exact w02 hh hj
     obtain ⟨xs,hxr,hxc⟩:=hxs
     have hxl:xs.length=n*es':=by rw [hxr.length,Cell.ym0 hu,hn,hcesz]
     have hfd:(Builtin.firstCells j.size m (.slice yad m ycap)).run P w.drew=.ok news.toArray w.drew:=vfb w.drew m _ news ⟨_,_,rfl⟩ (by rw [hjs];exact hnl) hnc';have hfo:(Builtin.firstCells j.size n (.slice ad n cap)).run P w.drew=.ok xs.toArray w.drew:=vfb w.drew n _ xs ⟨_,_,rfl⟩ (by rw [hjs];exact hxl) (hxc.imp id fun ⟨g,cap',e1,hc⟩=>⟨g,0,cap',e1,hc⟩);have hrun:=vdy (P:=P) hd0 hj hz' w o.type hfd hfo hold (by rw [hjb,hn];exact hb1') (by rw [hn];exact hb2');have hge:=grownCap_ge w (n+m) cap e;have hk0:=Went.kill hw1.inv hb1;have hgn:=xml hk0.inv hkf (e:=e) (es:=es') (n:=n) (m:=m) (cap:=grownCap w (n+m) cap e) (k:=k) (T:=T0) (c':=c') (all:=xs++news) (rest:=Builtin.zeroCells z'.cells (grownCap w (n+m) cap e-(n+m))) hu' (by rw [hcnt',<-hn]) hk'
      (by rw [hflat'];exact (hxr.app hnr).keep hk0.keep) (by rw [List.length_append,hxl,hnl,Nat.add_mul]) hge (by rw [size_zeroCells,hzs])
     refine ⟨_,_,_,hexec _ _ _ _ hv hvy hrun,hw1.trans (hk0.trans hgn.1),?_⟩;rw [hcnt',<-hn];exact hgn.2
 ·
  rename_i c0 hxe;split at hD
  case h_2=>cases hD
  rename_i hzc
  cases hD;rw [hxe] at hx;obtain ⟨hu,hcnt0⟩:=zaj es ik;obtain ⟨ad,hv⟩:=wwu (τ:=fun _=>⟨Go.undef,0⟩) hzc (RdT.of (show RdC _ w (a.eval x) c0 from hx));obtain ⟨m,news,fy,⟨yad,ycap,hvy⟩,hnl,hnr,hnc,hu',hcnt',hesz',hcesz,hflat',hb1',hb2'⟩:=va8 hes ztg hu hyr;rw [hcnt0] at hcnt' hb1' hb2';show ∃ v w' ρ',_/\Went Γ E.Mo ρ J' w ρ' (η1.set nb (.arr c' 0 (appT (some e) e))) w'/\SVR (η1.set nb (.arr c' 0 (appT (some e) e))) ρ' (MX E.Mo ρ' (η1.set nb (.arr c' 0 (appT (some e) e)))) w' v _;by_cases hm0:m=0
  . subst hm0;have hw2:=Went.new hw1.inv (zgs w) hfr (v:=.pointer none) (x:=.arr c' 0 (appT (some e) e)) (by simp) (fun _ hr=>absurd rfl hr) (fun m=>⟨⟨hu',Nat.zero_le _⟩,.inl ⟨by rw [hcnt'],rfl⟩⟩);refine ⟨.slice ad 0 0,w,_,hexec _ _ _ _ hv hvy (nothing ad yad ycap),hw1.trans hw2,⟨_,by rw [List.getElem?_set_self hlt],by simp⟩,ad,0,?_,by omega,fun h=>absurd rfl h⟩;rw [hcnt']
  . have hnc':news=[]\/∃ b off cap,Value.slice yad m ycap=.slice (some ⟨b,off,none⟩) m cap/\∀ j u,news[j]? = some u->w.cell? ⟨b,off+j,none⟩=some u:=
     hnc.imp id fun ⟨b,off,cap,e,h⟩=>⟨b,off,cap,hvy▸e,fun j u hj=>(h j u hj).2⟩
    have hfd:(Builtin.firstCells j.size m (.slice yad m ycap)).run P w.drew=.ok news.toArray w.drew:=vfb w.drew m _ news ⟨_,_,rfl⟩ (by rw [hjs];exact hnl) hnc';have hfo:(Builtin.firstCells j.size 0 (.slice ad 0 0)).run P w.drew=.ok ([]:List Value).toArray w.drew:=vfb w.drew 0 _ [] ⟨_,_,rfl⟩ (by simp) (.inl rfl);have hrun:=vdy (P:=P) hd0 hj hz' w o.type hfd hfo (by omega) (by rw [hjb];exact hb1') hb2';have hge:=grownCap_ge w (0+m) 0 e;have hf0:(yo1 es ik).flat=[]:=List.eq_nil_of_length_eq_zero (by rw [Cell.ym0 hu,hcnt0];simp);have hgn:=xml hw1.inv hfr (e:=e) (es:=es) (n:=0) (m:=m) (cap:=grownCap w (0+m) 0 e) (k:=0) (T:=some e) (c':=c') (all:=[]++news) (rest:=Builtin.zeroCells z'.cells (grownCap w (0+m) 0 e-(0+m))) hu' hcnt' (Nat.zero_le _)
     (by rw [hflat',hf0];exact hnr) (by rw [List.nil_append,hnl,Nat.zero_add]) hge (by rw [size_zeroCells,hzs])
    refine ⟨_,_,_,hexec _ _ _ _ hv hvy hrun,hw1.trans hgn.1,?_⟩;rw [hcnt'];exact hgn.2
 . cases hD
def kEq:Value->Value->Option Bool
 | .int k a,.int k' b=>if k=k' then some (a==b) else none
 | .string a,.string b=>some (seq a b)
 | .bool a,.bool b=>some (a==b)
 | _,_=>none
def zgw:List (Value×SV)->Value->Option (Option SV)
 | [],_=>some none
 | (k',x)::r,k=>match kEq k k' with
  | some true=>some (some x)
  | some false=>zgw r k
  | none=>none
def updM:List (Value×SV)->Value->SV->Option (List (Value×SV))
 | [],k,v=>some [(k,v)]
 | (k',x)::r,k,v=>match kEq k k' with
  | some true=>some ((k,v)::r)
  | some false=>(updM r k v).map ((k',x)::·)
  | none=>none
def z7b (sh:Sh):Value->Bool
 | .int k _=>match sh with
  | .int k'=>k==k'
  | _=>false
 | .string _=>match sh with
  | .string=>true
  | _=>false
 | .bool _=>match sh with
  | .bool=>true
  | _=>false
 | _=>false
def keyV:SV->Option Value
 | .one (.dat (.raw v))=>some v
 | _=>none
theorem w4u {d:TypeDesc} (h:z7b (shOf P d) k=true):(∃ q n,d=.int q/\k=.int q n)\/(∃ s,d=.string/\k=.string s)\/(∃ b,d=.bool/\k=.bool b):=by
 unfold z7b at h;split at h
 . rename_i q n;split at h
   . rename_i q' hs
     have:=w4c hs
     subst this;simp only [beq_iff_eq] at h;subst h;exact .inl ⟨_,_,rfl,rfl⟩
   . cases h
 . split at h
   . rename_i s _ hs;exact .inr (.inl ⟨_,zms hs,rfl⟩)
   . cases h
 . split at h
   . rename_i b _ hs;exact .inr (.inr ⟨_,wvy hs,rfl⟩)
   . cases h
 . cases h
theorem run_checkKey (htk:mkTI P kt=some tk) (hk:z7b tk.sh k=true) (b:Bool) (n:Nat) (w:World):(Instr.checkKey b (n+1) kt k).run P w=.ok () w:=by
 obtain ⟨d,i,z,hd,_,_,_,_,_,_,_,hsh⟩:=(vnz htk).ex;rw [hsh] at hk
 rcases w4u hk with ⟨q,n,rfl,rfl⟩ | ⟨s,rfl,rfl⟩ | ⟨b,rfl,rfl⟩<;>simp [Instr.checkKey,voj hd]
theorem wkk {d:TypeDesc} (h:z7b (shOf P d) k=true):Instr.sameNow d k k'=kEq k k':=by
 rcases w4u h with ⟨q,n,rfl,rfl⟩ | ⟨s,rfl,rfl⟩ | ⟨b,rfl,rfl⟩<;>cases k'<;>first | rfl | exact congrArg some (beq_toListBytes _ _)
section
variable {J:List SB} {ρ:Nat->Value} {M:Nat->Nat->Prop} {w:World}
theorem z7z {d:TypeDesc} {k:Value} (hk:z7b (shOf P d) k=true):∀{es:List MapEntry} {l:List (Value×SV)} (i:Nat),EnR J ρ M w es l->∀{r:Option SV},zgw l k=some r->
 (r=none/\Instr.findNow d k es i=some none)\/∃ x j v,r=some x/\Instr.findNow d k es i=some (some (j,v))/\SVR0 J ρ M w v x
 | [],[],i,_,r,h=>by cases h;exact .inl ⟨rfl,rfl⟩
 | e::es,(k',x)::l,i,hr,r,h=>by
  simp only [zgw] at h
  have hs:Instr.sameNow d k e.key=kEq k k':=by rw [wkk hk,hr.1.1]
  unfold Instr.findNow;rw [hs];split at h
  . rename_i he;cases h;rw [he];exact .inr ⟨x,i,e.val,rfl,rfl,hr.1.2⟩
  . rename_i he;rw [he];exact z7z hk (i+1) hr.2 h
  . cases h
theorem zac {d:TypeDesc} {k:Value} (hk:z7b (shOf P d) k=true) {v:Value} {x:SV} (hv:SVR0 J ρ M w v x) (clk:Nat):∀{es:List MapEntry} {l l':List (Value×SV)} (i:Nat),EnR J ρ M w es l->updM l k x=some l'->
 (Instr.findNow d k es i=some none/\EnR J ρ M w (es++[{ key:=k,val:=v,born:=clk }]) l')\/
 ∃ j u e,Instr.findNow d k es i=some (some (i+j,u))/\es[j]? = some e/\kEq k e.key=some true/\EnR J ρ M w (es.modify j fun e=>{ e with key:=k,val:=v }) l'
 | [],[],l',i,_,h=>by cases h;exact .inl ⟨rfl,⟨⟨rfl,hv⟩,trivial⟩⟩
 | e::es,(k',y)::l,l',i,hr,h=>by
  simp only [updM] at h
  have hs:Instr.sameNow d k e.key=kEq k k':=by rw [wkk hk,hr.1.1]
  unfold Instr.findNow;rw [hs];split at h
  . rename_i he
    cases h;rw [he];exact .inr ⟨0,e.val,e,rfl,rfl,by rw [hr.1.1];exact he,⟨⟨rfl,hv⟩,hr.2⟩⟩
  . rename_i he;obtain ⟨l2,h2,rfl⟩:=Option.map_eq_some_iff.1 h;rw [he]
    rcases zac hk hv clk (i+1) hr.2 h2 with ⟨h3,h4⟩ | ⟨j,u,e',h3,h4,h5,h6⟩
    . exact .inl ⟨h3,⟨hr.1,h4⟩⟩
    . exact .inr ⟨j+1,u,e',by rw [show i+(j+1)=i+1+j by omega];exact h3,by simpa using h4,h5,⟨hr.1,h6⟩⟩
  . cases h
end
theorem zif {d:TypeDesc} (hk:z7b (shOf P d) k=true) (h:kEq k k'=some true) (n:Nat):Instr.sameBits n k' k=true:=by
 rcases w4u hk with ⟨q,m,rfl,rfl⟩ | ⟨s,rfl,rfl⟩ | ⟨b,rfl,rfl⟩
 . cases k'<;>simp only [kEq] at h<;>first | (cases h;done) | skip
   split at h
   . rename_i e;simp at h;subst e;subst h;simp [Instr.sameBits]
   . cases h
 . cases k'<;>simp only [kEq] at h<;>first | (cases h;done) | skip
   have e:=(MapKept.bytes_beq _ _).1 ((beq_toListBytes _ _).trans (Option.some.inj h));subst e;simp only [Instr.sameBits];exact (MapKept.bytes_beq _ _).2 rfl
 . cases k'<;>simp only [kEq] at h<;>first | (cases h;done) | skip
   simp at h;subst h;simp [Instr.sameBits]
def zeroV:Value->Option SV
 | .agg vs=>if vs.toList.all (·.oneCell') then some (.agg ((vs.toList.map wqc).map .dat)) else none
 | .tuple _=>none
 | v=>some (.one (.dat (wqc v)))
def w2m (P:Program) (t:TypeId):Option SV:=match P.info? t with
 | some i=>match i.zero with
  | some z=>zeroV z
  | none=>none
 | none=>none
theorem vml {t : TypeId} {x : SV} (h : w2m P t = some x) : ∃ z, (∀ w, (zeroValue t).run P w = .ok z w) ∧ ∀ (J : List SB) (ρ : Nat → Value) (M : Nat → Nat → Prop) (w : World), SVR0 J ρ M w z x := by
 unfold w2m at h;split at h
 . rename_i i hi;split at h
   . rename_i z hz;refine ⟨z,fun w=>xt1 hi hz,fun J ρ M w=>?_⟩;unfold zeroV at h;split at h
     . rename_i vs;split at h
       . rename_i hall
         cases h;exact ⟨vs.toList,by simp,xgi (fun v hv=>(List.all_eq_true.1 hall) v hv)⟩
       . cases h
     . cases h
     . rename_i h1 h2
       cases h;refine yb5 ?_
       cases z<;>first | rfl | exact absurd rfl (h1 _) | exact absurd rfl (h2 _)
   . cases h
 . cases h
theorem v8e {d:Nat} (ho:o.op=.makeMap T none) (hdst:o.dst=some d) (hroom:xvh J nb=true) :
 yvu Γ P o I J [d] [nb] [(d,.one (.mp nb))] [(nb,.map [])]:=by
 refine yvu.val hdst (fun E ρ I' J' a w hag hah hI=>?_);have hfr:=hah.room (by simp) hroom;have hlt:nb<J'.length:=(List.getElem?_eq_some_iff.1 hfr).1;have hb:Below w.heap.size w (w.alloc (.map #[] 0)):=(Below.refl _ _).alloc (Nat.le_refl _) _;refine ⟨.map (some w.heap.size),w.alloc (.map #[] 0),upd ρ nb (.map (some w.heap.size)),?_,Went.new hI.inv hb hfr (by simp) (fun _ _=>Nat.le_refl _) (fun m=>⟨w.heap.size,#[],0,rfl,zuf w _,trivial⟩),?_⟩
 . simp [execOp,ho,Instr.makeMap]
 . exact ⟨⟨_,by simp [appL,hlt];rfl,by simp⟩,by rw [vgt],rfl⟩
def wog (ok:Bool) (r:Option SV) (zero:SV):SV:=match ok with
 | true=>match r with
  | some x=>.tup [x,.one (.dat (.raw (.bool true)))]
  | none=>.tup [zero,.one (.dat (.raw (.bool false)))]
 | false=>match r with
  | some x=>x
  | none=>zero
def xkx (J:List SB):SV->Option (Nat×List (Value×SV))
 | .one (.mp b)=>match gB J b with
  | .map es=>some (b,es)
  | _=>none
 | _=>none
theorem wi0 {ok:Bool} {d:Nat} (ho:o.op=.lookup T x y ok) (hdst:o.dst=some d) (hti:mkTI P T=some ti) (hsh:ti.sh=.map kt et) (htk:mkTI P kt=some tk)
 {es:List (Value×SV)} (hm:xkx J (opdS Γ I x)=some (b,es)) (hkv:keyV (opdS Γ I y)=some k) (hk:z7b tk.sh k=true) {r:Option SV} (hr:zgw es k=some r) {zero:SV} (hz:w2m P et=some zero) :
 yvu Γ P o I J (d::(orr x++orr y)) [b] [(d,wog ok r zero)] []:=by
 refine yvu.pure hdst (fun E ρ I' J' a w hag hah hI=>?_);have hx:=hI.opd x;have hy:=hI.opd y;rw [hag.opd (fun t ht=>by simp [ht])] at hx hy;unfold xkx at hm;split at hm
 case h_2=>cases hm
 rename_i b' hxe;split at hm
 case h_2=>cases hm
 rename_i es' hb
 cases hm;rw [hxe] at hx
 have hb':gB J' b=.map es:=by rw [hah.gB (by simp)];exact hb
 obtain ⟨bb,ents,clk,he,hh,hen⟩:=hI.sbr hb' (by simp)
 have hkey:a.eval y=k:=by
  unfold keyV at hkv;split at hkv
  . rename_i v hye;cases hkv;rw [hye] at hy;exact RdC.zb6 hy
  . cases hkv
 obtain ⟨dd,i,z,hd,hi,hz',_,_,_,_,_,hsh'⟩:=(vnz hti).ex;have hmap:=vji (hsh'.symm.trans hsh);subst hmap;obtain ⟨dk,ik,zk,hdk,_,_,_,_,_,_,_,hshk⟩:=(vnz htk).ex
 have hmv:a.eval x=.map (some bb):=by rw [hx.2.1,he]
 obtain ⟨zv,hzrun,hzr⟩:=vml hz;have hck:=run_checkKey htk hk ents.isEmpty 9999 w
 have hk':z7b (shOf P dk) k=true:=by rw [<-hshk];exact hk
 have hrun:∀ fo,Instr.findNow dk k ents.toList 0=some fo->(Instr.lookup T (.map (some bb)) k ok).run P w=.ok (if ok then .tuple #[(fo.map (·.2)).getD zv,.bool fo.isSome] else (fo.map (·.2)).getD zv) w:=fun fo hfo=>by
  cases fo with
  | none=>cases ok<;>simp [Instr.lookup,voj hd,getObj,Sem.run,hh,hck,Instr.findKey,voj hdk,hfo,hzrun]
  | some p=>cases ok<;>simp [Instr.lookup,voj hd,getObj,Sem.run,hh,hck,Instr.findKey,voj hdk,hfo]
 rcases z7z hk' 0 hen hr with ⟨rfl,hf⟩ | ⟨xx,j,v,rfl,hf,hv⟩
 . refine ⟨_,by simp only [execOp,ho,hmv,hkey,Sem.run_bind,hrun _ hf];rfl,?_⟩
   cases ok
   . exact SVR.of0 (hzr _ _ _ _)
   . exact ⟨[zv,.bool false],rfl,hzr _ _ _ _,RdC.raw rfl,trivial⟩
 . refine ⟨_,by simp only [execOp,ho,hmv,hkey,Sem.run_bind,hrun _ hf];rfl,?_⟩
   cases ok
   . exact SVR.of0 hv
   . exact ⟨[v,.bool true],rfl,hv,RdC.raw rfl,trivial⟩
def yuh:SV->Bool
 | .tup _=>false
 | _=>true
theorem SVR.to0 {v:Value} {x:SV} (hn:yuh x=true) (h:SVR J ρ M w v x):SVR0 J ρ M w v x:=by
 cases x<;>first | exact h | cases hn
theorem zhl {z:Operand} (ho:o.op=.mapUpdate T x y z\/o.op=.insert T x y z) (hdst:o.dst=none) (hti:mkTI P T=some ti) (hsh:ti.sh=.map kt et) (htk:mkTI P kt=some tk)
 {es es':List (Value×SV)} (hm:xkx J (opdS Γ I x)=some (b,es)) (hkv:keyV (opdS Γ I y)=some k) (hk:z7b tk.sh k=true) (hn:yuh (opdS Γ I z)=true) (hu:updM es k (opdS Γ I z)=some es') :
 yvu Γ P o I J (orr x++orr y++orr z) [b] [] [(b,.map es')]:=by
 refine yvu.skip hdst (fun E ρ I' J' a w hag hah hI=>?_);have hx:=hI.opd x;have hy:=hI.opd y;have hz:=hI.opd z;rw [hag.opd (fun t ht=>by simp [ht])] at hx hy hz;unfold xkx at hm;split at hm
 case h_2=>cases hm
 rename_i b' hxe;split at hm
 case h_2=>cases hm
 rename_i es0 hb
 cases hm;rw [hxe] at hx
 have hb':gB J' b=.map es:=by rw [hah.gB (by simp)];exact hb
 obtain ⟨bb,ents,clk,he,hh,hen⟩:=hI.sbr hb' (by simp)
 have hkey:a.eval y=k:=by
  unfold keyV at hkv;split at hkv
  . rename_i v hye;cases hkv;rw [hye] at hy;exact RdC.zb6 hy
  . cases hkv
 obtain ⟨dd,i,zz,hd,hi,hz',_,_,_,_,_,hsh'⟩:=(vnz hti).ex;have hmap:=vji (hsh'.symm.trans hsh);subst hmap;obtain ⟨dk,ik,zk,hdk,_,_,_,_,_,_,_,hshk⟩:=(vnz htk).ex
 have hmv:a.eval x=.map (some bb):=by rw [hx.2.1,he]
 have hck:=run_checkKey htk hk false 9999 w
 have hk':z7b (shOf P dk) k=true:=by rw [<-hshk];exact hk
 have hbk:bk (ρ b)=bb:=by rw [he];rfl
 have fin:∀ ob:Obj,(∃ en' clk',ob=.map en' clk'/\EnR J' ρ (MX E.Mo ρ J') w en'.toList es')->(Instr.mapUpdate T (.map (some bb)) k (a.eval z)).run P w=.ok () { w with heap:=w.heap.setIfInBounds bb ob }->
  ∃ w' ρ',(execOp a.eval o).run P w=.ok .skip w'/\Went Γ E.Mo ρ J' w ρ' (appL [(b,.map es')] J') w':=fun ob hob hrun=>by
  obtain ⟨en',clk',rfl,hen'⟩:=hob;have hlt:bb<w.heap.size:=(Array.getElem?_eq_some_iff.1 hh).1;refine ⟨{ w with heap:=w.heap.setIfInBounds bb (.map en' clk') },ρ,?_,Went.write hI.inv (vil hb' (by simp)) rfl (by rw [he];simp [real]) rfl (fun o=>Iff.rfl) (by simp) rfl rfl rfl (fun kk hkk=>?_) (fun i arr T fz hi'=>?_) (fun oo u _ hc=>?_) (fun m=>⟨bb,en',clk',he,by simp [hlt],hen'.mv m⟩)⟩
  . rcases ho with ho | ho<;>simp [execOp,ho,hmv,hkey,hrun]
  . rw [hbk] at hkk;simp only [Array.getElem?_setIfInBounds_ne (Ne.symm hkk)]
  . by_cases e:i=bb
    . subst e;rw [hh] at hi';cases hi'
    . exact ⟨arr,T,fz,by simp only [Array.getElem?_setIfInBounds_ne (Ne.symm e)];exact hi',Nat.le_refl _⟩
  . rw [hbk] at hc;simp [World.cell?,hh] at hc
 rcases zac hk' (hz.to0 hn) clk 0 hen hu with ⟨hf,hen'⟩ | ⟨j,u,e,hf,hj,hq,hen'⟩
 . refine fin (.map (ents.push { key:=k,val:=a.eval z,born:=clk }) (clk+1)) ⟨_,_,rfl,by simpa using hen'⟩ ?_;simp [Instr.mapUpdate,voj hd,getObj,setObj,Sem.run,hh,hck,Instr.findKey,voj hdk,hf]
 . refine fin (.map (ents.modify j fun e=>{ e with key:=k,val:=a.eval z }) clk) ⟨_,_,rfl,by simpa using hen'⟩ ?_;rw [Nat.zero_add] at hf
   have hj':ents[j]? = some e:=by simpa using hj
   have hsb:=zif hk' hq 10000;simp [Instr.mapUpdate,voj hd,getObj,setObj,Sem.run,hh,hck,Instr.findKey,voj hdk,hf,Instr.keyThatStays,hj',hsb]
end Go.Hp
