/- The proof, part Z7: Mn. -/
import Derived.Test.YtocdljjhobaabaaGreatDoorZ6
namespace Go.Slot
open Go Go.RowKit
variable {P:Program}
def lift (E:Env) (Q:Exit->List AV->Prop) (e:Exit) (a:Act) (w:World):Prop:=∃ σ,Q e σ/\Rel E σ a w
def vfq (P:Program) (c:Code) (Q:Exit->List AV->Prop) (σ:List AV):Prop:=∀(E:Env) (a:Act) (w:World),Rel E σ a w->c.wp P (lift E Q) a w
def wkf (next:List AV->Prop) (Q:Exit->List AV->Prop):Exit->List AV->Prop
 | .normal,σ=>next σ
 | e,σ=>Q e σ
def xyi (id:Nat) (Q:Exit->List AV->Prop):Exit->List AV->Prop
 | .exit id',σ=>if id'=id then Q .normal σ else Q (.exit id') σ
 | e,σ=>Q e σ
theorem vfq.mono {c:Code} {Q Q':Exit->List AV->Prop} {σ:List AV} (h:vfq P c Q σ) (hq:∀ e σ,Q e σ->Q' e σ):vfq P c Q' σ:=fun E a w hR=>
 wp_mono (h E a w hR) (fun e _a _w ⟨σ,h1,h2⟩=>⟨σ,hq e σ h1,h2⟩)
theorem wdm {Q:Exit->List AV->Prop} {σ:List AV} (h:Q .normal σ):vfq P .skip Q σ:=fun _ _ _ hR=>wp_skip ⟨σ,h,hR⟩
theorem vik {Q:Exit->List AV->Prop} {σ:List AV} {id:Nat} (h:Q (.exit id) σ):vfq P (.exit id) Q σ:=fun _ _ _ hR=>wp_exit ⟨σ,h,hR⟩
theorem xbk {Q:Exit->List AV->Prop} {σ:List AV} (h:Q .ret σ):vfq P .ret Q σ:=fun _ _ _ hR=>wp_ret ⟨σ,h,hR⟩
theorem vy9 {x y:Code} {Q:Exit->List AV->Prop} {σ:List AV} (h:vfq P x (wkf (fun σ=>vfq P y Q σ) Q) σ):vfq P (.seq x y) Q σ:=fun E a w hR=>
 wp_seq (wp_mono (h E a w hR) (fun e a w ⟨σ,h1,h2⟩=>by
  cases e<;>first | exact h1 E a w h2 | exact ⟨σ,h1,h2⟩))
theorem ysl {id:Nat} {c:Code} {Q:Exit->List AV->Prop} {σ:List AV} (h:vfq P c (xyi id Q) σ):vfq P (.block id c) Q σ:=fun E a w hR=>
 wp_block (wp_mono (h E a w hR) (fun e a w ⟨σ,h1,h2⟩=>by
  cases e with
  | exit id'=>
   simp only [Exit.inBlock];simp only [xyi] at h1;split at h1
   . rename_i hi;rw [if_pos hi];exact ⟨σ,h1,h2⟩
   . rename_i hi;rw [if_neg hi];exact ⟨σ,h1,h2⟩
  | _=>exact ⟨σ,h1,h2⟩))
theorem xrc {c:Operand} {x y:Code} {Q:Exit->List AV->Prop} {σ:List AV} {b:Bool} (hc:opd σ c=.one (.raw (.bool b))) (ht:b=true->vfq P x Q σ) (hf:b=false->vfq P y Q σ):vfq P (.cond c x y) Q σ:=fun E a w hR=>by
 obtain ⟨τ,M,hI⟩:=hR;have hs:=hI.opd c;rw [hc] at hs;have e:a.eval c=.bool b:=RdC.xcn hs;exact wp_cond_split e (fun h=>ht h E a w ⟨τ,M,hI⟩) (fun h=>hf h E a w ⟨τ,M,hI⟩)
theorem v8a {id:Nat} {ops:Array Oper} {Q:Exit->List AV->Prop} {σ:List AV} (h:Run P ops ops.toList σ (Q .normal)):vfq P (.region id ops false) Q σ:=fun _E a w hR=>
 wp_region_list (Run.wpList (fun σ _a _w h1 h2=>⟨σ,h1,h2⟩) _ σ a w h hR)
theorem yck {id:Nat} {ops:Array Oper} {Q:Exit->List AV->Prop} {σ:List AV} (hm:P.follows .mixedOrders=true) (h:RunD P ops ops.toList σ ops.toList [] σ (Q .normal)):vfq P (.region id ops true) Q σ:=fun _E _a _w hR=>
 wo1 hm (fun σ _a _w h1 h2=>⟨σ,h1,h2⟩) h hR
def StLe (σ σ':List AV):Prop:=∀(E:Env) (a:Act) (w:World),Rel E σ a w->Rel E σ' a w
theorem StLe.refl (σ:List AV):StLe σ σ:=fun _ _ _ h=>h
theorem StLe.trans {σ σ' σ'':List AV} (h:StLe σ σ') (h':StLe σ' σ''):StLe σ σ'':=fun E a w hR=>h' E a w (h E a w hR)
theorem vfq.le {c:Code} {Q:Exit->List AV->Prop} {σ σ':List AV} (h:StLe σ σ') (hc:vfq P c Q σ'):vfq P c Q σ:=fun E a w hR=>hc E a w (h E a w hR)
def xkq (P:Program) (σ:List AV):ResultVar->Option AV
 | .tmp t=>match gt σ t with
  | .one c=>some (.one c.bare)
  | .agg cs=>some (.agg (yf8 cs))
  | .elt cs=>some (.elt cs)
  | .box cs=>some (.elt (yf8 cs))
  | .ptr s off=>match gt σ s with
   | .box cs=>some (.elt (yf8 (cs.drop off)))
   | _=>none
  | .arr _ c none=>some (.one c)
  | .asl s=>match gt σ s with
   | .arr _ c none=>some (.one c)
   | _=>none
  | .awn s m lo n=>match gt σ s with
   | .arr _ c none=>if lo+n<=c.cnt/\m=c.esz then some (.one (c.sub lo n)) else none
   | _=>none
  | _=>none
 | .cell a t=>match mkTI P t with
  | some ti=>match gt σ a with
   | .box cs=>match wdn ti cs with
    | some (.one c)=>some (.one c.bare)
    | some (.agg cs)=>some (.agg (yf8 cs))
    | _=>none
   | _=>none
  | none=>none
def wr8 (P:Program) (σ:List AV):List ResultVar->Option (List AV)
 | []=>some []
 | r::rs=>match xkq P σ r,wr8 P σ rs with
  | some x,some l=>some (x::l)
  | _,_=>none
def ws1 (σ:List AV):List ResultVar->Option Cell
 | [.tmp t]=>match gt σ t with
  | .arr [] c none=>some c
  | .asl s=>match gt σ s with
   | .arr [] c none=>some c
   | _=>none
  | .awn s m lo n=>match gt σ s with
   | .arr [] c none=>if lo=0/\n<=c.cnt/\m=c.esz then some (c.sub 0 n) else none
   | _=>none
  | .one (.tok _ (.ints k l))=>if 0<l.length then some (.ints k l) else none
  | _=>none
 | _=>none
def wv1 (P:Program) (σ:List AV) (rs:List ResultVar):Option AV:=
 match ws1 σ rs with
 | some c=>some (.arr [] c none)
 | none=>match wr8 P σ rs with
  | some [x]=>some x
  | some l=>some (.tup l)
  | none=>none
inductive RLe:AV->AV->Prop
 | own {c:Cell}:RLe (.arr [] c none) (.one c)
 | one {x y:AV} (h:AV.Le x y):RLe x y
 | tup {l l':List AV} (h:LeS l l'):RLe (.tup l) (.tup l')
theorem RdB.le {M:Nat->Nat->Prop} {w:World} {v:Value} {x y:AV} (h:AV.Le x y) (hr:RdB M w v x):RdB M w v y:=by
 cases h with
 | refl=>exact hr
 | any=>exact trivial
 | one h=>exact RdC.le h hr
 | agg h =>
  obtain ⟨vs,rfl,hr⟩:=hr;refine ⟨vs,rfl,?_⟩
  have:∀{vs:List Value} {cs cs':List Cell},LeL cs cs'->RdD M w vs cs->RdD M w vs cs':=by
   intro vs
   induction vs with
   | nil=>intro cs cs' h hr;cases h with
    | nil=>trivial
    | cons _ _=>exact hr.elim
   | cons v vs ih=>intro cs cs' h hr;cases h with
    | nil=>exact hr.elim
    | cons h t=>exact ⟨hr.1.le h,ih t hr.2⟩
  exact this h hr
 | box h=>exact hr.elim
 | obx h=>exact hr.elim
theorem RdBL.le {M:Nat->Nat->Prop} {w:World}:∀{vs:List Value} {l l':List AV},LeS l l'->RdBL M w vs l->RdBL M w vs l'
 | [],_,_,.nil,_=>trivial
 | _::_,_,_,.cons h t,hr=>⟨hr.1.le h,RdBL.le t hr.2⟩
 | [],_,_,.cons _ _,hr=>hr.elim
 | _::_,_,_,.nil,hr=>hr.elim
theorem RLe.xeo {x y:AV} (h:RLe x y) (hy:y.xeo=true):x.xeo=true:=by
 cases h with
 | own=>cases hy
 | one h=>exact h.xeo hy
 | tup h=>cases hy
theorem RdR.le {M:Nat->Nat->Prop} {w:World} {v:Value} {x y:AV} (h:RLe x y) (hr:RdR M w v x):RdR M w v y:=by
 cases h with
 | own=>exact hr.2.2.read
 | tup h=>obtain ⟨vs,rfl,hr⟩:=hr;exact ⟨vs,rfl,hr.le h⟩
 | one h=>
  cases h with
  | refl=>exact hr
  | any=>exact trivial
  | one h=>exact RdB.le (.one h) hr
  | agg h=>exact RdB.le (.agg h) hr
  | box h=>exact hr.elim
  | obx h=>exact hr.elim
def retA (P:Program) (rs:List ResultVar) (res:AV):Exit->List AV->Prop
 | .ret,σ | .normal,σ=>∃ av,wv1 P σ rs=some av/\RLe av res
 | _,_=>False
def xtz (tm:Array Value):ResultVar->Sem Value
 | .tmp t=>pure (tm.getD t Go.undef)
 | .cell a t=>do loadVar t (<-asAddr (tm.getD a Go.undef))
theorem xhx.shrink {M M':Nat->Nat->Prop} (w:World) (h:∀ b o,M' b o->M b o):xhx M M' w w:=fun b o _u hm hc=>⟨fun h'=>hm (h b o h'),hc⟩
theorem Cell.z0k {c:Cell} (hu:c.uni) {n:Nat} (hn:n<=c.cnt):(c.sub 0 n).uni/\(c.sub 0 n).cnt=n/\(c.sub 0 n).esz=c.esz/\(c.sub 0 n).flat=c.flat.take (n*c.esz):=by
 cases c with
 | ints k l=>
  simp only [Cell.cnt] at hn;refine ⟨trivial,by simp [Cell.sub,Cell.cnt];omega,rfl,?_⟩;simp [Cell.sub,Cell.flat,Cell.esz,List.map_take]
 | sl m rows=>
  simp only [Cell.cnt] at hn;have hu:∀ r∈rows,r.length=m:=hu;refine ⟨fun r hr=>hu r (List.mem_of_mem_take (by simpa [Cell.sub] using hr)),by simp [Cell.sub,Cell.cnt];omega,rfl,?_⟩;simp only [Cell.sub,Cell.flat,Cell.esz,List.drop_zero];rw [z4s rows n hu]
 | _=>exact hu.elim
theorem frE {E:Env} {τ:Nat->TV} {M:Nat->Nat->Prop} {σ:List AV} {a:Act} {w:World} (hI:RelI E τ M σ a w) {s:Nat} {hv:AV} (hs:σ[s]? = some hv) (hf:hv.fresh=true) :
 E.N<=blk (a.tmps.getD s Go.undef)/\∀ o,¬E.M (blk (a.tmps.getD s Go.undef)) o:=by
 have hh:hv.xeo=true:=by cases hv<;>first | rfl | cases hf
 have:=(hI.hold s hv hs hh).2.2.1 hf
 exact ⟨this,fun o hm=>by have:=E.hM _ _ hm;unfold Env.N at *;omega⟩
theorem arrE {E:Env} {τ:Nat->TV} {M:Nat->Nat->Prop} {σ:List AV} {a:Act} {w:World} (hI:RelI E τ M σ a w) {s:Nat} {pre:List Value} {c:Cell} (hg:gt σ s=.arr pre c none) :
 ∃ b cap,a.tmps.getD s Go.undef=.slice (some ⟨b,pre.length,none⟩) c.cnt cap/\c.uni/\RdC E.M w (.slice (some ⟨b,pre.length,none⟩) c.cnt cap) c:=by
 have hgs:=w3d hg (by simp);have hss:=hI.gt s;rw [hg] at hss;obtain ⟨b,T,vs,q,cap,e1,hb,hr,_,hu,hcap,_⟩:=hss;have hfr:=frE hI hgs rfl;rw [e1] at hfr;exact ⟨b,cap,e1,hu,vq1 hb (hr.keep (xhx.shrink w hI.m0)) hu hcap hfr.2⟩
theorem boxE {E:Env} {τ:Nat->TV} {M:Nat->Nat->Prop} {σ:List AV} {a:Act} {w:World} (hI:RelI E τ M σ a w) {s:Nat} {cs:List Cell} (hg:gt σ s=.box cs) (off:Nat) :
 ∃ b,a.tmps.getD s Go.undef=.pointer (some ⟨b,0,none⟩)/\RdB E.M w (.pointer (some ⟨b,off,none⟩)) (.elt (yf8 (cs.drop off))):=by
 have hgs:=w3d hg (by simp);have hss:=hI.gt s;rw [hg] at hss;obtain ⟨b,vs,T,e1,hb,hr⟩:=hss;have hfr:=frE hI hgs rfl;rw [e1] at hfr;refine ⟨b,e1,b,off,vs.drop off,rfl,fun j u hj=>⟨hfr.2 _,w8h hb off j u hj⟩,?_⟩;rw [ybl];exact ((hr.bare.keep (xhx.shrink w hI.m0)).drop off)
theorem wp7 {E:Env} {τ:Nat->TV} {M:Nat->Nat->Prop} {σ:List AV} {a:Act} {w:World} (hI:RelI E τ M σ a w) {r:ResultVar} {x:AV} (h:xkq P σ r=some x) :
 ∃ v,(xtz a.tmps r).run P w=.ok v w/\RdB E.M w v x:=by
 have hsh:∀{v:Value} {y:AV},RdB M w v y->RdB E.M w v y:=fun hr=>hr.keep (xhx.shrink w hI.m0)
 cases r with
 | tmp t=>
  have hs:=hI.gt t;refine ⟨a.tmps.getD t Go.undef,rfl,?_⟩;simp only [xkq] at h;split at h
  . rename_i c hc;rw [hc] at hs;cases h;exact hsh (RdT.bare hs)
  . rename_i cs hc;rw [hc] at hs;cases h;obtain ⟨vs,e,hr⟩:=hs;exact hsh ⟨vs,e,hr.bare⟩
  . rename_i cs hc;rw [hc] at hs;cases h;exact hsh hs
  . rename_i cs hc
    cases h;obtain ⟨b,e1,hr⟩:=boxE hI hc 0;rw [e1];exact hr
  . rename_i s off hc;split at h
    . rename_i cs hg
      cases h;obtain ⟨b,e1,hr⟩:=boxE hI hg off;rw [hc] at hs;have hs:a.tmps.getD t Go.undef=.pointer (some ⟨blk (a.tmps.getD s Go.undef),off,none⟩):=hs;rw [hs,e1];exact hr
    . cases h
  . rename_i pre c hc
    cases h;obtain ⟨b,cap,e1,_,hr⟩:=arrE hI hc;rw [e1];exact hr
  . rename_i s hc;split at h
    . rename_i pre c hg
      cases h;obtain ⟨b,cap,e1,_,hr⟩:=arrE hI hg;rw [hc] at hs;have hs:a.tmps.getD t Go.undef=a.tmps.getD s Go.undef:=hs;rw [hs,e1];exact hr
    . cases h
  . rename_i s m lo n hc;split at h
    . rename_i pre c hg;split at h
      . rename_i hfit;obtain ⟨hfit,rfl⟩:=hfit
        cases h;obtain ⟨b,cap,e1,hu,hr⟩:=arrE hI hg;rw [hc] at hs;obtain ⟨ad,cap',e2,had,hn,_⟩:=hs;rw [e1] at had;rw [e2];exact hr.sub hu hfit (fun hne=>had (.inl hne)) hn
      . cases h
    . cases h
  . cases h
 | cell b t=>
  simp only [xkq] at h;split at h
  . rename_i ti hti;split at h
    . rename_i cs hg;have hs:=hI.gt b;rw [hg] at hs;obtain ⟨bl,vs,T,e,hb,hr⟩:=hs
      have key:∀ av,wdn ti cs=some av->∃ v,(loadVar t ⟨bl,0,none⟩).run P w=.ok v w/\RdA M w τ v av:=fun av hl=>
       wup (xky hti) (b:=bl) (off:=0) (vs:=vs) (fun j u hj=>by simpa using w8h hb 0 j u (by simpa using hj)) hr hl
      split at h
      . rename_i c hl
        cases h;obtain ⟨v,hrun,hrd⟩:=key _ hl;exact ⟨v,by simp [xtz,e,asAddr,hrun],hsh (RdT.bare hrd)⟩
      . rename_i cs' hl
        cases h;obtain ⟨v,hrun,hrd⟩:=key _ hl;obtain ⟨us,e2,hr2⟩:=hrd;exact ⟨v,by simp [xtz,e,asAddr,hrun],hsh ⟨us,e2,hr2.bare⟩⟩
      . cases h
    . cases h
  . cases h
theorem whs {M:Nat->Nat->Prop} {w:World} (k:IntKind):∀ l:List Int,RdD M w (l.map (Value.int k)) (l.map fun n=>.raw (.int k n))
 | []=>trivial
 | _::l=>⟨.raw rfl,whs k l⟩
theorem vu5 {E:Env} {τ:Nat->TV} {M:Nat->Nat->Prop} {σ:List AV} {a:Act} {w:World} (hI:RelI E τ M σ a w) {rs:List ResultVar} {c:Cell} (h:ws1 σ rs=some c) :
 ∃ t,rs=[.tmp t]/\OwnR E.M w (a.tmps.getD t Go.undef) c/\E.N<=blk (a.tmps.getD t Go.undef):=by
 have main:∀(s:Nat) (c0:Cell) (v:Value) (n:Nat),gt σ s=.arr [] c0 none->n<=c0.cnt->(∃ b capS cap,a.tmps.getD s Go.undef=.slice (some ⟨b,0,none⟩) c0.cnt capS/\v=.slice (some ⟨b,0,none⟩) n cap/\n<=cap/\cap<=capS)->
  OwnR E.M w v (c0.sub 0 n)/\E.N<=blk v:=fun s c0 v n hg hn ⟨b,capS,cap,e1,e2,h1,h2⟩=>by
  have hgs:=w3d hg (by simp);have hss:=hI.gt s;rw [hg] at hss;obtain ⟨b',T,vs,q,cap0,e3,hb,hr,_,hu,hcap,hcap'⟩:=hss;rw [e1] at e3;simp only [List.length_nil,Value.slice.injEq,Option.some.injEq,Addr.mk.injEq,and_true,true_and] at e3;obtain ⟨rfl,rfl⟩:=e3;have hfr:=frE hI hgs rfl;have hM:=(hI.hold s _ hgs rfl).1;rw [e1] at hfr hM;obtain ⟨su,scnt,sesz,sflat⟩:=Cell.z0k hu hn;have hvl:=hr.length;have hfl:=Cell.zjv hu;refine ⟨⟨b,T,vs.take (n*c0.esz),vs.drop (n*c0.esz)++q,cap,by rw [scnt];exact e2,by rw [hb,<-List.append_assoc (List.take _ vs),List.take_append_drop];rfl,?_,su,by rw [scnt];exact h1,?_,hfr.2⟩,by rw [e2];exact hfr.1⟩
  . rw [sflat];exact (hr.take _).keep (xhx.shrink w (fun b' o=>by rintro (h | rfl);exact hI.m0 b' o h;exact hM o))
  . rw [sesz];simp only [List.length_take,List.length_append,List.length_drop]
    have:cap*c0.esz<=capS*c0.esz:=Nat.mul_le_mul_right _ h2
    have:n*c0.esz<=c0.cnt*c0.esz:=Nat.mul_le_mul_right _ hn
    omega
 have whole:∀(s:Nat) (c0:Cell),gt σ s=.arr [] c0 none->OwnR E.M w (a.tmps.getD s Go.undef) c0/\E.N<=blk (a.tmps.getD s Go.undef):=fun s c0 hg=>by
  have hgs:=w3d hg (by simp);have hss:=hI.gt s;rw [hg] at hss;obtain ⟨b,T,vs,q,cap,e1,hb,hr,_,hu,hcap,hcap'⟩:=hss;have hfr:=frE hI hgs rfl;have hM:=(hI.hold s _ hgs rfl).1;rw [e1] at hfr hM ⊢;exact ⟨⟨b,T,vs,q,cap,rfl,by simpa using hb,hr.keep (xhx.shrink w (fun b' o=>by rintro (h | rfl);exact hI.m0 b' o h;exact hM o)),hu,hcap,hcap',hfr.2⟩,hfr.1⟩
 unfold ws1 at h;split at h
 . rename_i t;refine ⟨t,rfl,?_⟩;have hs:=hI.gt t;split at h
   . rename_i c0 hg
     cases h;exact whole t _ hg
   . rename_i s hg0;split at h
     . rename_i c0 hg
       cases h;rw [hg0] at hs;have hs:a.tmps.getD t Go.undef=a.tmps.getD s Go.undef:=hs;rw [hs];exact whole s _ hg
     . cases h
   . rename_i s m lo n hg0;split at h
     . rename_i c0 hg;split at h
       . rename_i hc;obtain ⟨rfl,hn,rfl⟩:=hc
         cases h;rw [hg0] at hs;obtain ⟨ad,cap,e2,had,h1,h2⟩:=hs;have hss:=hI.gt s;rw [hg] at hss;obtain ⟨b,T,vs,q,cap0,e3,_⟩:=hss;have had:=had (.inr rfl);rw [e3] at had h2;subst had;exact main s c0 _ n hg hn ⟨b,cap0,cap,e3,by rw [e2];simp [blk,offV],h1,by simpa [capV] using h2⟩
       . cases h
     . cases h
   . rename_i d k l hg;split at h
     . rename_i hl
       cases h;rw [hg] at hs;have hs:(a.tmps.getD t Go.undef=(τ d).v/\(τ d).sz=1)/\RdC M w (a.tmps.getD t Go.undef) (.ints k l):=hs;obtain ⟨⟨hv,hsz⟩,hrd⟩:=hs;have htok:=hI.toks d ⟨t,_,w3d hg (by simp),.inl rfl⟩;generalize hu:a.tmps.getD t Go.undef=u at hv hrd ⊢;have hne:l≠[]:=List.length_pos_iff.1 hl
       cases hrd with
       | @ints ad len cap _ _ b off hlen hcap ha hcell=>
        have ha:=ha hne;subst ha
        rcases htok with ⟨ad',hz⟩ | ⟨e,n,xs,⟨hxl,hrow⟩,_⟩
        . rw [<-hv] at hz;simp only [Value.slice.injEq] at hz;omega
        . rw [← hv] at hrow
          rcases hrow with ⟨hz,_⟩ | ⟨g,cap',cur,hz,hN,hg',hn,_,hsize,_⟩
          . cases hz
          . simp only [Value.slice.injEq,Option.some.injEq,Addr.mk.injEq,and_true] at hz;obtain ⟨⟨rfl,rfl⟩,rfl,rfl⟩:=hz;rw [hsz,Nat.mul_one] at hsize
            have hcur:∀ i (hi:i<l.length),cur.toList[i]? = some (.int k l[i]):=fun i hi=>by
             have h1:=(hcell i hi).2;rw [Nat.zero_add] at h1;simp only [World.cell?,hg'] at h1;simpa using h1
            have htake:cur.toList.take l.length=l.map (Value.int k):=by
             apply List.ext_getElem?;intro i;by_cases hi:i<l.length
             . rw [List.getElem?_take_of_lt hi,hcur i hi];simp [hi]
             . rw [List.getElem?_take_eq_none (by omega),List.getElem?_eq_none (by simp only [List.length_map];omega)]
            have hblk:blk (.slice (some ⟨b,0,none⟩) len cap)=b:=rfl;refine ⟨⟨b,e,l.map (Value.int k),cur.toList.drop l.length,cap,by rw [hlen];rfl,?_,?_,trivial,by simp only [Cell.cnt];omega,?_,fun o hm=>Nat.not_lt.2 hN (E.hM b o hm)⟩,by rw [hblk];exact hN⟩
            . rw [<-htake,List.take_append_drop,Array.toArray_toList];exact hg'
            . simp only [Cell.flat];exact whs k l
            . simp only [Cell.esz,List.length_map,List.length_drop,Array.length_toList];omega
     . cases h
   . cases h
 . cases h
theorem y3g {E:Env} {τ:Nat->TV} {M:Nat->Nat->Prop} {σ:List AV} {a:Act} {w:World} (hI:RelI E τ M σ a w):∀(rs:List ResultVar) (l:List AV),wr8 P σ rs=some l->
 ∃ vs:List Value,(rs.mapM (xtz a.tmps)).run P w=.ok vs w/\RdBL E.M w vs l
 | [],l,h=>by simp only [wr8,Option.some.injEq] at h;subst h;exact ⟨[],rfl,trivial⟩
 | r::rs,l,h=>by
  simp only [wr8] at h;split at h
  . rename_i x l' h1 h2
    cases h;obtain ⟨v,hv,hrv⟩:=wp7 hI h1;obtain ⟨vs,hvs,hrs⟩:=y3g hI rs l' h2;refine ⟨v::vs,?_,hrv,hrs⟩;rw [List.mapM_cons];simp only [Sem.run_bind,hv,Result.andThen_ok,hvs,Sem.run_pure]
  . cases h
theorem wjc {fn:Func} {E:Env} {σ:List AV} {a:Act} {w:World} {res:AV} (hR:Rel E σ a w) {av:AV} (h:wv1 P σ fn.results.toList=some av) (hle:RLe av res) :
 ∃ v,(results fn a.tmps).run P w=.ok v w/\RdR E.M w v res/\(res.xeo=true->E.N<=blk v):=by
 obtain ⟨τ,M,hI⟩:=hR;unfold wv1 at h
 have key:∀ l,wr8 P σ fn.results.toList=some l->∃ vs:List Value,(results fn a.tmps).run P w=.ok (if h:vs.toArray.size=1 then vs.toArray[0] else .tuple vs.toArray) w/\RdBL E.M w vs l:=fun l hl=>by
  obtain ⟨vs,hvs,hrs⟩:=y3g hI fn.results.toList l hl;refine ⟨vs,?_,hrs⟩
  have hres:results fn a.tmps=(fn.results.mapM (xtz a.tmps) >>= fun vs=>pure (if h:vs.size=1 then vs[0] else .tuple vs)):=by
   unfold results;refine congrArg (fun g:ResultVar->Sem Value=>(fn.results.mapM g >>= fun vs=>(pure (if h:vs.size=1 then vs[0] else .tuple vs):Sem Value))) (funext fun r=>?_)
   cases r<;>rfl
  rw [hres,Array.mapM_eq_mapM_toList];simp only [Sem.run_bind,Sem.run_map,hvs];rfl
 split at h
 . rename_i c hown
   cases h;obtain ⟨t,hrs,how,hN⟩:=vu5 hI hown
   have hres:fn.results=#[.tmp t]:=by rw [<-Array.toArray_toList (xs:=fn.results),hrs]
   refine ⟨a.tmps.getD t Go.undef,?_,RdR.le hle ⟨rfl,rfl,how⟩,fun _=>hN⟩;unfold results;rw [hres];simp
 . split at h
   . rename_i x hl
     cases h;obtain ⟨vs,hrun,hrs⟩:=key _ hl
     cases vs with
     | nil=>exact hrs.elim
     | cons v vs=>
      cases vs with
      | cons _ _=>exact hrs.2.elim
      | nil=>
       have h1:=hrs.1;refine ⟨v,hrun,RdR.le hle ?_,fun hh=>?_⟩
       . cases av with
         | tup l=>exact h1.elim
         | arr _ _ _=>exact h1.elim
         | _=>exact h1
       . have:=hle.xeo hh
         cases av<;>first | exact h1.elim | cases this
   . rename_i l hne hl
     cases h;obtain ⟨vs,hrun,hrs⟩:=key _ hl;have hlen:=hrs.length
     have h1:¬vs.toArray.size=1:=fun e=>by
      rw [List.size_toArray,hlen] at e
      match l,e with
      | [x],_=>exact hne x rfl
     rw [dif_neg h1] at hrun;exact ⟨_,hrun,RdR.le hle ⟨vs,rfl,hrs⟩,fun hh=>by have:=hle.xeo hh;cases this⟩
   . cases h
theorem x1r {M:Nat->Nat->Prop} {w:World} {vs:List Value} {args:List AV} (hM:Bounded M w) (h:RdBL M w vs args) (n:Nat) :
 Rel ⟨w,M,fun _=>False,#[],[],hM⟩ (args++List.replicate n .undef) { tmps:=vs.toArray++Array.replicate n Go.undef,defers:=[] } w:=by
 have hlen:=h.length
 have hnot:∀(i:Nat) (av:AV),(args++List.replicate n AV.undef)[i]? = some av->(∃ v,(vs.toArray++Array.replicate n Go.undef).getD i Go.undef=v/\RdB M w v av):=by
  intro i av hi;by_cases hlt:i<args.length
  . rw [List.getElem?_append_left hlt] at hi;obtain ⟨v,hv,hr⟩:=h.get i av hi;refine ⟨v,?_,hr⟩
    have hvl:i<vs.length:=by omega
    rw [List.getElem?_eq_getElem hvl] at hv;simp at hv;simp [Array.getD_eq_getD_getElem?,Array.getElem?_append,hvl,hv]
  . rw [List.getElem?_append_right (by omega)] at hi
    have hav:av=.undef:=by
     have:=List.mem_of_getElem? hi
     exact (List.mem_replicate.1 this).2
    subst hav;refine ⟨Go.undef,?_,rfl⟩;simp only [Array.getD_eq_getD_getElem?,Array.getElem?_append];rw [if_neg (by simp;omega)];simp only [Array.getElem?_replicate]
    split<;>rfl
 have props:∀(v:Value) (av:AV),RdB M w v av->av.xeo=false/\av.rf=none/\(∀ t,¬av.y1a t):=fun v av hr=>by
  cases av with
  | one c=>exact ⟨rfl,rfl,(RdB.slot (τ:=fun _=>⟨Go.undef,0⟩) (tm:=#[]) hr).2⟩
  | agg c=>exact ⟨rfl,rfl,(RdB.slot (τ:=fun _=>⟨Go.undef,0⟩) (tm:=#[]) hr).2⟩
  | elt c=>exact ⟨rfl,rfl,fun t ht=>ht⟩
  | any=>exact ⟨rfl,rfl,fun t ht=>ht⟩
  | undef=>exact ⟨rfl,rfl,fun t ht=>ht⟩
  | _=>exact hr.elim
 have nolive:∀ t,¬live (args++List.replicate n AV.undef) t:=fun t ⟨i,x,hi,hx⟩=>by
  obtain ⟨v,_,hr⟩:=hnot i x hi;exact (props v x hr).2.2 t hx
 refine ⟨fun _=>⟨Go.undef,0⟩,M,RelI.mk rfl (by simp [hlen]) ?_ (fun _ _ h=>h) hM ?_ ?_ ?_ (fun t ht=>absurd ht (nolive t)) (fun t _ _ ht=>absurd ht (nolive t)) (fun t _ _ ht=>absurd ht (nolive t)) (Nat.le_refl _) rfl rfl rfl (fun _ _ _=>rfl)⟩
 . intro i av hi;obtain ⟨v,hv,hr⟩:=hnot i av hi;show x5d M w _ _ ((vs.toArray++Array.replicate n Go.undef).getD i Go.undef) av;rw [hv];exact (RdB.slot hr).1
 . intro i av hi hh;obtain ⟨v,_,hr⟩:=hnot i av hi;rw [(props v av hr).1] at hh;cases hh
 . intro i j x y hi hj hx;obtain ⟨v,_,hr⟩:=hnot i x hi;rw [(props v x hr).1] at hx;cases hx
 . intro i av s b hi hr';obtain ⟨v,_,hr⟩:=hnot i av hi;rw [(props v av hr).2.1] at hr';cases hr'
theorem z3h.of {f:FuncId} {fn:Func} {c:Code} {args:List AV} {res:AV} (hf:P.funcs[f]? = some fn) (hb:fn.body=some c) (hname:(fn.name == "runtime.NumGoroutine")=false)
 (h:vfq P c (retA P fn.results.toList res) (args++List.replicate (fn.ntmps-args.length) .undef)):z3h P f args res:=by
 refine ⟨⟨fn,hf,hname,by rw [hb];rfl⟩,fun M w vs hM hrd=>?_⟩;have hlen:=hrd.length;refine calls_of_wp hf hb ?_;have hstart:=x1r hM hrd (fn.ntmps-args.length)
 have hsz:vs.toArray.size=args.length:=by simp [hlen]
 rw [hsz];refine wp_mono (h _ _ w hstart) ?_;rintro e a w' ⟨σ,hq,hR⟩
 have fin:∀ av,wv1 P σ fn.results.toList=some av->RLe av res->a.defers=[]/\∃ v,(results fn a.tmps).run P w'=.ok v w'/\Back M w res (.returned v) w':=fun av h1 h2=>by
  obtain ⟨v,hrun,hrd',hfr⟩:=wjc (fn:=fn) hR h1 h2;obtain ⟨τ,M',hI⟩:=hR;exact ⟨hI.hd,v,hrun,v,rfl,⟨hI.os,hI.tape,hI.output,hI.size,fun k hk=>hI.frame k hk (fun h=>h)⟩,hrd',hfr⟩
 cases e with
 | normal=>obtain ⟨av,h1,h2⟩:=hq;exact fin av h1 h2
 | ret=>obtain ⟨av,h1,h2⟩:=hq;exact fin av h1 h2
 | _=>exact hq.elim
end Go.Slot
