/- The proof, part Z4: Ha, Hb, Hc. -/
import Derived.Test.YtkbkjjahlafhoaaGreatDoorZ3
namespace Go.Hp
open Go Go.RowKit Go.Slot
inductive HC where
 | any
 | dat (c:Cell)
 | ptr (b off:Nat)
 | pel (b es i f:Nat)
 | sl (b es lo n:Nat)
 | mp (b:Nat)
 | fnr (b:Nat)
inductive SV where
 | any
 | undef
 | one (h:HC)
 | agg (hs:List HC)
 | tup (l:List SV)
 | elt (cs:List Cell)
inductive SB where
 | fresh
 | dead
 | box (hs:List HC) (T:Option TypeId)
 | arr (c:Cell) (k:Nat) (T:Option TypeId)
 | map (es:List (Value×SV))
 | clo (f:FuncId) (caps:List SV)
def SB.own:SB->Bool
 | .box _ _ | .arr _ _ _ | .map _=>true
 | _=>false
def SB.mut (o:Nat):SB->Prop
 | .box _ _=>True
 | .arr _ k _=>k<=o
 | _=>False
theorem SB.wwj {x:SB} {o:Nat} (h:x.mut o):x.own=true:=by cases x<;>first | rfl | exact h.elim
def bk:Value->Nat
 | .map (some b)=>b
 | v=>blk v
def okB (η:List SB) (b:Nat):Prop:=∃ x,η[b]? = some x/\x≠.fresh
def real (v:Value):Prop:=v≠.pointer none
def Xb (ρ:Nat->Value) (η:List SB) (k:Nat):Prop:=∃ i x,η[i]? = some x/\x.own=true/\real (ρ i)/\bk (ρ i)=k
def MX (Mo:Nat->Nat->Prop) (ρ:Nat->Value) (η:List SB) (b o:Nat):Prop:=Mo b o\/∃ i x,η[i]? = some x/\x.mut o/\real (ρ i)/\bk (ρ i)=b
def HRd (η:List SB) (ρ:Nat->Value) (M:Nat->Nat->Prop) (w:World) (v:Value):HC->Prop
 | .any=>v.oneCell'=true
 | .dat c=>RdC M w v c
 | .ptr b off=>okB η b/\v=.pointer (some ⟨bk (ρ b),off,none⟩)
 | .pel b es i f=>okB η b/\v=.pointer (some ⟨bk (ρ b),i*es+f,none⟩)
 | .sl b es lo n=>okB η b/\∃ ad cap,v=.slice ad n cap/\n<=cap/\(cap≠0->real (ρ b)/\ad=some ⟨bk (ρ b),lo*es,none⟩/\∃(arr:Array Value) (T:TypeId) (fz:Nat×Nat),w.heap[bk (ρ b)]? = some (Obj.cells arr T fz)/\(lo+cap)*es<=arr.size)
 | .mp b=>okB η b/\v=ρ b/\v.oneCell'=true
 | .fnr b=>okB η b/\v=ρ b/\v.oneCell'=true
def HRL (η:List SB) (ρ:Nat->Value) (M:Nat->Nat->Prop) (w:World):List Value->List HC->Prop
 | [],[]=>True
 | v::vs,h::hs=>HRd η ρ M w v h/\HRL η ρ M w vs hs
 | _,_=>False
def SVR0 (η:List SB) (ρ:Nat->Value) (M:Nat->Nat->Prop) (w:World) (v:Value):SV->Prop
 | .any=>True
 | .undef=>v=Go.undef
 | .one h=>HRd η ρ M w v h
 | .agg hs=>∃ vs:List Value,v=.agg vs.toArray/\HRL η ρ M w vs hs
 | .elt cs=>∃(b off:Nat) (vs:List Value),v=.pointer (some ⟨b,off,none⟩)/\(∀ j u,vs[j]? = some u->¬M b (off+j)/\w.cell? ⟨b,off+j,none⟩=some u)/\RdD M w vs cs
 | .tup _=>False
def SRL (η:List SB) (ρ:Nat->Value) (M:Nat->Nat->Prop) (w:World):List Value->List SV->Prop
 | [],[]=>True
 | v::vs,x::l=>SVR0 η ρ M w v x/\SRL η ρ M w vs l
 | _,_=>False
def SVR (η:List SB) (ρ:Nat->Value) (M:Nat->Nat->Prop) (w:World) (v:Value):SV->Prop
 | .tup l=>∃ vs:List Value,v=.tuple vs.toArray/\SRL η ρ M w vs l
 | x=>SVR0 η ρ M w v x
def EnR (η:List SB) (ρ:Nat->Value) (M:Nat->Nat->Prop) (w:World):List MapEntry->List (Value×SV)->Prop
 | [],[]=>True
 | e::es,p::l=>(e.key=p.1/\SVR0 η ρ M w e.val p.2)/\EnR η ρ M w es l
 | _,_=>False
def xgz (ents:Array MapEntry) (clk:Nat):Prop:=clk=ents.size/\∀(i:Nat) (e:MapEntry),ents[i]? = some e->e.born=i
theorem xgz.push {ents:Array MapEntry} {clk:Nat} (h:xgz ents clk) (k v:Value):xgz (ents.push { key:=k,val:=v,born:=clk }) (clk+1):=by
 refine ⟨by rw [Array.size_push,h.1],fun i e hi=>?_⟩;rw [Array.getElem?_push] at hi;split at hi
 . rename_i hs;cases hi;show clk=i;rw [h.1,hs]
 . exact h.2 i e hi
theorem xgz.modify {ents:Array MapEntry} {clk:Nat} (h:xgz ents clk) (j:Nat) (f:MapEntry->MapEntry) (hf:∀ e,(f e).born=e.born):xgz (ents.modify j f) clk:=by
 refine ⟨by rw [Array.size_modify,h.1],fun i e hi=>?_⟩;rw [Array.getElem?_modify] at hi;split at hi
 . obtain ⟨e0,h0,rfl⟩:=Option.map_eq_some_iff.1 hi;rw [hf];exact h.2 i e0 h0
 . exact h.2 i e hi
def SBR (η:List SB) (ρ:Nat->Value) (M:Nat->Nat->Prop) (w:World) (v:Value):SB->Prop
 | .fresh | .dead=>True
 | .box hs t=>∃(b:Nat) (vs:List Value) (T:TypeId),v=.pointer (some ⟨b,0,none⟩)/\w.heap[b]? = some (.cells vs.toArray T (0,0))/\HRL η ρ M w vs hs/\∀ t',t=some t'->T=t'
 | .arr c k t=>(c.uni/\k<=c.cnt*c.esz)/\((c.cnt=0/\v=.pointer none)\/∃(b:Nat) (vs q:List Value) (T:TypeId),v=.pointer (some ⟨b,0,none⟩)/\w.heap[b]? = some (.cells (vs++q).toArray T (0,0))/\RdD M w vs c.flat/\∀ t',t=some t'->T=t')
 | .map es=>∃(b:Nat) (ents:Array MapEntry) (clk:Nat),v=.map (some b)/\w.heap[b]? = some (.map ents clk)/\EnR η ρ M w ents.toList es/\xgz ents clk
 | .clo f caps=>∃ cv:List Value,v=.func (.func f) #[] cv.toArray/\SRL η ρ M w cv caps
def Grow (w w':World):Prop:=∀(b:Nat) (arr:Array Value) (T:TypeId) (fz:Nat×Nat),w.heap[b]? = some (Obj.cells arr T fz)->∃(arr':Array Value) (T':TypeId) (fz':Nat×Nat),w'.heap[b]? = some (Obj.cells arr' T' fz')/\arr.size<=arr'.size
theorem Grow.refl (w:World):Grow w w:=fun _ arr T fz h=>⟨arr,T,fz,h,Nat.le_refl _⟩
theorem Grow.trans {a b c:World} (h:Grow a b) (k:Grow b c):Grow a c:=fun i arr T fz hi=>by
 obtain ⟨arr',T',fz',h1,h2⟩:=h i arr T fz hi;obtain ⟨arr2,T2,fz2,h3,h4⟩:=k i arr' T' fz' h1;exact ⟨arr2,T2,fz2,h3,Nat.le_trans h2 h4⟩
theorem Grow.below {w w':World} (h:Below w.heap.size w w'):Grow w w':=fun b arr T fz hb=>
 ⟨arr,T,fz,(h.block b (Array.getElem?_eq_some_iff.1 hb).1).trans hb,Nat.le_refl _⟩
structure Mv (η:List SB) (ρ:Nat->Value) (M:Nat->Nat->Prop) (w:World) (η':List SB) (ρ':Nat->Value) (M':Nat->Nat->Prop) (w':World):Prop where
 ok:∀ b,okB η b->okB η' b
 rho:∀ b,okB η b->ρ' b=ρ b
 keep:y3e M M' w w'
 grow:Grow w w'
section
variable {η η':List SB} {ρ ρ':Nat->Value} {M M':Nat->Nat->Prop} {w w':World}
theorem HRd.mv (m:Mv η ρ M w η' ρ' M' w') {v:Value} {h:HC} (hr:HRd η ρ M w v h):HRd η' ρ' M' w' v h:=by
 cases h with
 | any=>exact hr
 | dat c=>exact RdC.keep m.keep hr
 | ptr b off=>exact ⟨m.ok b hr.1,by rw [m.rho b hr.1];exact hr.2⟩
 | pel b es i f=>exact ⟨m.ok b hr.1,by rw [m.rho b hr.1];exact hr.2⟩
 | sl b es lo n=>
  obtain ⟨ho,ad,cap,hv,hn,hc⟩:=hr;refine ⟨m.ok b ho,ad,cap,hv,hn,fun h0=>?_⟩;obtain ⟨hre,h1,arr,T,fz,h2,h3⟩:=hc h0;rw [m.rho b ho];obtain ⟨arr',T',fz',h4,h5⟩:=m.grow _ _ _ _ h2;exact ⟨hre,h1,arr',T',fz',h4,Nat.le_trans h3 h5⟩
 | mp b=>exact ⟨m.ok b hr.1,by rw [m.rho b hr.1];exact hr.2⟩
 | fnr b=>exact ⟨m.ok b hr.1,by rw [m.rho b hr.1];exact hr.2⟩
theorem HRL.mv (m:Mv η ρ M w η' ρ' M' w'):∀{vs:List Value} {hs:List HC},HRL η ρ M w vs hs->HRL η' ρ' M' w' vs hs
 | [],[],_=>trivial
 | _::_,_::_,h=>⟨h.1.mv m,h.2.mv m⟩
theorem SVR0.mv (m:Mv η ρ M w η' ρ' M' w') {v:Value} {x:SV} (h:SVR0 η ρ M w v x):SVR0 η' ρ' M' w' v x:=by
 cases x with
 | one c=>exact HRd.mv m h
 | agg cs=>obtain ⟨vs,rfl,h⟩:=h;exact ⟨vs,rfl,h.mv m⟩
 | elt cs=>obtain ⟨b,off,vs,rfl,hc,h⟩:=h;exact ⟨b,off,vs,rfl,fun j u hj=>m.keep _ _ _ (hc j u hj).1 (hc j u hj).2,h.keep m.keep⟩
 | _=>exact h
theorem SRL.mv (m:Mv η ρ M w η' ρ' M' w'):∀{vs:List Value} {l:List SV},SRL η ρ M w vs l->SRL η' ρ' M' w' vs l
 | [],[],_=>trivial
 | _::_,_::_,h=>⟨h.1.mv m,h.2.mv m⟩
theorem SVR.of0 {v:Value} {x:SV} (h:SVR0 η ρ M w v x):SVR η ρ M w v x:=by
 cases x<;>first | exact h | exact h.elim
theorem SVR.mv (m:Mv η ρ M w η' ρ' M' w') {v:Value} {x:SV} (h:SVR η ρ M w v x):SVR η' ρ' M' w' v x:=by
 cases x with
 | tup l=>obtain ⟨vs,rfl,h⟩:=h;exact ⟨vs,rfl,h.mv m⟩
 | _=>exact SVR.of0 (SVR0.mv m h)
theorem EnR.mv (m:Mv η ρ M w η' ρ' M' w'):∀{es:List MapEntry} {l:List (Value×SV)},EnR η ρ M w es l->EnR η' ρ' M' w' es l
 | [],[],_=>trivial
 | _::_,_::_,h=>⟨⟨h.1.1,h.1.2.mv m⟩,h.2.mv m⟩
theorem SBR.mv (m:Mv η ρ M w η' ρ' M' w') {v:Value} {x:SB} (hh:x.own=true->real v->w'.heap[bk v]? = w.heap[bk v]?) (h:SBR η ρ M w v x):SBR η' ρ' M' w' v x:=by
 cases x with
 | fresh=>trivial
 | dead=>trivial
 | box hs t=>obtain ⟨b,vs,T,rfl,hb,h,ht⟩:=h;exact ⟨b,vs,T,rfl,(hh rfl (by simp [real])).trans hb,h.mv m,ht⟩
 | arr c k t=>
  obtain ⟨hu,h | ⟨b,vs,q,T,rfl,hb,h,hk⟩⟩:=h
  . exact ⟨hu,.inl h⟩
  . exact ⟨hu,.inr ⟨b,vs,q,T,rfl,(hh rfl (by simp [real])).trans hb,h.keep m.keep,hk⟩⟩
 | map es=>obtain ⟨b,ents,clk,rfl,hb,h,hB⟩:=h;exact ⟨b,ents,clk,rfl,(hh rfl (by simp [real])).trans hb,h.mv m,hB⟩
 | clo f caps=>obtain ⟨cv,rfl,h⟩:=h;exact ⟨cv,rfl,h.mv m⟩
theorem SBR.yup {v:Value} {x:SB} (h:SBR η ρ M w v x) (ho:x.own=true) (hr:real v):bk v<w.heap.size:=by
 cases x with
 | box hs t=>obtain ⟨b,vs,T,rfl,hb,_⟩:=h;exact (Array.getElem?_eq_some_iff.1 hb).1
 | arr c k t=>
  obtain ⟨_,⟨_,e⟩ | ⟨b,vs,q,T,rfl,hb,_⟩⟩:=h
  . exact absurd e hr
  . exact (Array.getElem?_eq_some_iff.1 hb).1
 | map es=>obtain ⟨b,ents,clk,rfl,hb,_⟩:=h;exact (Array.getElem?_eq_some_iff.1 hb).1
 | _=>cases ho
theorem HRd.one {v:Value} {h:HC} (hr:HRd η ρ M w v h):v.oneCell'=true:=by
 cases h with
 | any=>exact hr
 | dat c=>exact RdC.one hr
 | ptr b off=>rw [hr.2];rfl
 | pel b es i f=>rw [hr.2];rfl
 | sl b es lo n=>obtain ⟨_,ad,cap,rfl,_⟩:=hr;rfl
 | mp b=>exact hr.2.2
 | fnr b=>exact hr.2.2
theorem HRL.ones:∀{vs:List Value} {hs:List HC},HRL η ρ M w vs hs->∀ v∈vs,v.oneCell'=true
 | [],[],_,v,hv=>by simp at hv
 | u::vs,_::_,h,v,hv=>by
  rcases List.mem_cons.1 hv with rfl | hv
  . exact h.1.one
  . exact h.2.ones v hv
theorem HRL.length:∀{vs:List Value} {hs:List HC},HRL η ρ M w vs hs->vs.length=hs.length
 | [],[],_=>rfl
 | _::_,_::_,h=>by simp [h.2.length]
theorem SRL.length:∀{vs:List Value} {l:List SV},SRL η ρ M w vs l->vs.length=l.length
 | [],[],_=>rfl
 | _::_,_::_,h=>by simp [h.2.length]
theorem HRL.drop:∀(n:Nat) {vs:List Value} {cs:List HC},HRL η ρ M w vs cs->HRL η ρ M w (vs.drop n) (cs.drop n)
 | 0,_,_,h=>by simpa using h
 | n+1,[],[],_=>trivial
 | n+1,_::_,_::_,h=>by simpa using h.2.drop n
theorem HRL.take:∀(n:Nat) {vs:List Value} {cs:List HC},HRL η ρ M w vs cs->HRL η ρ M w (vs.take n) (cs.take n)
 | 0,_,_,_=>trivial
 | _n+1,[],[],_=>trivial
 | n+1,_::_,_::_,h=>⟨h.1,h.2.take n⟩
theorem HRL.append:∀{vs:List Value} {cs:List HC} {us:List Value} {ds:List HC},HRL η ρ M w vs cs->HRL η ρ M w us ds->HRL η ρ M w (vs++us) (cs++ds)
 | [],[],_,_,_,h=>h
 | _::_,_::_,_,_,h,h'=>⟨h.1,h.2.append h'⟩
theorem SRL.append:∀{vs:List Value} {cs:List SV} {us:List Value} {ds:List SV},SRL η ρ M w vs cs->SRL η ρ M w us ds->SRL η ρ M w (vs++us) (cs++ds)
 | [],[],_,_,_,h=>h
 | _::_,_::_,_,_,h,h'=>⟨h.1,h.2.append h'⟩
theorem SRL.get:∀{vs:List Value} {cs:List SV},SRL η ρ M w vs cs->∀(j:Nat) (c:SV),cs[j]? = some c->∃ v,vs[j]? = some v/\SVR0 η ρ M w v c
 | [],[],_,j,c,hc=>by simp at hc
 | v::vs,c'::cs,h,0,c,hc=>by simp at hc;subst hc;exact ⟨v,by simp,h.1⟩
 | v::vs,c'::cs,h,j+1,c,hc=>by simpa using h.2.get j c (by simpa using hc)
theorem RdD.hrl:∀{vs:List Value} {cs:List Cell},RdD M w vs cs->HRL η ρ M w vs (cs.map .dat)
 | [],[],_=>trivial
 | _::_,_::_,h=>⟨h.1,RdD.hrl h.2⟩
end
def wjt (Γ:List (Nat×List Cell)) (M:Nat->Nat->Prop) (w:World):Prop:=
 ∀ g cs,(g,cs)∈Γ->∃ vs:List Value,(∀ j u,vs[j]? = some u->¬M g j/\w.cell? ⟨g,j,none⟩=some u)/\RdD M w vs cs
theorem wjt.keep {Γ:List (Nat×List Cell)} {M M':Nat->Nat->Prop} {w w':World} (hk:y3e M M' w w') (h:wjt Γ M w):wjt Γ M' w':=fun g cs hg=>by
 obtain ⟨vs,h1,h2⟩:=h g cs hg;exact ⟨vs,fun j u hj=>hk _ _ _ (h1 j u hj).1 (h1 j u hj).2,h2.keep hk⟩
structure HInv (Γ:List (Nat×List Cell)) (Mo:Nat->Nat->Prop) (ρ:Nat->Value) (η:List SB) (w:World):Prop where
 bnd:∀ b o,Mo b o->b<w.heap.size
 blk:∀ i x,η[i]? = some x->SBR η ρ (MX Mo ρ η) w (ρ i) x
 inj:∀ i j x y,η[i]? = some x->η[j]? = some y->x.own=true->y.own=true->real (ρ i)->real (ρ j)->bk (ρ i)=bk (ρ j)->i=j
 sep:∀ i x,η[i]? = some x->x.own=true->real (ρ i)->∀ o,¬Mo (bk (ρ i)) o
 glob:wjt Γ (MX Mo ρ η) w
structure Went (Γ:List (Nat×List Cell)) (Mo:Nat->Nat->Prop) (ρ:Nat->Value) (η:List SB) (w:World) (ρ':Nat->Value) (η':List SB) (w':World):Prop where
 ok:∀ b,okB η b->okB η' b
 rho:∀ b,okB η b->ρ' b=ρ b
 keep:y3e (MX Mo ρ η) (MX Mo ρ' η') w w'
 grow:Grow w w'
 inv:HInv Γ Mo ρ' η' w'
 size:w.heap.size<=w'.heap.size
 os:w'.os=w.os
 tape:w'.tape=w.tape
 output:w'.output=w.output
 frame:∀ k,k<w.heap.size->¬Xb ρ η k->w'.heap[k]? = w.heap[k]?
 fresh:∀ k,Xb ρ' η' k->w.heap.size<=k\/Xb ρ η k
section
variable {Γ:List (Nat×List Cell)} {Mo:Nat->Nat->Prop} {η η' η'':List SB} {ρ ρ' ρ'':Nat->Value} {w w' w'':World}
theorem Went.mv (h:Went Γ Mo ρ η w ρ' η' w'):Mv η ρ (MX Mo ρ η) w η' ρ' (MX Mo ρ' η') w':=⟨h.ok,h.rho,h.keep,h.grow⟩
theorem Went.refl (h:HInv Γ Mo ρ η w):Went Γ Mo ρ η w ρ η w:=
 ⟨fun _ h=>h,fun _ _=>rfl,fun _ _ _ h1 h2=>⟨h1,h2⟩,Grow.refl w,h,Nat.le_refl _,rfl,rfl,rfl,fun _ _ _=>rfl,fun _ h=>.inr h⟩
theorem Went.trans (h:Went Γ Mo ρ η w ρ' η' w') (k:Went Γ Mo ρ' η' w' ρ'' η'' w''):Went Γ Mo ρ η w ρ'' η'' w'' where
 ok:=fun b hb=>k.ok b (h.ok b hb)
 rho:=fun b hb=>(k.rho b (h.ok b hb)).trans (h.rho b hb)
 keep:=h.keep.trans k.keep
 grow:=h.grow.trans k.grow
 inv:=k.inv
 size:=Nat.le_trans h.size k.size
 os:=k.os.trans h.os
 tape:=k.tape.trans h.tape
 output:=k.output.trans h.output
 frame:=fun i hi hx=>(k.frame i (Nat.lt_of_lt_of_le hi h.size) (fun h1=>by
  rcases h.fresh i h1 with h2 | h2
  . omega
  . exact hx h2)).trans (h.frame i hi hx)
 fresh:=fun i hx=>by
  rcases k.fresh i hx with h1 | h1
  . exact .inl (Nat.le_trans h.size h1)
  . exact h.fresh i h1
theorem xer {i b:Nat} {x:SB} (hx:x≠.fresh) (h:okB η b):okB (η.set i x) b:=by
 obtain ⟨y,h1,h2⟩:=h;unfold okB;rw [List.getElem?_set]
 split
 . rename_i e;subst e;rw [if_pos (List.getElem?_eq_some_iff.1 h1).1];exact ⟨x,rfl,hx⟩
 . exact ⟨y,h1,h2⟩
theorem xw3 {b:Nat} (l:List SB) (h:okB η b):okB (η++l) b:=by
 obtain ⟨y,h1,h2⟩:=h;exact ⟨y,by rw [List.getElem?_append_left (List.getElem?_eq_some_iff.1 h1).1];exact h1,h2⟩
theorem wl7 {α:Type} {l:List α} {d i:Nat} {x y:α} (h:(l.set d x)[i]? = some y):(i=d/\y=x)\/(i≠d/\l[i]? = some y):=getElem?_set_cases h
theorem HInv.below (h:HInv Γ Mo ρ η w) (hb:Below w.heap.size w w'):HInv Γ Mo ρ η w' where
 bnd:=fun b o ho=>Nat.lt_of_lt_of_le (h.bnd b o ho) hb.size
 blk:=fun i x hi=>(h.blk i x hi).mv ⟨fun _ h=>h,fun _ _=>rfl,y3e.below hb,Grow.below hb⟩ (fun ho hr=>hb.block _ ((h.blk i x hi).yup ho hr))
 inj:=h.inj
 sep:=h.sep
 glob:=h.glob.keep (y3e.below hb)
theorem Went.below (h:HInv Γ Mo ρ η w) (hb:Below w.heap.size w w'):Went Γ Mo ρ η w ρ η w':=
 ⟨fun _ h=>h,fun _ _=>rfl,y3e.below hb,Grow.below hb,h.below hb,hb.size,hb.os,hb.tape,hb.output,fun k hk _=>hb.block k hk,fun _ h=>.inr h⟩
theorem xhq (h:HInv Γ Mo ρ η w) {b o:Nat} (hm:MX Mo ρ η b o):b<w.heap.size:=by
 rcases hm with hm | ⟨i,x,hi,hx,hr,rfl⟩
 . exact h.bnd b o hm
 . exact (h.blk i x hi).yup (SB.wwj hx) hr
theorem xia {n i:Nat} {x:SB} (h:(η++List.replicate n .fresh)[i]? = some x):η[i]? = some x\/(η.length<=i/\x=.fresh):=by
 rw [List.getElem?_append] at h;split at h
 . exact .inl h
 . rw [List.getElem?_replicate] at h;split at h
   . cases h;exact .inr ⟨by omega,rfl⟩
   . cases h
theorem Went.extend (h:HInv Γ Mo ρ η w) (n:Nat):Went Γ Mo ρ η w ρ (η++List.replicate n .fresh) w:=by
 have hM:∀ b o,MX Mo ρ (η++List.replicate n .fresh) b o->MX Mo ρ η b o:=by
  rintro b o (hm | ⟨i,x,hi,hx,hr⟩)
  . exact .inl hm
  . rcases xia hi with hi | ⟨_,rfl⟩
    . exact .inr ⟨i,x,hi,hx,hr⟩
    . exact hx.elim
 have hk:y3e (MX Mo ρ η) (MX Mo ρ (η++List.replicate n .fresh)) w w:=fun b o u h1 h2=>⟨fun hm=>h1 (hM b o hm),h2⟩
 refine ⟨fun b hb=>xw3 _ hb,fun _ _=>rfl,hk,Grow.refl w,⟨h.bnd,?_,?_,?_,h.glob.keep hk⟩,Nat.le_refl _,rfl,rfl,rfl,fun _ _ _=>rfl,?_⟩
 . intro i x hi
   rcases xia hi with hi | ⟨_,rfl⟩
   . exact (h.blk i x hi).mv ⟨fun b hb=>xw3 _ hb,fun _ _=>rfl,hk,Grow.refl w⟩ (fun _ _=>rfl)
   . trivial
 . intro i j x y hi hj hx hy
   rcases xia hi with hi | ⟨_,rfl⟩
   . rcases xia hj with hj | ⟨_,rfl⟩
     . exact h.inj i j x y hi hj hx hy
     . cases hy
   . cases hx
 . intro i x hi hx
   rcases xia hi with hi | ⟨_,rfl⟩
   . exact h.sep i x hi hx
   . cases hx
 . rintro k ⟨i,x,hi,hx,hr⟩
   rcases xia hi with hi | ⟨_,rfl⟩
   . exact .inr ⟨i,x,hi,hx,hr⟩
   . cases hx
def upd (ρ:Nat->Value) (b:Nat) (v:Value):Nat->Value:=fun i=>if i=b then v else ρ i
theorem xjo {b:Nat} {v:Value}:upd ρ b v b=v:=by simp [upd]
theorem vw6 {b i:Nat} {v:Value} (h:i≠b):upd ρ b v i=ρ i:=by simp [upd,h]
theorem vok {b:Nat} (h:η[b]? = some .fresh):¬okB η b:=fun ⟨x,h1,h2⟩=>by rw [h] at h1;cases h1;exact h2 rfl
theorem Went.new (h:HInv Γ Mo ρ η w) (hb:Below w.heap.size w w') {b:Nat} (hf:η[b]? = some .fresh) {v:Value} {x:SB} (hxf:x≠.fresh)
 (hnew:x.own=true->real v->w.heap.size<=bk v)
 (hok:Mv η ρ (MX Mo ρ η) w (η.set b x) (upd ρ b v) (MX Mo (upd ρ b v) (η.set b x)) w'->SBR (η.set b x) (upd ρ b v) (MX Mo (upd ρ b v) (η.set b x)) w' v x):Went Γ Mo ρ η w (upd ρ b v) (η.set b x) w':=by
 have hne:∀ i,okB η i->i≠b:=fun i hi e=>vok hf (e▸hi)
 have hM:∀ c o,MX Mo (upd ρ b v) (η.set b x) c o->MX Mo ρ η c o\/(w.heap.size<=c):=by
  rintro c o (hm | ⟨i,y,hi,hy,hr,e⟩)
  . exact .inl (.inl hm)
  . rcases wl7 hi with ⟨rfl,rfl⟩ | ⟨hn,hi⟩
    . rw [xjo] at hr e;exact .inr (e▸hnew (SB.wwj hy) hr)
    . rw [vw6 hn] at hr e;exact .inl (.inr ⟨i,y,hi,hy,hr,e⟩)
 have hk:y3e (MX Mo ρ η) (MX Mo (upd ρ b v) (η.set b x)) w w':=fun c o u h1 h2=>by
  have hl:=World.block_lt_of_cell? w _ h2;refine ⟨fun hm=>?_,(y3e.below hb c o u h1 h2).2⟩
  rcases hM c o hm with hm | hm
  . exact h1 hm
  . simp only at hl;omega
 have hm:Mv η ρ (MX Mo ρ η) w (η.set b x) (upd ρ b v) (MX Mo (upd ρ b v) (η.set b x)) w':=⟨fun i hi=>xer hxf hi,fun i hi=>vw6 (hne i hi),hk,Grow.below hb⟩;refine ⟨hm.ok,hm.rho,hk,hm.grow,⟨fun c o ho=>Nat.lt_of_lt_of_le (h.bnd c o ho) hb.size,?_,?_,?_,h.glob.keep hk⟩,hb.size,hb.os,hb.tape,hb.output,fun k hk _=>hb.block k hk,?_⟩
 . intro i y hi
   rcases wl7 hi with ⟨rfl,rfl⟩ | ⟨hn,hi⟩
   . rw [xjo];exact hok hm
   . rw [vw6 hn];exact (h.blk i y hi).mv hm (fun ho hr=>hb.block _ ((h.blk i y hi).yup ho hr))
 . intro i j y z hi hj hy hz hri hrj e
   rcases wl7 hi with ⟨ei,ey⟩ | ⟨hn,hi'⟩
   . rcases wl7 hj with ⟨ej,ez⟩ | ⟨hn',hj'⟩
     . rw [ei,ej]
     . subst ei;subst ey;rw [xjo] at hri e;rw [vw6 hn'] at hrj e;have h1:=hnew hy hri;have h2:=(h.blk j z hj').yup hz hrj;omega
   . rcases wl7 hj with ⟨ej,ez⟩ | ⟨hn',hj'⟩
     . subst ej;subst ez;rw [xjo] at hrj e;rw [vw6 hn] at hri e;have h1:=hnew hz hrj;have h2:=(h.blk i y hi').yup hy hri;omega
     . rw [vw6 hn] at hri e;rw [vw6 hn'] at hrj e;exact h.inj i j y z hi' hj' hy hz hri hrj e
 . intro i y hi hy hr o ho
   rcases wl7 hi with ⟨rfl,rfl⟩ | ⟨hn,hi⟩
   . rw [xjo] at hr ho;have h1:=hnew hy hr;have h2:=h.bnd _ _ ho;omega
   . rw [vw6 hn] at hr ho;exact h.sep i y hi hy hr o ho
 . rintro k ⟨i,y,hi,hy,hr,e⟩
   rcases wl7 hi with ⟨rfl,rfl⟩ | ⟨hn,hi⟩
   . rw [xjo] at hr e;exact .inl (e▸hnew hy hr)
   . rw [vw6 hn] at hr e;exact .inr ⟨i,y,hi,hy,hr,e⟩
theorem Went.write (h:HInv Γ Mo ρ η w) {b:Nat} {x x':SB} (hx:η[b]? = some x) (ho:x.own=true) (hr:real (ρ b)) (ho':x'.own=true) (hmut:∀ o,x'.mut o↔x.mut o)
 (hsize:w'.heap.size=w.heap.size) (hos:w'.os=w.os) (htape:w'.tape=w.tape) (hout:w'.output=w.output) (hother:∀ k,k≠bk (ρ b)->w'.heap[k]? = w.heap[k]?) (hgrow:Grow w w')
 (hcell:∀ o u,¬x.mut o->w.cell? ⟨bk (ρ b),o,none⟩=some u->w'.cell? ⟨bk (ρ b),o,none⟩=some u)
 (hok:Mv η ρ (MX Mo ρ η) w (η.set b x') ρ (MX Mo ρ (η.set b x')) w'->SBR (η.set b x') ρ (MX Mo ρ (η.set b x')) w' (ρ b) x'):Went Γ Mo ρ η w ρ (η.set b x') w':=by
 have hxf:x'≠.fresh:=fun e=>by rw [e] at ho';cases ho'
 have hlt:b<η.length:=(List.getElem?_eq_some_iff.1 hx).1
 have hM:∀ c o,MX Mo ρ (η.set b x') c o↔MX Mo ρ η c o:=fun c o=>by
  constructor
  . rintro (hm | ⟨i,y,hi,hy,hr,e⟩)
    . exact .inl hm
    . rcases wl7 hi with ⟨rfl,rfl⟩ | ⟨hn,hi⟩
      . exact .inr ⟨i,x,hx,(hmut o).1 hy,hr,e⟩
      . exact .inr ⟨i,y,hi,hy,hr,e⟩
  . rintro (hm | ⟨i,y,hi,hy,hr,e⟩)
    . exact .inl hm
    . by_cases hn:i=b
      . subst hn;rw [hx] at hi;cases hi;exact .inr ⟨i,x',by simp [hlt],(hmut o).2 hy,hr,e⟩
      . exact .inr ⟨i,y,by rw [List.getElem?_set_ne (Ne.symm hn)];exact hi,hy,hr,e⟩
 have hk:y3e (MX Mo ρ η) (MX Mo ρ (η.set b x')) w w':=fun c o u h1 h2=>by
  refine ⟨fun hm=>h1 ((hM c o).1 hm),?_⟩;by_cases e:c=bk (ρ b)
  . subst e;exact hcell o u (fun hm=>h1 (.inr ⟨b,x,hx,hm,hr,rfl⟩)) h2
  . unfold World.cell? at h2 ⊢;dsimp only at h2 ⊢;rw [hother c e];exact h2
 have hm:Mv η ρ (MX Mo ρ η) w (η.set b x') ρ (MX Mo ρ (η.set b x')) w':=⟨fun i hi=>xer hxf hi,fun _ _=>rfl,hk,hgrow⟩;refine ⟨hm.ok,hm.rho,hk,hgrow,⟨fun c o hc=>by rw [hsize];exact h.bnd c o hc,?_,?_,?_,h.glob.keep hk⟩,by omega,hos,htape,hout,?_,?_⟩
 . intro i y hi
   rcases wl7 hi with ⟨rfl,rfl⟩ | ⟨hn,hi⟩
   . exact hok hm
   . exact (h.blk i y hi).mv hm (fun hyo hri=>hother _ (fun e=>hn (h.inj i b y x hi hx hyo ho hri hr e)))
 . intro i j y z hi hj hy hz
   have key:∀(k:Nat) (u:SB),(η.set b x')[k]? = some u->u.own=true->∃ u':SB,η[k]? = some u'/\u'.own=true:=fun k u hk hu=>by
    rcases wl7 hk with ⟨rfl,rfl⟩ | ⟨_,hk⟩
    . exact ⟨x,hx,ho⟩
    . exact ⟨u,hk,hu⟩
   obtain ⟨y',h1,h2⟩:=key i y hi hy;obtain ⟨z',h3,h4⟩:=key j z hj hz;exact h.inj i j y' z' h1 h3 h2 h4
 . intro i y hi hy
   rcases wl7 hi with ⟨rfl,rfl⟩ | ⟨_,hi⟩
   . exact h.sep i x hx ho
   . exact h.sep i y hi hy
 . intro k _ hk;exact hother k (fun e=>hk ⟨b,x,hx,ho,hr,e.symm⟩)
 . rintro k ⟨i,y,hi,hy,hr',e⟩
   rcases wl7 hi with ⟨rfl,rfl⟩ | ⟨_,hi⟩
   . exact .inr ⟨i,x,hx,ho,hr',e⟩
   . exact .inr ⟨i,y,hi,hy,hr',e⟩
theorem Went.less (h:HInv Γ Mo ρ η w) {b:Nat} {x x':SB} (hx:η[b]? = some x) (hxf:x'≠.fresh) (ho:x'.own=true->x.own=true) (hmut:∀ o,x'.mut o->x.mut o)
 (hok:Mv η ρ (MX Mo ρ η) w (η.set b x') ρ (MX Mo ρ (η.set b x')) w->SBR (η.set b x') ρ (MX Mo ρ (η.set b x')) w (ρ b) x'):Went Γ Mo ρ η w ρ (η.set b x') w:=by
 have hM:∀ c o,MX Mo ρ (η.set b x') c o->MX Mo ρ η c o:=by
  rintro c o (hm | ⟨i,y,hi,hy,hr,e⟩)
  . exact .inl hm
  . rcases wl7 hi with ⟨rfl,rfl⟩ | ⟨_,hi⟩
    . exact .inr ⟨i,x,hx,hmut o hy,hr,e⟩
    . exact .inr ⟨i,y,hi,hy,hr,e⟩
 have hk:y3e (MX Mo ρ η) (MX Mo ρ (η.set b x')) w w:=fun c o u h1 h2=>⟨fun hm=>h1 (hM c o hm),h2⟩
 have hm:Mv η ρ (MX Mo ρ η) w (η.set b x') ρ (MX Mo ρ (η.set b x')) w:=⟨fun i hi=>xer hxf hi,fun _ _=>rfl,hk,Grow.refl w⟩
 have key:∀(k:Nat) (u:SB),(η.set b x')[k]? = some u->u.own=true->∃ u':SB,η[k]? = some u'/\u'.own=true:=fun k u hk hu=>by
  rcases wl7 hk with ⟨rfl,rfl⟩ | ⟨_,hk⟩
  . exact ⟨x,hx,ho hu⟩
  . exact ⟨u,hk,hu⟩
 refine ⟨hm.ok,hm.rho,hk,hm.grow,⟨h.bnd,?_,?_,?_,h.glob.keep hk⟩,Nat.le_refl _,rfl,rfl,rfl,fun _ _ _=>rfl,?_⟩
 . intro i y hi
   rcases wl7 hi with ⟨rfl,rfl⟩ | ⟨_,hi⟩
   . exact hok hm
   . exact (h.blk i y hi).mv hm (fun _ _=>rfl)
 . intro i j y z hi hj hy hz;obtain ⟨y',h1,h2⟩:=key i y hi hy;obtain ⟨z',h3,h4⟩:=key j z hj hz;exact h.inj i j y' z' h1 h3 h2 h4
 . intro i y hi hy;obtain ⟨y',h1,h2⟩:=key i y hi hy;exact h.sep i y' h1 h2
 . rintro k ⟨i,y,hi,hy,hr',e⟩;obtain ⟨y',h1,h2⟩:=key i y hi hy;exact .inr ⟨i,y',h1,h2,hr',e⟩
theorem Went.move (h:HInv Γ Mo ρ η w) {b nb:Nat} {x:SB} (hx:η[b]? = some x) (ho:x.own=true) (hf:η[nb]? = some .fresh):Went Γ Mo ρ η w (upd ρ nb (ρ b)) ((η.set b .dead).set nb x) w:=by
 have hxf:x≠.fresh:=fun e=>by rw [e] at ho;cases ho
 have hbn:b≠nb:=fun e=>by rw [e,hf] at hx;cases hx;exact hxf rfl
 have hlb:b<η.length:=(List.getElem?_eq_some_iff.1 hx).1;have hln:nb<η.length:=(List.getElem?_eq_some_iff.1 hf).1
 have key:∀(i:Nat) (y:SB),((η.set b .dead).set nb x)[i]? = some y->(i=nb/\y=x)\/(i≠nb/\i=b/\y=.dead)\/(i≠nb/\i≠b/\η[i]? = some y):=fun i y hi=>by
  rcases wl7 hi with h1 | ⟨hn,hi⟩
  . exact .inl h1
  . rcases wl7 hi with ⟨h2,h3⟩ | ⟨hn',hi⟩
    . exact .inr (.inl ⟨hn,h2,h3⟩)
    . exact .inr (.inr ⟨hn,hn',hi⟩)
 have hold:∀(i:Nat) (y:SB),((η.set b .dead).set nb x)[i]? = some y->y.own=true->∃ j,η[j]? = some y/\upd ρ nb (ρ b) i=ρ j/\(i=nb->j=b)/\(i≠nb->j=i):=fun i y hi hy=>by
  rcases key i y hi with ⟨rfl,rfl⟩ | ⟨hn,rfl,rfl⟩ | ⟨hn,hn',hi⟩
  . exact ⟨b,hx,xjo,fun _=>rfl,fun e=>absurd rfl e⟩
  . cases hy
  . exact ⟨i,hi,vw6 hn,fun e=>absurd e hn,fun _=>rfl⟩
 have hM:∀ c o,MX Mo (upd ρ nb (ρ b)) ((η.set b .dead).set nb x) c o->MX Mo ρ η c o:=by
  rintro c o (hm | ⟨i,y,hi,hy,hr,e⟩)
  . exact .inl hm
  . obtain ⟨j,h1,h2,_⟩:=hold i y hi (SB.wwj hy);rw [h2] at hr e;exact .inr ⟨j,y,h1,hy,hr,e⟩
 have hk:y3e (MX Mo ρ η) (MX Mo (upd ρ nb (ρ b)) ((η.set b .dead).set nb x)) w w:=fun c o u h1 h2=>⟨fun hm=>h1 (hM c o hm),h2⟩
 have hok:∀ i,okB η i->okB ((η.set b .dead).set nb x) i:=fun i hi=>xer hxf (xer (by simp) hi)
 have hm:Mv η ρ (MX Mo ρ η) w ((η.set b .dead).set nb x) (upd ρ nb (ρ b)) (MX Mo (upd ρ nb (ρ b)) ((η.set b .dead).set nb x)) w:=
  ⟨hok,fun i hi=>vw6 (fun e=>vok hf (e▸hi)),hk,Grow.refl w⟩
 refine ⟨hm.ok,hm.rho,hk,hm.grow,⟨h.bnd,?_,?_,?_,h.glob.keep hk⟩,Nat.le_refl _,rfl,rfl,rfl,fun _ _ _=>rfl,?_⟩
 . intro i y hi
   rcases key i y hi with ⟨rfl,rfl⟩ | ⟨hn,rfl,rfl⟩ | ⟨hn,hn',hi⟩
   . rw [xjo];exact (h.blk b y hx).mv hm (fun _ _=>rfl)
   . trivial
   . rw [vw6 hn];exact (h.blk i y hi).mv hm (fun _ _=>rfl)
 . intro i j y z hi hj hy hz hri hrj e;obtain ⟨i',h1,h2,h3,h4⟩:=hold i y hi hy;obtain ⟨j',h5,h6,h7,h8⟩:=hold j z hj hz;rw [h2] at hri e;rw [h6] at hrj e;have e':=h.inj i' j' y z h1 h5 hy hz hri hrj e;by_cases hin:i=nb
   . by_cases hjn:j=nb
     . rw [hin,hjn]
     . exfalso;rw [h3 hin,h8 hjn] at e'
       rcases key j z hj with ⟨e1,_⟩ | ⟨_,_,rfl⟩ | ⟨_,e1,_⟩
       . exact hjn e1
       . cases hz
       . exact e1 e'.symm
   . by_cases hjn:j=nb
     . exfalso;rw [h7 hjn,h4 hin] at e'
       rcases key i y hi with ⟨e1,_⟩ | ⟨_,_,rfl⟩ | ⟨_,e1,_⟩
       . exact hin e1
       . cases hy
       . exact e1 e'
     . rw [h4 hin,h8 hjn] at e';exact e'
 . intro i y hi hy hr;obtain ⟨j,h1,h2,_⟩:=hold i y hi hy;rw [h2] at hr ⊢;exact h.sep j y h1 hy hr
 . rintro k ⟨i,y,hi,hy,hr,e⟩;obtain ⟨j,h1,h2,_⟩:=hold i y hi hy;rw [h2] at hr e;exact .inr ⟨j,y,h1,hy,hr,e⟩
theorem Went.kill (h:HInv Γ Mo ρ η w) {b:Nat} {x:SB} (hx:η[b]? = some x):Went Γ Mo ρ η w ρ (η.set b .dead) w:=
 Went.less h hx (by simp) (by intro h;cases h) (by intro o h;exact h.elim) (fun _=>trivial)
end
structure HEnv where
 w0:World
 Mo:Nat->Nat->Prop
 ρ0:Nat->Value
 η0:List SB
 ds:List Deferred
def gtS (J:List SV) (i:Nat):SV:=(J[i]?).getD .any
def gB (η:List SB) (b:Nat):SB:=(η[b]?).getD .dead
structure RI (Γ:List (Nat×List Cell)) (E:HEnv) (ρ:Nat->Value) (J:List SV) (η:List SB) (a:Act) (w:World):Prop where
 hd:a.defers=E.ds
 hs:a.tmps.size=J.length
 slot:∀(i:Nat) (x:SV),J[i]? = some x->SVR η ρ (MX E.Mo ρ η) w (a.tmps.getD i Go.undef) x
 went:Went Γ E.Mo E.ρ0 E.η0 E.w0 ρ η w
section
variable {Γ:List (Nat×List Cell)} {E:HEnv} {ρ ρ':Nat->Value} {J:List SV} {η η':List SB} {a:Act} {w w':World}
theorem RI.inv (h:RI Γ E ρ J η a w):HInv Γ E.Mo ρ η w:=h.went.inv
theorem RI.go (h:RI Γ E ρ J η a w) (k:Went Γ E.Mo ρ η w ρ' η' w'):RI Γ E ρ' J η' a w':=
 ⟨h.hd,h.hs,fun i x hi=>(h.slot i x hi).mv k.mv,h.went.trans k⟩
theorem RI.put (h:RI Γ E ρ J η a w) {d:Nat} {x:SV} {v:Value} (hx:SVR η ρ (MX E.Mo ρ η) w v x):RI Γ E ρ (J.set d x) η (a.put (some d) v) w:=by
 refine ⟨h.hd,by simpa [Act.put] using h.hs,fun i y hi=>?_,h.went⟩;show SVR η ρ (MX E.Mo ρ η) w ((a.tmps.setIfInBounds d v).getD i Go.undef) y
 have hlen:i<J.length:=by simpa using (List.getElem?_eq_some_iff.1 hi).1
 rcases wl7 hi with ⟨rfl,rfl⟩ | ⟨hn,hi⟩
 . have:i<a.tmps.size:=by rw [h.hs];exact hlen
   rw [show (a.tmps.setIfInBounds i v).getD i Go.undef=v by simp [this]];exact hx
 . rw [Slot.getD_set_ne (Ne.symm hn)];exact h.slot i y hi
theorem RI.gt (h:RI Γ E ρ J η a w) (t:Nat):SVR η ρ (MX E.Mo ρ η) w (a.tmps.getD t Go.undef) (gtS J t):=by
 unfold gtS
 cases ht:J[t]? with
 | none=>exact trivial
 | some x=>exact h.slot t x ht
def x3l (v:Value):SV:=match wsu v with
 | .one c=>.one (.dat c)
 | .agg cs=>.agg (cs.map .dat)
 | _=>.any
def w2q:List (Nat×List Cell)->Nat->SV
 | [],_=>.any
 | (g,cs)::r,i=>if g=i then .elt cs else w2q r i
def opdS (Γ:List (Nat×List Cell)) (J:List SV):Operand->SV
 | .tmp t=>gtS J t
 | .const v=>x3l v
 | .func f=>.one (.dat (.raw (.func (.func f) #[] #[])))
 | .global g=>w2q Γ g
theorem wrl:∀(Γ:List (Nat×List Cell)) (i:Nat),w2q Γ i=.any\/∃ cs,w2q Γ i=.elt cs/\(i,cs)∈Γ
 | [],_=>.inl rfl
 | (g,cs)::r,i=>by
  unfold w2q
  split
  . rename_i e;subst e;exact .inr ⟨cs,rfl,by simp⟩
  . rcases wrl r i with h | ⟨cs',h,hm⟩
    . exact .inl h
    . exact .inr ⟨cs',h,by simp [hm]⟩
theorem zcq {M:Nat->Nat->Prop} (v:Value):SVR η ρ M w v (x3l v):=by
 have h:=v4y (M:=M) (w:=w) (τ:=fun _=>⟨Go.undef,0⟩) v;unfold x3l
 cases hc:wsu v with
 | one c=>
  rw [hc] at h;have hb:RdC M w v c.bare:=RdT.bare h
  have hnt:c.bare=c:=by
   unfold wsu at hc;split at hc
   . split at hc<;>cases hc
   . cases hc
   . cases hc;rfl
  rw [hnt] at hb;exact hb
 | agg cs =>
  rw [hc] at h;obtain ⟨vs,e,hr⟩:=h;refine ⟨vs,e,?_⟩
  have hraw:∃ us:List Value,cs=us.map .raw:=by
   unfold wsu at hc;split at hc
   . split at hc
     . cases hc;exact ⟨_,rfl⟩
     . cases hc
   . cases hc
   . cases hc
  obtain ⟨us,rfl⟩:=hraw
  have:∀(vs us:List Value),RdL M w (fun _=>⟨Go.undef,0⟩) vs (us.map .raw)->HRL η ρ M w vs ((us.map Cell.raw).map .dat):=by
   intro vs
   induction vs with
   | nil=>intro us h;cases us with
    | nil=>trivial
    | cons _ _=>exact h.elim
   | cons v vs ih=>intro us h;cases us with
    | nil=>exact h.elim
    | cons u us=>exact ⟨h.1,ih us h.2⟩
  exact this vs us hr
 | _=>exact trivial
theorem RI.opd (h:RI Γ E ρ J η a w) (x:Operand):SVR η ρ (MX E.Mo ρ η) w (a.eval x) (opdS Γ J x):=by
 cases x with
 | tmp t=>exact h.gt t
 | const v=>exact zcq v
 | func f=>exact RdC.raw rfl
 | global g=>
  show SVR η ρ (MX E.Mo ρ η) w (a.eval (.global g)) (w2q Γ g)
  rcases wrl Γ g with e | ⟨cs,e,hm⟩
  . rw [e];exact trivial
  . rw [e];obtain ⟨vs,h1,h2⟩:=h.inv.glob g cs hm;exact ⟨g,0,vs,rfl,fun j u hj=>by rw [Nat.zero_add];exact h1 j u hj,h2⟩
end
def appL {α:Type}:List (Nat×α)->List α->List α
 | [],l=>l
 | (i,x)::r,l=>appL r (l.set i x)
def agS (rd:List Nat) (J J':List SV):Prop:=J'.length=J.length/\∀ r∈rd,gtS J' r=gtS J r
def agB (rh:List Nat) (η η':List SB):Prop:=η'.length=η.length/\∀ r∈rh,η'[r]? = η[r]?
def wpk (Γ:List (Nat×List Cell)) (P:Program) (o:Oper) (J:List SV) (η:List SB) (rd rh:List Nat) (eff:List (Nat×SV)) (heff:List (Nat×SB)):Prop:=
 ∀(E:HEnv) (ρ:Nat->Value) (J':List SV) (η':List SB) (a:Act) (w:World),agS rd J J'->agB rh η η'->RI Γ E ρ J' η' a w->∀(K:Act->World->Prop) (Q:Exit->Act->World->Prop),
  (∀ a' w' ρ',RI Γ E ρ' (appL eff J') (appL heff η') a' w'->K a' w')->o.wp P a w K Q
theorem agS.opd {Γ:List (Nat×List Cell)} {rd:List Nat} {J J':List SV} (h:agS rd J J') {x:Operand} (hx:∀ t∈orr x,t∈rd):opdS Γ J' x=opdS Γ J x:=by
 cases x with
 | tmp t=>exact h.2 t (hx t (by simp [orr]))
 | _=>rfl
theorem agB.gB {rh:List Nat} {η η':List SB} (h:agB rh η η') {b:Nat} (hb:b∈rh):gB η' b=gB η b:=by
 unfold Hp.gB;rw [h.2 b hb]
def datH:HC->Option Cell
 | .dat c=>some c
 | _=>none
def datL:List HC->Option (List Cell)
 | []=>some []
 | .dat c::r=>(datL r).map (c::·)
 | _::_=>none
def vwO:HC->AV
 | .dat c=>.one c
 | _=>.any
def vwG:Option (List Cell)->AV
 | some cs=>.agg cs
 | none=>.any
def vw:SV->AV
 | .one h=>vwO h
 | .agg hs=>vwG (datL hs)
 | .elt cs=>.elt cs
 | .undef=>.undef
 | _=>.any
theorem zci {J:List SV} (i:Nat):gt (J.map vw) i=vw (gtS J i):=by
 unfold gt gtS;rw [List.getElem?_map]
 cases J[i]?<;>rfl
theorem wkn (x:SV):(vw x).yte=false:=by
 unfold vw
 cases x with
 | one h=>cases h<;>rfl
 | agg hs=>simp only;cases datL hs<;>rfl
 | _=>rfl
theorem y0h (x:SV):(vw x).rf=none:=by
 unfold vw
 cases x with
 | one h=>cases h<;>rfl
 | agg hs=>simp only;cases datL hs<;>rfl
 | _=>rfl
section
variable {Γ:List (Nat×List Cell)} {E:HEnv} {ρ ρ':Nat->Value} {J:List SV} {η η':List SB} {a:Act} {w w':World} {M:Nat->Nat->Prop}
theorem HRL.dat:∀{vs:List Value} {hs:List HC} {cs:List Cell},HRL η ρ M w vs hs->datL hs=some cs->RdD M w vs cs
 | [],[],cs,_,hd=>by simp [datL] at hd;subst hd;trivial
 | v::vs,h::hs,cs,hr,hd=>by
  cases h with
  | dat c=>
   simp only [datL,Option.map_eq_some_iff] at hd;obtain ⟨l,hl,rfl⟩:=hd;exact ⟨hr.1,HRL.dat hr.2 hl⟩
  | _=>simp [datL] at hd
theorem RdD.rdl {τ:Nat->TV}:∀{vs:List Value} {cs:List Cell},RdD M w vs cs->RdL M w τ vs cs
 | [],[],_=>trivial
 | _::_,_::_,h=>⟨RdT.of h.1,RdD.rdl h.2⟩
theorem xk1 {τ:Nat->TV} {tm:Array Value} {v:Value} {x:SV} (h:SVR η ρ M w v x):wki M w τ tm v (vw x)/\∀ d,¬(vw x).wbg d:=by
 cases x with
 | one c=>
  cases c with
  | dat c=>exact ⟨RdT.of h,fun d hd=>(RdC.zbh h d) hd⟩
  | _=>exact ⟨trivial,fun d hd=>hd⟩
 | agg hs=>
  obtain ⟨vs,rfl,hr⟩:=h;show wki M w τ tm _ (vwG (datL hs))/\∀ d,¬(vwG (datL hs)).wbg d
  cases hd:datL hs with
  | none=>exact ⟨trivial,fun d hd=>hd⟩
  | some cs=>
   have hrd:=HRL.dat hr hd;exact ⟨⟨vs,rfl,RdD.rdl hrd⟩,fun d hd=>hrd.zbh hd⟩
 | elt cs=>exact ⟨h,fun d hd=>hd⟩
 | undef=>exact ⟨h,fun d hd=>hd⟩
 | any=>exact ⟨trivial,fun d hd=>hd⟩
 | tup l=>exact ⟨trivial,fun d hd=>hd⟩
def vos (h:RI Γ E ρ J η a w):Env:=⟨w,MX E.Mo ρ η,fun _=>False,#[],E.ds,fun _ _ hm=>xhq h.inv hm⟩
theorem RI.old (h:RI Γ E ρ J η a w):RelI (vos h) (fun _=>⟨Go.undef,0⟩) (MX E.Mo ρ η) (J.map vw) a w:=by
 have hget:∀(i:Nat) (av:AV),(J.map vw)[i]? = some av->∃ x,J[i]? = some x/\av=vw x:=fun i av hi=>by
  rw [List.getElem?_map] at hi;obtain ⟨x,hx,rfl⟩:=Option.map_eq_some_iff.1 hi;exact ⟨x,hx,rfl⟩
 have hlive:∀ d,¬live (J.map vw) d:=fun d ⟨i,av,hi,ht⟩=>by
  obtain ⟨x,hx,rfl⟩:=hget i av hi;exact (xk1 (τ:=fun _=>⟨Go.undef,0⟩) (tm:=a.tmps) (h.slot i x hx)).2 d ht
 refine ⟨h.hd,by simpa using h.hs,?_,fun _ _ hm=>hm,fun _ _ hm=>xhq h.inv hm,?_,?_,?_,fun d hd=>absurd hd (hlive d),fun d _ _ hd=>absurd hd (hlive d),fun d _ _ hd=>absurd hd (hlive d),Nat.le_refl _,rfl,rfl,rfl,fun _ _ _=>rfl⟩
 . intro i av hi;obtain ⟨x,hx,rfl⟩:=hget i av hi;exact (xk1 (h.slot i x hx)).1
 . intro i av hi hh;obtain ⟨x,hx,rfl⟩:=hget i av hi;rw [wkn] at hh;cases hh
 . intro i j x y hi hj hx;obtain ⟨x',_,rfl⟩:=hget i x hi;rw [wkn] at hx;cases hx
 . intro i av s b hi hr;obtain ⟨x,hx,rfl⟩:=hget i av hi;rw [y0h] at hr;cases hr
end
def valB:Builtin->Bool
 | .len | .cap | .append | .max | .min | .copy | .unsafeSliceData | .unsafeString=>true
 | _=>false
def v8h:Op->Bool
 | .move _ | .assign _ | .pick _ _ _ | .alloc _ | .box _ _ | .build _ _ | .buildSlice _ _ _ | .load _ _ | .binOp _ _ _ _ _ | .unOp _ _ _ | .convert _ _ _ | .makeSlice _ _ _ | .slice _ _ _ _ _ | .fieldAddr _ _ _ | .field _ _ _ | .indexAddr _ _ _
 | .index _ _ _ | .extract _ _=>true
 | .call { callee:=.builtin b,.. }=>valB b
 | _=>false
theorem xu4 {P:Program} {α:Type} {f:α->Value} {s:Sem α} {w w':World} {n:Next} (h:(s.bind (fun v=>.pure (.value (f v))):Sem Next).run P w=.ok n w'):∃ v,n=.value v:=by
 induction s generalizing w with
 | pure a=>simp only [Sem.bind,Sem.run,Result.ok.injEq] at h;exact ⟨f a,h.1.symm⟩
 | load m ad k ih=>
  simp only [Sem.bind,Sem.run] at h;split at h
  . exact ih _ h
  . split at h
    . exact ih _ h
    . cases h
 | store m ad v k ih=>
  cases v<;>simp only [Sem.bind,Sem.run] at h<;>first | (cases h;done) | skip
  all_goals
   split at h
   . split at h
     . cases h
     . exact ih h
   . split at h
     . exact ih h
     . cases h
 | new ob k ih=>exact ih _ h
 | shape r k ih=>exact ih _ h
 | freeze ad n k ih=>exact ih h
 | frozen ad k ih=>exact ih _ h
 | getObj r k ih=>
  simp only [Sem.bind,Sem.run] at h;split at h
  . cases h
  . exact ih _ h
  . cases h
 | setObj r ob k ih=>
  simp only [Sem.bind,Sem.run] at h;split at h
  . cases h
  . exact ih h
  . cases h
 | choose q k ih=>
  simp only [Sem.bind,Sem.run] at h;split at h
  . exact ih _ h
  . exact ih _ h
 | sys c k ih=>exact ih _ h
 | program k ih=>exact ih _ h
 | mark m k ih=>exact ih h
 | halt hh=>cases h
theorem y0n {P:Program} {s:Sem Value} {w w':World} {n:Next} (h:(do pure (.value (<-s)):Sem Next).run P w=.ok n w'):∃ v,n=.value v:=
 xu4 (f:=id) h
theorem x7j {P:Program} {o:Oper} (hv:v8h o.op=true) {ρ:Operand->Value} {w w':World} {n:Next} (h:(execOp ρ o).run P w=.ok n w'):∃ v,n=.value v:=by
 unfold execOp at h;unfold v8h at hv
 split at hv<;>first | (cases hv;done) | skip
 all_goals (rename_i heq;rw [heq] at h)
 case h_19 b xs ts=>
  have h:(builtin b ts o.type _ (xs.map ρ)).run P w=.ok n w':=h;unfold valB at hv
  split at hv<;>first | (cases hv;done) | skip
  all_goals exact y0n h
 all_goals first
  | exact y0n h
  | exact xu4 (f:=fun b=>if b=true then ρ _ else ρ _) h
  | (simp only [Sem.run_pure,Result.ok.injEq] at h;exact ⟨_,h.1.symm⟩)
end Go.Hp
namespace Go.Hp
open Go Go.RowKit Go.Slot
variable {P:Program} {Γ:List (Nat×List Cell)}
theorem wpk.val {o:Oper} {J:List SV} {η:List SB} {rd rh:List Nat} {d:Nat} {x:SV} {heff:List (Nat×SB)} (hdst:o.dst=some d)
 (hrun:∀(E:HEnv) (ρ:Nat->Value) (J':List SV) (η':List SB) (a:Act) (w:World),agS rd J J'->agB rh η η'->RI Γ E ρ J' η' a w->
   ∃ v w' ρ',(execOp a.eval o).run P w=.ok (.value v) w'/\Went Γ E.Mo ρ η' w ρ' (appL heff η') w'/\SVR (appL heff η') ρ' (MX E.Mo ρ' (appL heff η')) w' v x):wpk Γ P o J η rd rh [(d,x)] heff:=by
 intro E ρ J' η' a w hag hah hI K Q hK;obtain ⟨v,w',ρ',hr,hw,hx⟩:=hrun E ρ J' η' a w hag hah hI;unfold Oper.wp;rw [hr];show K (a.put o.dst v) w';rw [hdst];exact hK _ _ ρ' ((hI.go hw).put hx)
theorem wpk.pure {o:Oper} {J:List SV} {η:List SB} {rd rh:List Nat} {d:Nat} {x:SV} (hdst:o.dst=some d)
 (hrun:∀(E:HEnv) (ρ:Nat->Value) (J':List SV) (η':List SB) (a:Act) (w:World),agS rd J J'->agB rh η η'->RI Γ E ρ J' η' a w->
   ∃ v,(execOp a.eval o).run P w=.ok (.value v) w/\SVR η' ρ (MX E.Mo ρ η') w v x):wpk Γ P o J η rd rh [(d,x)] []:=
 wpk.val hdst (fun E ρ J' η' a w hag hah hI=>by
  obtain ⟨v,h1,h2⟩:=hrun E ρ J' η' a w hag hah hI
  exact ⟨v,w,ρ,h1,Went.refl hI.inv,h2⟩)
theorem wpk.skip {o:Oper} {J:List SV} {η:List SB} {rd rh:List Nat} {heff:List (Nat×SB)} (hdst:o.dst=none)
 (hrun:∀(E:HEnv) (ρ:Nat->Value) (J':List SV) (η':List SB) (a:Act) (w:World),agS rd J J'->agB rh η η'->RI Γ E ρ J' η' a w->
   ∃ w' ρ',(execOp a.eval o).run P w=.ok .skip w'/\Went Γ E.Mo ρ η' w ρ' (appL heff η') w'):wpk Γ P o J η rd rh [] heff:=by
 intro E ρ J' η' a w hag hah hI K Q hK;obtain ⟨w',ρ',hr,hw⟩:=hrun E ρ J' η' a w hag hah hI;unfold Oper.wp;rw [hr];show K (a.put o.dst Go.undef) w';rw [hdst];exact hK _ _ ρ' (hI.go hw)
theorem agS.view {rd:List Nat} {J J':List SV} (h:agS rd J J'):wtr rd (J.map vw) (J'.map vw):=
 ⟨by simp [h.1],fun r hr=>by rw [zci,zci,h.2 r hr]⟩
theorem RI.take {E:HEnv} {ρ:Nat->Value} {J:List SV} {σv:List AV} {η:List SB} {a:Act} {w:World} (h:RI Γ E ρ J η a w) {o:Oper} {d:Nat} {av:AV} {rd:List Nat} (hvo:v8h o.op=true) (hdst:o.dst=some d) (hlt:d<J.length)
 (hst:yjc P o σv rd [] [(d,av)]) (hag:wtr rd σv (J.map vw)) :
 ∃ v w' M' τ tm,(execOp a.eval o).run P w=.ok (.value v) w'/\Below w.heap.size w w'/\(∀ b o,MX E.Mo ρ η b o->M' b o)/\wki M' w' τ tm v av/\(av.yte=true->av.fresh=true->w.heap.size<=blk v/\∀ o,M' (blk v) o):=by
 have hA:=hst (vos h) (J.map vw) a w hag (by intro t ht;cases ht) ⟨_,_,h.old⟩ (fun a' w'=>Rel (vos h) ((J.map vw).set d av) a' w') (fun _ _ _=>False) (fun a' w' hR=>hR);unfold Oper.wp at hA
 cases hr:(execOp a.eval o).run P w with
 | halt hh w'=>
  rw [hr] at hA
  cases hh<;>exact hA.elim
 | ok n w'=>
  obtain ⟨v,rfl⟩:=x7j hvo hr;rw [hr] at hA;rw [Oper.upon_value,hdst] at hA;obtain ⟨τ,M',hI⟩:=hA
  have hd:((J.map vw).set d av)[d]? = some av:=by simp [hlt]
  have hs:=hI.slot d av hd
  have hlt':d<a.tmps.size:=by rw [h.hs];exact hlt
  have hself:(a.put (some d) v).tmps.getD d Go.undef=v:=by simp [Act.put,hlt']
  rw [hself] at hs;refine ⟨v,w',M',τ,_,rfl,⟨hI.os,hI.tape,hI.output,hI.size,fun k hk=>hI.frame k hk (fun hx=>hx)⟩,hI.m0,hs,fun hh hf=>?_⟩;have h1:=(hI.hold d av hd hh).2.2.1 hf;have h2:=(hI.hold d av hd hh).1;rw [hself] at h1 h2;exact ⟨h1,h2⟩
def av2 (nb:Nat):AV->Option (SV×Option SB)
 | .one c=>some (.one (.dat c.bare),none)
 | .agg cs=>some (.agg ((wal cs).map .dat),none)
 | .elt cs=>some (.elt cs,none)
 | .any=>some (.any,none)
 | .arr [] c none=>some (.one (.sl nb c.esz 0 c.cnt),some (.arr c 0 none))
 | _=>none
theorem RdL.hrl {η:List SB} {ρ:Nat->Value} {M M':Nat->Nat->Prop} {w:World} {τ:Nat->TV} (hM:∀ b o,M b o->M' b o):∀{vs:List Value} {cs:List Cell},RdL M' w τ vs cs->HRL η ρ M w vs ((wal cs).map .dat)
 | [],[],_=>trivial
 | _::_,_::_,h=>⟨(RdT.bare h.1).keep (y3e.shrink w hM),RdL.hrl hM h.2⟩
def oB (nb:Nat):Option SB->List (Nat×SB)
 | none=>[]
 | some x=>[(nb,x)]
def oN (nb:Nat):Option SB->List Nat
 | none=>[]
 | some _=>[nb]
def wo7 (η:List SB) (nb:Nat):Bool:=match η[nb]? with
 | some .fresh=>true
 | _=>false
theorem yk3 {η:List SB} {nb:Nat} (h:wo7 η nb=true):η[nb]? = some .fresh:=by
 unfold wo7 at h;split at h
 . assumption
 . cases h
theorem agB.room {rh:List Nat} {η η':List SB} (h:agB rh η η') {nb:Nat} (hb:nb∈rh) (hr:wo7 η nb=true):η'[nb]? = some .fresh:=by
 rw [h.2 nb hb];exact yk3 hr
def zm6 (η:List SB) (nb:Nat):Option SB->Bool
 | none=>true
 | some _=>wo7 η nb
theorem yf4 {o:Oper} {J:List SV} {η:List SB} {nb d:Nat} {rd:List Nat} {av:AV} {x:SV} {ob:Option SB} (hvo:v8h o.op=true) (hdst:o.dst=some d) (hst:yjc P o (J.map vw) rd [] [(d,av)])
 (hd:d<J.length) (h2:av2 nb av=some (x,ob)) (hroom:zm6 η nb ob=true):wpk Γ P o J η rd (oN nb ob) [(d,x)] (oB nb ob):=by
 refine wpk.val hdst (fun E ρ J' η' a w hag hah hI=>?_);obtain ⟨v,w',M',τ,tm,hrun,hb,hM,hs,hf⟩:=hI.take hvo hdst (by rw [hag.1];exact hd) hst hag.view
 have plain:ob=none->SVR η' ρ (MX E.Mo ρ η') w' v x->∃ v w' ρ',(execOp a.eval o).run P w=.ok (.value v) w'/\Went Γ E.Mo ρ η' w ρ' (appL (oB nb ob) η') w'/\SVR (appL (oB nb ob) η') ρ' (MX E.Mo ρ' (appL (oB nb ob) η')) w' v x:=fun e hx=>by
  subst e;exact ⟨v,w',ρ,hrun,Went.below hI.inv hb,hx⟩
 unfold av2 at h2;split at h2
 . rename_i c
   cases h2;exact plain rfl ((RdT.bare hs).keep (y3e.shrink w' hM))
 . rename_i cs
   cases h2;obtain ⟨vs,e,hr⟩:=hs;exact plain rfl ⟨vs,e,RdL.hrl hM hr⟩
 . rename_i cs
   cases h2;obtain ⟨b,off,vs,e,hc,hr⟩:=hs;exact plain rfl ⟨b,off,vs,e,fun j u hj=>⟨fun hm=>(hc j u hj).1 (hM _ _ hm),(hc j u hj).2⟩,hr.keep (y3e.shrink w' hM)⟩
 . cases h2;exact plain rfl trivial
 . rename_i c
   cases h2;obtain ⟨b,T,vs,q,cap,rfl,hbk,hr,_,hu,hcap,hsz⟩:=hs;have hfr:=hah.room (show nb∈oN nb (some (SB.arr c 0 none)) by simp [oN]) hroom;have hge:w.heap.size<=b:=(hf rfl rfl).1;have hlt:nb<η'.length:=(List.getElem?_eq_some_iff.1 hfr).1;have hok:okB (η'.set nb (.arr c 0 none)) nb:=⟨_,by simp [hlt];rfl,by simp⟩;refine ⟨_,w',upd ρ nb (.pointer (some ⟨b,0,none⟩)),hrun,Went.new hI.inv hb hfr (by simp) (fun _ _=>hge) (fun _=>⟨⟨hu,Nat.zero_le _⟩,.inr ⟨b,vs,q,T,rfl,by simpa using hbk,hr.keep (y3e.shrink w' ?_),by simp⟩⟩),?_⟩
   . intro b' o' hm
     rcases hm with hm | ⟨i,y,hi,hy,hre,e⟩
     . exact hM _ _ (.inl hm)
     . rcases wl7 hi with ⟨rfl,rfl⟩ | ⟨hn,hi⟩
       . rw [xjo] at e;subst e;exact (hf rfl rfl).2 o'
       . rw [vw6 hn] at hre e;exact hM _ _ (.inr ⟨i,y,hi,hy,hre,e⟩)
   . refine ⟨hok,_,cap,rfl,hcap,fun _=>⟨by rw [xjo];simp [real],by rw [xjo];simp [bk,blk],_,T,_,by rw [xjo];exact hbk,?_⟩⟩;simpa using hsz
 . cases h2
end Go.Hp
