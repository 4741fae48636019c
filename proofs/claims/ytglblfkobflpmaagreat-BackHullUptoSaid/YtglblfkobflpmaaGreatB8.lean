/- The proof, part B8: Ha, Hb, Hc. -/
import Derived.Test.YtglblfkobflpmaaGreatB7
namespace Go.Hp
open Go Go.RowKit Go.Slot
inductive HC where
 | any
 | dat (c:Cell)
 | ptr (b off:Nat)
 | pel (b es i f:Nat)
 | sl (b es lo n:Nat)
 | mp (b:Nat)
 | fnr (b:Nat)
inductive SV where
 | any
 | undef
 | one (h:HC)
 | agg (hs:List HC)
 | tup (l:List SV)
 | elt (cs:List Cell)
inductive SB where
 | fresh
 | dead
 | box (hs:List HC) (T:Option TypeId)
 | arr (c:Cell) (k:Nat) (T:Option TypeId)
 | map (es:List (Value×SV))
 | clo (f:FuncId) (caps:List SV)
def SB.own:SB->Bool
 | .box _ _ | .arr _ _ _ | .map _=>true
 | _=>false
def SB.mut (o:Nat):SB->Prop
 | .box _ _=>True
 | .arr _ k _=>k<=o
 | _=>False
theorem SB.zgj {x:SB} {o:Nat} (h:x.mut o):x.own=true:=by cases x<;>first | rfl | exact h.elim
def bk:Value->Nat
 | .map (some b)=>b
 | v=>blk v
def okB (J:List SB) (b:Nat):Prop:=∃ x,J[b]? = some x/\x≠.fresh
def real (v:Value):Prop:=v≠.pointer none
def Xb (ρ:Nat->Value) (J:List SB) (k:Nat):Prop:=∃ i x,J[i]? = some x/\x.own=true/\real (ρ i)/\bk (ρ i)=k
def MX (Mo:Nat->Nat->Prop) (ρ:Nat->Value) (J:List SB) (b o:Nat):Prop:=Mo b o\/∃ i x,J[i]? = some x/\x.mut o/\real (ρ i)/\bk (ρ i)=b
def HRd (J:List SB) (ρ:Nat->Value) (M:Nat->Nat->Prop) (w:World) (v:Value):HC->Prop
 | .any=>v.oneCell'=true
 | .dat c=>RdC M w v c
 | .ptr b off=>okB J b/\v=.pointer (some ⟨bk (ρ b),off,none⟩)
 | .pel b es i f=>okB J b/\v=.pointer (some ⟨bk (ρ b),i*es+f,none⟩)
 | .sl b es lo n=>okB J b/\∃ ad cap,v=.slice ad n cap/\n<=cap/\(cap≠0->real (ρ b)/\ad=some ⟨bk (ρ b),lo*es,none⟩/\∃(arr:Array Value) (T:TypeId) (fz:Nat×Nat),w.heap[bk (ρ b)]? = some (Obj.cells arr T fz)/\(lo+cap)*es<=arr.size)
 | .mp b=>okB J b/\v=ρ b/\v.oneCell'=true
 | .fnr b=>okB J b/\v=ρ b/\v.oneCell'=true
def HRL (J:List SB) (ρ:Nat->Value) (M:Nat->Nat->Prop) (w:World):List Value->List HC->Prop
 | [],[]=>True
 | v::vs,h::hs=>HRd J ρ M w v h/\HRL J ρ M w vs hs
 | _,_=>False
def SVR0 (J:List SB) (ρ:Nat->Value) (M:Nat->Nat->Prop) (w:World) (v:Value):SV->Prop
 | .any=>True
 | .undef=>v=Go.undef
 | .one h=>HRd J ρ M w v h
 | .agg hs=>∃ vs:List Value,v=.agg vs.toArray/\HRL J ρ M w vs hs
 | .elt cs=>∃(b off:Nat) (vs:List Value),v=.pointer (some ⟨b,off,none⟩)/\(∀ j u,vs[j]? = some u->¬M b (off+j)/\w.cell? ⟨b,off+j,none⟩=some u)/\RdD M w vs cs
 | .tup _=>False
def SRL (J:List SB) (ρ:Nat->Value) (M:Nat->Nat->Prop) (w:World):List Value->List SV->Prop
 | [],[]=>True
 | v::vs,x::l=>SVR0 J ρ M w v x/\SRL J ρ M w vs l
 | _,_=>False
def SVR (J:List SB) (ρ:Nat->Value) (M:Nat->Nat->Prop) (w:World) (v:Value):SV->Prop
 | .tup l=>∃ vs:List Value,v=.tuple vs.toArray/\SRL J ρ M w vs l
 | x=>SVR0 J ρ M w v x
def EnR (J:List SB) (ρ:Nat->Value) (M:Nat->Nat->Prop) (w:World):List MapEntry->List (Value×SV)->Prop
 | [],[]=>True
 | e::es,p::l=>(e.key=p.1/\SVR0 J ρ M w e.val p.2)/\EnR J ρ M w es l
 | _,_=>False
def SBR (J:List SB) (ρ:Nat->Value) (M:Nat->Nat->Prop) (w:World) (v:Value):SB->Prop
 | .fresh | .dead=>True
 | .box hs t=>∃(b:Nat) (vs:List Value) (T:TypeId),v=.pointer (some ⟨b,0,none⟩)/\w.heap[b]? = some (.cells vs.toArray T (0,0))/\HRL J ρ M w vs hs/\∀ t',t=some t'->T=t'
 | .arr c k t=>(c.uni/\k<=c.cnt*c.esz)/\((c.cnt=0/\v=.pointer none)\/∃(b:Nat) (vs q:List Value) (T:TypeId),v=.pointer (some ⟨b,0,none⟩)/\w.heap[b]? = some (.cells (vs++q).toArray T (0,0))/\RdD M w vs c.flat/\∀ t',t=some t'->T=t')
 | .map es=>∃(b:Nat) (ents:Array MapEntry) (clk:Nat),v=.map (some b)/\w.heap[b]? = some (.map ents clk)/\EnR J ρ M w ents.toList es
 | .clo f caps=>∃ cv:List Value,v=.func (.func f) #[] cv.toArray/\SRL J ρ M w cv caps
def Grow (w w':World):Prop:=∀(b:Nat) (arr:Array Value) (T:TypeId) (fz:Nat×Nat),w.heap[b]? = some (Obj.cells arr T fz)->∃(arr':Array Value) (T':TypeId) (fz':Nat×Nat),w'.heap[b]? = some (Obj.cells arr' T' fz')/\arr.size<=arr'.size
theorem Grow.refl (w:World):Grow w w:=fun _ arr T fz h=>⟨arr,T,fz,h,Nat.le_refl _⟩
theorem Grow.trans {a b c:World} (h:Grow a b) (k:Grow b c):Grow a c:=fun i arr T fz hi=>by
 obtain ⟨arr',T',fz',h1,h2⟩:=h i arr T fz hi;obtain ⟨arr2,T2,fz2,h3,h4⟩:=k i arr' T' fz' h1;exact ⟨arr2,T2,fz2,h3,Nat.le_trans h2 h4⟩
theorem Grow.below {w w':World} (h:Below w.heap.size w w'):Grow w w':=fun b arr T fz hb=>
 ⟨arr,T,fz,(h.block b (Array.getElem?_eq_some_iff.1 hb).1).trans hb,Nat.le_refl _⟩
structure Mv (J:List SB) (ρ:Nat->Value) (M:Nat->Nat->Prop) (w:World) (J':List SB) (ρ':Nat->Value) (M':Nat->Nat->Prop) (w':World):Prop where
 ok:∀ b,okB J b->okB J' b
 rho:∀ b,okB J b->ρ' b=ρ b
 keep:wf2 M M' w w'
 grow:Grow w w'
section
variable {J J':List SB} {ρ ρ':Nat->Value} {M M':Nat->Nat->Prop} {w w':World}
theorem HRd.mv (m:Mv J ρ M w J' ρ' M' w') {v:Value} {h:HC} (hr:HRd J ρ M w v h):HRd J' ρ' M' w' v h:=by
 cases h with
 | any=>exact hr
 | dat c=>exact RdC.keep m.keep hr
 | ptr b off=>exact ⟨m.ok b hr.1,by rw [m.rho b hr.1];exact hr.2⟩
 | pel b es i f=>exact ⟨m.ok b hr.1,by rw [m.rho b hr.1];exact hr.2⟩
 | sl b es lo n=>
  obtain ⟨ho,ad,cap,hv,hn,hc⟩:=hr;refine ⟨m.ok b ho,ad,cap,hv,hn,fun h0=>?_⟩;obtain ⟨hre,h1,arr,T,fz,h2,h3⟩:=hc h0;rw [m.rho b ho];obtain ⟨arr',T',fz',h4,h5⟩:=m.grow _ _ _ _ h2;exact ⟨hre,h1,arr',T',fz',h4,Nat.le_trans h3 h5⟩
 | mp b=>exact ⟨m.ok b hr.1,by rw [m.rho b hr.1];exact hr.2⟩
 | fnr b=>exact ⟨m.ok b hr.1,by rw [m.rho b hr.1];exact hr.2⟩
theorem HRL.mv (m:Mv J ρ M w J' ρ' M' w'):∀{vs:List Value} {hs:List HC},HRL J ρ M w vs hs->HRL J' ρ' M' w' vs hs
 | [],[],_=>trivial
 | _::_,_::_,h=>⟨h.1.mv m,h.2.mv m⟩
theorem SVR0.mv (m:Mv J ρ M w J' ρ' M' w') {v:Value} {x:SV} (h:SVR0 J ρ M w v x):SVR0 J' ρ' M' w' v x:=by
 cases x with
 | one c=>exact HRd.mv m h
 | agg cs=>obtain ⟨vs,rfl,h⟩:=h;exact ⟨vs,rfl,h.mv m⟩
 | elt cs=>obtain ⟨b,off,vs,rfl,hc,h⟩:=h;exact ⟨b,off,vs,rfl,fun j u hj=>m.keep _ _ _ (hc j u hj).1 (hc j u hj).2,h.keep m.keep⟩
 | _=>exact h
theorem SRL.mv (m:Mv J ρ M w J' ρ' M' w'):∀{vs:List Value} {l:List SV},SRL J ρ M w vs l->SRL J' ρ' M' w' vs l
 | [],[],_=>trivial
 | _::_,_::_,h=>⟨h.1.mv m,h.2.mv m⟩
theorem SVR.of0 {v:Value} {x:SV} (h:SVR0 J ρ M w v x):SVR J ρ M w v x:=by
 cases x<;>first | exact h | exact h.elim
theorem SVR.mv (m:Mv J ρ M w J' ρ' M' w') {v:Value} {x:SV} (h:SVR J ρ M w v x):SVR J' ρ' M' w' v x:=by
 cases x with
 | tup l=>obtain ⟨vs,rfl,h⟩:=h;exact ⟨vs,rfl,h.mv m⟩
 | _=>exact SVR.of0 (SVR0.mv m h)
theorem EnR.mv (m:Mv J ρ M w J' ρ' M' w'):∀{es:List MapEntry} {l:List (Value×SV)},EnR J ρ M w es l->EnR J' ρ' M' w' es l
 | [],[],_=>trivial
 | _::_,_::_,h=>⟨⟨h.1.1,h.1.2.mv m⟩,h.2.mv m⟩
theorem SBR.mv (m:Mv J ρ M w J' ρ' M' w') {v:Value} {x:SB} (hh:x.own=true->real v->w'.heap[bk v]? = w.heap[bk v]?) (h:SBR J ρ M w v x):SBR J' ρ' M' w' v x:=by
 cases x with
 | fresh=>trivial
 | dead=>trivial
 | box hs t=>obtain ⟨b,vs,T,rfl,hb,h,ht⟩:=h;exact ⟨b,vs,T,rfl,(hh rfl (by simp [real])).trans hb,h.mv m,ht⟩
 | arr c k t=>
  obtain ⟨hu,h | ⟨b,vs,q,T,rfl,hb,h,hk⟩⟩:=h
  . exact ⟨hu,.inl h⟩
  . exact ⟨hu,.inr ⟨b,vs,q,T,rfl,(hh rfl (by simp [real])).trans hb,h.keep m.keep,hk⟩⟩
 | map es=>obtain ⟨b,ents,clk,rfl,hb,h⟩:=h;exact ⟨b,ents,clk,rfl,(hh rfl (by simp [real])).trans hb,h.mv m⟩
 | clo f caps=>obtain ⟨cv,rfl,h⟩:=h;exact ⟨cv,rfl,h.mv m⟩
theorem SBR.whw {v:Value} {x:SB} (h:SBR J ρ M w v x) (ho:x.own=true) (hr:real v):bk v<w.heap.size:=by
 cases x with
 | box hs t=>obtain ⟨b,vs,T,rfl,hb,_⟩:=h;exact (Array.getElem?_eq_some_iff.1 hb).1
 | arr c k t=>
  obtain ⟨_,⟨_,e⟩ | ⟨b,vs,q,T,rfl,hb,_⟩⟩:=h
  . exact absurd e hr
  . exact (Array.getElem?_eq_some_iff.1 hb).1
 | map es=>obtain ⟨b,ents,clk,rfl,hb,_⟩:=h;exact (Array.getElem?_eq_some_iff.1 hb).1
 | _=>cases ho
theorem HRd.one {v:Value} {h:HC} (hr:HRd J ρ M w v h):v.oneCell'=true:=by
 cases h with
 | any=>exact hr
 | dat c=>exact RdC.one hr
 | ptr b off=>rw [hr.2];rfl
 | pel b es i f=>rw [hr.2];rfl
 | sl b es lo n=>obtain ⟨_,ad,cap,rfl,_⟩:=hr;rfl
 | mp b=>exact hr.2.2
 | fnr b=>exact hr.2.2
theorem HRL.ones:∀{vs:List Value} {hs:List HC},HRL J ρ M w vs hs->∀ v∈vs,v.oneCell'=true
 | [],[],_,v,hv=>by simp at hv
 | u::vs,_::_,h,v,hv=>by
  rcases List.mem_cons.1 hv with rfl | hv
  . exact h.1.one
  . exact h.2.ones v hv
theorem HRL.length:∀{vs:List Value} {hs:List HC},HRL J ρ M w vs hs->vs.length=hs.length
 | [],[],_=>rfl
 | _::_,_::_,h=>by simp [h.2.length]
theorem SRL.length:∀{vs:List Value} {l:List SV},SRL J ρ M w vs l->vs.length=l.length
 | [],[],_=>rfl
 | _::_,_::_,h=>by simp [h.2.length]
theorem HRL.drop:∀(n:Nat) {vs:List Value} {cs:List HC},HRL J ρ M w vs cs->HRL J ρ M w (vs.drop n) (cs.drop n)
 | 0,_,_,h=>by simpa using h
 | n+1,[],[],_=>trivial
 | n+1,_::_,_::_,h=>by simpa using h.2.drop n
theorem HRL.take:∀(n:Nat) {vs:List Value} {cs:List HC},HRL J ρ M w vs cs->HRL J ρ M w (vs.take n) (cs.take n)
 | 0,_,_,_=>trivial
 | _n+1,[],[],_=>trivial
 | n+1,_::_,_::_,h=>⟨h.1,h.2.take n⟩
theorem HRL.append:∀{vs:List Value} {cs:List HC} {us:List Value} {ds:List HC},HRL J ρ M w vs cs->HRL J ρ M w us ds->HRL J ρ M w (vs++us) (cs++ds)
 | [],[],_,_,_,h=>h
 | _::_,_::_,_,_,h,h'=>⟨h.1,h.2.append h'⟩
theorem SRL.append:∀{vs:List Value} {cs:List SV} {us:List Value} {ds:List SV},SRL J ρ M w vs cs->SRL J ρ M w us ds->SRL J ρ M w (vs++us) (cs++ds)
 | [],[],_,_,_,h=>h
 | _::_,_::_,_,_,h,h'=>⟨h.1,h.2.append h'⟩
theorem SRL.get:∀{vs:List Value} {cs:List SV},SRL J ρ M w vs cs->∀(j:Nat) (c:SV),cs[j]? = some c->∃ v,vs[j]? = some v/\SVR0 J ρ M w v c
 | [],[],_,j,c,hc=>by simp at hc
 | v::vs,c'::cs,h,0,c,hc=>by simp at hc;subst hc;exact ⟨v,by simp,h.1⟩
 | v::vs,c'::cs,h,j+1,c,hc=>by simpa using h.2.get j c (by simpa using hc)
theorem RdD.hrl:∀{vs:List Value} {cs:List Cell},RdD M w vs cs->HRL J ρ M w vs (cs.map .dat)
 | [],[],_=>trivial
 | _::_,_::_,h=>⟨h.1,RdD.hrl h.2⟩
end
def y72 (Γ:List (Nat×List Cell)) (M:Nat->Nat->Prop) (w:World):Prop:=
 ∀ g cs,(g,cs)∈Γ->∃ vs:List Value,(∀ j u,vs[j]? = some u->¬M g j/\w.cell? ⟨g,j,none⟩=some u)/\RdD M w vs cs
theorem y72.keep {Γ:List (Nat×List Cell)} {M M':Nat->Nat->Prop} {w w':World} (hk:wf2 M M' w w') (h:y72 Γ M w):y72 Γ M' w':=fun g cs hg=>by
 obtain ⟨vs,h1,h2⟩:=h g cs hg;exact ⟨vs,fun j u hj=>hk _ _ _ (h1 j u hj).1 (h1 j u hj).2,h2.keep hk⟩
structure HInv (Γ:List (Nat×List Cell)) (Mo:Nat->Nat->Prop) (ρ:Nat->Value) (J:List SB) (w:World):Prop where
 bnd:∀ b o,Mo b o->b<w.heap.size
 blk:∀ i x,J[i]? = some x->SBR J ρ (MX Mo ρ J) w (ρ i) x
 inj:∀ i j x y,J[i]? = some x->J[j]? = some y->x.own=true->y.own=true->real (ρ i)->real (ρ j)->bk (ρ i)=bk (ρ j)->i=j
 sep:∀ i x,J[i]? = some x->x.own=true->real (ρ i)->∀ o,¬Mo (bk (ρ i)) o
 glob:y72 Γ (MX Mo ρ J) w
structure Went (Γ:List (Nat×List Cell)) (Mo:Nat->Nat->Prop) (ρ:Nat->Value) (J:List SB) (w:World) (ρ':Nat->Value) (J':List SB) (w':World):Prop where
 ok:∀ b,okB J b->okB J' b
 rho:∀ b,okB J b->ρ' b=ρ b
 keep:wf2 (MX Mo ρ J) (MX Mo ρ' J') w w'
 grow:Grow w w'
 inv:HInv Γ Mo ρ' J' w'
 size:w.heap.size<=w'.heap.size
 os:w'.os=w.os
 tape:w'.tape=w.tape
 output:w'.output=w.output
 frame:∀ k,k<w.heap.size->¬Xb ρ J k->w'.heap[k]? = w.heap[k]?
 fresh:∀ k,Xb ρ' J' k->w.heap.size<=k\/Xb ρ J k
section
variable {Γ:List (Nat×List Cell)} {Mo:Nat->Nat->Prop} {J J' J'':List SB} {ρ ρ' ρ'':Nat->Value} {w w' w'':World}
theorem Went.mv (h:Went Γ Mo ρ J w ρ' J' w'):Mv J ρ (MX Mo ρ J) w J' ρ' (MX Mo ρ' J') w':=⟨h.ok,h.rho,h.keep,h.grow⟩
theorem Went.refl (h:HInv Γ Mo ρ J w):Went Γ Mo ρ J w ρ J w:=
 ⟨fun _ h=>h,fun _ _=>rfl,fun _ _ _ h1 h2=>⟨h1,h2⟩,Grow.refl w,h,Nat.le_refl _,rfl,rfl,rfl,fun _ _ _=>rfl,fun _ h=>.inr h⟩
theorem Went.trans (h:Went Γ Mo ρ J w ρ' J' w') (k:Went Γ Mo ρ' J' w' ρ'' J'' w''):Went Γ Mo ρ J w ρ'' J'' w'' where
 ok:=fun b hb=>k.ok b (h.ok b hb)
 rho:=fun b hb=>(k.rho b (h.ok b hb)).trans (h.rho b hb)
 keep:=h.keep.trans k.keep
 grow:=h.grow.trans k.grow
 inv:=k.inv
 size:=Nat.le_trans h.size k.size
 os:=k.os.trans h.os
 tape:=k.tape.trans h.tape
 output:=k.output.trans h.output
 frame:=fun i hi hx=>(k.frame i (Nat.lt_of_lt_of_le hi h.size) (fun h1=>by
  rcases h.fresh i h1 with h2 | h2
  . omega
  . exact hx h2)).trans (h.frame i hi hx)
 fresh:=fun i hx=>by
  rcases k.fresh i hx with h1 | h1
  . exact .inl (Nat.le_trans h.size h1)
  . exact h.fresh i h1
theorem w2t {i b:Nat} {x:SB} (hx:x≠.fresh) (h:okB J b):okB (J.set i x) b:=by
 obtain ⟨y,h1,h2⟩:=h;unfold okB;rw [List.getElem?_set]
 split
 . rename_i e;subst e;rw [if_pos (List.getElem?_eq_some_iff.1 h1).1];exact ⟨x,rfl,hx⟩
 . exact ⟨y,h1,h2⟩
theorem v3t {b:Nat} (l:List SB) (h:okB J b):okB (J++l) b:=by
 obtain ⟨y,h1,h2⟩:=h;exact ⟨y,by rw [List.getElem?_append_left (List.getElem?_eq_some_iff.1 h1).1];exact h1,h2⟩
theorem yu7 {α:Type} {l:List α} {d i:Nat} {x y:α} (h:(l.set d x)[i]? = some y):(i=d/\y=x)\/(i≠d/\l[i]? = some y):=getElem?_set_cases h
theorem HInv.below (h:HInv Γ Mo ρ J w) (hb:Below w.heap.size w w'):HInv Γ Mo ρ J w' where
 bnd:=fun b o ho=>Nat.lt_of_lt_of_le (h.bnd b o ho) hb.size
 blk:=fun i x hi=>(h.blk i x hi).mv ⟨fun _ h=>h,fun _ _=>rfl,wf2.below hb,Grow.below hb⟩ (fun ho hr=>hb.block _ ((h.blk i x hi).whw ho hr))
 inj:=h.inj
 sep:=h.sep
 glob:=h.glob.keep (wf2.below hb)
theorem Went.below (h:HInv Γ Mo ρ J w) (hb:Below w.heap.size w w'):Went Γ Mo ρ J w ρ J w':=
 ⟨fun _ h=>h,fun _ _=>rfl,wf2.below hb,Grow.below hb,h.below hb,hb.size,hb.os,hb.tape,hb.output,fun k hk _=>hb.block k hk,fun _ h=>.inr h⟩
theorem x02 (h:HInv Γ Mo ρ J w) {b o:Nat} (hm:MX Mo ρ J b o):b<w.heap.size:=by
 rcases hm with hm | ⟨i,x,hi,hx,hr,rfl⟩
 . exact h.bnd b o hm
 . exact (h.blk i x hi).whw (SB.zgj hx) hr
theorem yri {n i:Nat} {x:SB} (h:(J++List.replicate n .fresh)[i]? = some x):J[i]? = some x\/(J.length<=i/\x=.fresh):=by
 rw [List.getElem?_append] at h;split at h
 . exact .inl h
 . rw [List.getElem?_replicate] at h;split at h
   . cases h;exact .inr ⟨by omega,rfl⟩
   . cases h
theorem Went.extend (h:HInv Γ Mo ρ J w) (n:Nat):Went Γ Mo ρ J w ρ (J++List.replicate n .fresh) w:=by
 have hM:∀ b o,MX Mo ρ (J++List.replicate n .fresh) b o->MX Mo ρ J b o:=by
  rintro b o (hm | ⟨i,x,hi,hx,hr⟩)
  . exact .inl hm
  . rcases yri hi with hi | ⟨_,rfl⟩
    . exact .inr ⟨i,x,hi,hx,hr⟩
    . exact hx.elim
 have hk:wf2 (MX Mo ρ J) (MX Mo ρ (J++List.replicate n .fresh)) w w:=fun b o u h1 h2=>⟨fun hm=>h1 (hM b o hm),h2⟩
 refine ⟨fun b hb=>v3t _ hb,fun _ _=>rfl,hk,Grow.refl w,⟨h.bnd,?_,?_,?_,h.glob.keep hk⟩,Nat.le_refl _,rfl,rfl,rfl,fun _ _ _=>rfl,?_⟩
 . intro i x hi
   rcases yri hi with hi | ⟨_,rfl⟩
   . exact (h.blk i x hi).mv ⟨fun b hb=>v3t _ hb,fun _ _=>rfl,hk,Grow.refl w⟩ (fun _ _=>rfl)
   . trivial
 . intro i j x y hi hj hx hy
   rcases yri hi with hi | ⟨_,rfl⟩
   . rcases yri hj with hj | ⟨_,rfl⟩
     . exact h.inj i j x y hi hj hx hy
     . cases hy
   . cases hx
 . intro i x hi hx
   rcases yri hi with hi | ⟨_,rfl⟩
   . exact h.sep i x hi hx
   . cases hx
 . rintro k ⟨i,x,hi,hx,hr⟩
   rcases yri hi with hi | ⟨_,rfl⟩
   . exact .inr ⟨i,x,hi,hx,hr⟩
   . cases hx
def upd (ρ:Nat->Value) (b:Nat) (v:Value):Nat->Value:=fun i=>if i=b then v else ρ i
theorem yr4 {b:Nat} {v:Value}:upd ρ b v b=v:=by simp [upd]
theorem zwj {b i:Nat} {v:Value} (h:i≠b):upd ρ b v i=ρ i:=by simp [upd,h]
theorem x9f {b:Nat} (h:J[b]? = some .fresh):¬okB J b:=fun ⟨x,h1,h2⟩=>by rw [h] at h1;cases h1;exact h2 rfl
theorem Went.new (h:HInv Γ Mo ρ J w) (hb:Below w.heap.size w w') {b:Nat} (hf:J[b]? = some .fresh) {v:Value} {x:SB} (hxf:x≠.fresh)
 (hnew:x.own=true->real v->w.heap.size<=bk v)
 (hok:Mv J ρ (MX Mo ρ J) w (J.set b x) (upd ρ b v) (MX Mo (upd ρ b v) (J.set b x)) w'->SBR (J.set b x) (upd ρ b v) (MX Mo (upd ρ b v) (J.set b x)) w' v x):Went Γ Mo ρ J w (upd ρ b v) (J.set b x) w':=by
 have hne:∀ i,okB J i->i≠b:=fun i hi e=>x9f hf (e▸hi)
 have hM:∀ c o,MX Mo (upd ρ b v) (J.set b x) c o->MX Mo ρ J c o\/(w.heap.size<=c):=by
  rintro c o (hm | ⟨i,y,hi,hy,hr,e⟩)
  . exact .inl (.inl hm)
  . rcases yu7 hi with ⟨rfl,rfl⟩ | ⟨hn,hi⟩
    . rw [yr4] at hr e;exact .inr (e▸hnew (SB.zgj hy) hr)
    . rw [zwj hn] at hr e;exact .inl (.inr ⟨i,y,hi,hy,hr,e⟩)
 have hk:wf2 (MX Mo ρ J) (MX Mo (upd ρ b v) (J.set b x)) w w':=fun c o u h1 h2=>by
  have hl:=World.block_lt_of_cell? w _ h2;refine ⟨fun hm=>?_,(wf2.below hb c o u h1 h2).2⟩
  rcases hM c o hm with hm | hm
  . exact h1 hm
  . simp only at hl;omega
 have hm:Mv J ρ (MX Mo ρ J) w (J.set b x) (upd ρ b v) (MX Mo (upd ρ b v) (J.set b x)) w':=⟨fun i hi=>w2t hxf hi,fun i hi=>zwj (hne i hi),hk,Grow.below hb⟩;refine ⟨hm.ok,hm.rho,hk,hm.grow,⟨fun c o ho=>Nat.lt_of_lt_of_le (h.bnd c o ho) hb.size,?_,?_,?_,h.glob.keep hk⟩,hb.size,hb.os,hb.tape,hb.output,fun k hk _=>hb.block k hk,?_⟩
 . intro i y hi
   rcases yu7 hi with ⟨rfl,rfl⟩ | ⟨hn,hi⟩
   . rw [yr4];exact hok hm
   . rw [zwj hn];exact (h.blk i y hi).mv hm (fun ho hr=>hb.block _ ((h.blk i y hi).whw ho hr))
 . intro i j y z hi hj hy hz hri hrj e
   rcases yu7 hi with ⟨ei,ey⟩ | ⟨hn,hi'⟩
   . rcases yu7 hj with ⟨ej,ez⟩ | ⟨hn',hj'⟩
     . rw [ei,ej]
     . subst ei;subst ey;rw [yr4] at hri e;rw [zwj hn'] at hrj e;have h1:=hnew hy hri;have h2:=(h.blk j z hj').whw hz hrj;omega
   . rcases yu7 hj with ⟨ej,ez⟩ | ⟨hn',hj'⟩
     . subst ej;subst ez;rw [yr4] at hrj e;rw [zwj hn] at hri e;have h1:=hnew hz hrj;have h2:=(h.blk i y hi').whw hy hri;omega
     . rw [zwj hn] at hri e;rw [zwj hn'] at hrj e;exact h.inj i j y z hi' hj' hy hz hri hrj e
 . intro i y hi hy hr o ho
   rcases yu7 hi with ⟨rfl,rfl⟩ | ⟨hn,hi⟩
   . rw [yr4] at hr ho;have h1:=hnew hy hr;have h2:=h.bnd _ _ ho;omega
   . rw [zwj hn] at hr ho;exact h.sep i y hi hy hr o ho
 . rintro k ⟨i,y,hi,hy,hr,e⟩
   rcases yu7 hi with ⟨rfl,rfl⟩ | ⟨hn,hi⟩
   . rw [yr4] at hr e;exact .inl (e▸hnew hy hr)
   . rw [zwj hn] at hr e;exact .inr ⟨i,y,hi,hy,hr,e⟩
theorem Went.write (h:HInv Γ Mo ρ J w) {b:Nat} {x x':SB} (hx:J[b]? = some x) (ho:x.own=true) (hr:real (ρ b)) (ho':x'.own=true) (hmut:∀ o,x'.mut o↔x.mut o)
 (hsize:w'.heap.size=w.heap.size) (hos:w'.os=w.os) (htape:w'.tape=w.tape) (hout:w'.output=w.output) (hother:∀ k,k≠bk (ρ b)->w'.heap[k]? = w.heap[k]?) (hgrow:Grow w w')
 (hcell:∀ o u,¬x.mut o->w.cell? ⟨bk (ρ b),o,none⟩=some u->w'.cell? ⟨bk (ρ b),o,none⟩=some u)
 (hok:Mv J ρ (MX Mo ρ J) w (J.set b x') ρ (MX Mo ρ (J.set b x')) w'->SBR (J.set b x') ρ (MX Mo ρ (J.set b x')) w' (ρ b) x'):Went Γ Mo ρ J w ρ (J.set b x') w':=by
 have hxf:x'≠.fresh:=fun e=>by rw [e] at ho';cases ho'
 have hlt:b<J.length:=(List.getElem?_eq_some_iff.1 hx).1
 have hM:∀ c o,MX Mo ρ (J.set b x') c o↔MX Mo ρ J c o:=fun c o=>by
  constructor
  . rintro (hm | ⟨i,y,hi,hy,hr,e⟩)
    . exact .inl hm
    . rcases yu7 hi with ⟨rfl,rfl⟩ | ⟨hn,hi⟩
      . exact .inr ⟨i,x,hx,(hmut o).1 hy,hr,e⟩
      . exact .inr ⟨i,y,hi,hy,hr,e⟩
  . rintro (hm | ⟨i,y,hi,hy,hr,e⟩)
    . exact .inl hm
    . by_cases hn:i=b
      . subst hn;rw [hx] at hi;cases hi;exact .inr ⟨i,x',by simp [hlt],(hmut o).2 hy,hr,e⟩
      . exact .inr ⟨i,y,by rw [List.getElem?_set_ne (Ne.symm hn)];exact hi,hy,hr,e⟩
 have hk:wf2 (MX Mo ρ J) (MX Mo ρ (J.set b x')) w w':=fun c o u h1 h2=>by
  refine ⟨fun hm=>h1 ((hM c o).1 hm),?_⟩;by_cases e:c=bk (ρ b)
  . subst e;exact hcell o u (fun hm=>h1 (.inr ⟨b,x,hx,hm,hr,rfl⟩)) h2
  . unfold World.cell? at h2 ⊢;dsimp only at h2 ⊢;rw [hother c e];exact h2
 have hm:Mv J ρ (MX Mo ρ J) w (J.set b x') ρ (MX Mo ρ (J.set b x')) w':=⟨fun i hi=>w2t hxf hi,fun _ _=>rfl,hk,hgrow⟩;refine ⟨hm.ok,hm.rho,hk,hgrow,⟨fun c o hc=>by rw [hsize];exact h.bnd c o hc,?_,?_,?_,h.glob.keep hk⟩,by omega,hos,htape,hout,?_,?_⟩
 . intro i y hi
   rcases yu7 hi with ⟨rfl,rfl⟩ | ⟨hn,hi⟩
   . exact hok hm
   . exact (h.blk i y hi).mv hm (fun hyo hri=>hother _ (fun e=>hn (h.inj i b y x hi hx hyo ho hri hr e)))
 . intro i j y z hi hj hy hz
   have key:∀(k:Nat) (u:SB),(J.set b x')[k]? = some u->u.own=true->∃ u':SB,J[k]? = some u'/\u'.own=true:=fun k u hk hu=>by
    rcases yu7 hk with ⟨rfl,rfl⟩ | ⟨_,hk⟩
    . exact ⟨x,hx,ho⟩
    . exact ⟨u,hk,hu⟩
   obtain ⟨y',h1,h2⟩:=key i y hi hy;obtain ⟨z',h3,h4⟩:=key j z hj hz;exact h.inj i j y' z' h1 h3 h2 h4
 . intro i y hi hy
   rcases yu7 hi with ⟨rfl,rfl⟩ | ⟨_,hi⟩
   . exact h.sep i x hx ho
   . exact h.sep i y hi hy
 . intro k _ hk;exact hother k (fun e=>hk ⟨b,x,hx,ho,hr,e.symm⟩)
 . rintro k ⟨i,y,hi,hy,hr',e⟩
   rcases yu7 hi with ⟨rfl,rfl⟩ | ⟨_,hi⟩
   . exact .inr ⟨i,x,hx,ho,hr',e⟩
   . exact .inr ⟨i,y,hi,hy,hr',e⟩
theorem Went.less (h:HInv Γ Mo ρ J w) {b:Nat} {x x':SB} (hx:J[b]? = some x) (hxf:x'≠.fresh) (ho:x'.own=true->x.own=true) (hmut:∀ o,x'.mut o->x.mut o)
 (hok:Mv J ρ (MX Mo ρ J) w (J.set b x') ρ (MX Mo ρ (J.set b x')) w->SBR (J.set b x') ρ (MX Mo ρ (J.set b x')) w (ρ b) x'):Went Γ Mo ρ J w ρ (J.set b x') w:=by
 have hM:∀ c o,MX Mo ρ (J.set b x') c o->MX Mo ρ J c o:=by
  rintro c o (hm | ⟨i,y,hi,hy,hr,e⟩)
  . exact .inl hm
  . rcases yu7 hi with ⟨rfl,rfl⟩ | ⟨_,hi⟩
    . exact .inr ⟨i,x,hx,hmut o hy,hr,e⟩
    . exact .inr ⟨i,y,hi,hy,hr,e⟩
 have hk:wf2 (MX Mo ρ J) (MX Mo ρ (J.set b x')) w w:=fun c o u h1 h2=>⟨fun hm=>h1 (hM c o hm),h2⟩
 have hm:Mv J ρ (MX Mo ρ J) w (J.set b x') ρ (MX Mo ρ (J.set b x')) w:=⟨fun i hi=>w2t hxf hi,fun _ _=>rfl,hk,Grow.refl w⟩
 have key:∀(k:Nat) (u:SB),(J.set b x')[k]? = some u->u.own=true->∃ u':SB,J[k]? = some u'/\u'.own=true:=fun k u hk hu=>by
  rcases yu7 hk with ⟨rfl,rfl⟩ | ⟨_,hk⟩
  . exact ⟨x,hx,ho hu⟩
  . exact ⟨u,hk,hu⟩
 refine ⟨hm.ok,hm.rho,hk,hm.grow,⟨h.bnd,?_,?_,?_,h.glob.keep hk⟩,Nat.le_refl _,rfl,rfl,rfl,fun _ _ _=>rfl,?_⟩
 . intro i y hi
   rcases yu7 hi with ⟨rfl,rfl⟩ | ⟨_,hi⟩
   . exact hok hm
   . exact (h.blk i y hi).mv hm (fun _ _=>rfl)
 . intro i j y z hi hj hy hz;obtain ⟨y',h1,h2⟩:=key i y hi hy;obtain ⟨z',h3,h4⟩:=key j z hj hz;exact h.inj i j y' z' h1 h3 h2 h4
 . intro i y hi hy;obtain ⟨y',h1,h2⟩:=key i y hi hy;exact h.sep i y' h1 h2
 . rintro k ⟨i,y,hi,hy,hr',e⟩;obtain ⟨y',h1,h2⟩:=key i y hi hy;exact .inr ⟨i,y',h1,h2,hr',e⟩
theorem Went.move (h:HInv Γ Mo ρ J w) {b nb:Nat} {x:SB} (hx:J[b]? = some x) (ho:x.own=true) (hf:J[nb]? = some .fresh):Went Γ Mo ρ J w (upd ρ nb (ρ b)) ((J.set b .dead).set nb x) w:=by
 have hxf:x≠.fresh:=fun e=>by rw [e] at ho;cases ho
 have hbn:b≠nb:=fun e=>by rw [e,hf] at hx;cases hx;exact hxf rfl
 have hlb:b<J.length:=(List.getElem?_eq_some_iff.1 hx).1;have hln:nb<J.length:=(List.getElem?_eq_some_iff.1 hf).1
 have key:∀(i:Nat) (y:SB),((J.set b .dead).set nb x)[i]? = some y->(i=nb/\y=x)\/(i≠nb/\i=b/\y=.dead)\/(i≠nb/\i≠b/\J[i]? = some y):=fun i y hi=>by
  rcases yu7 hi with h1 | ⟨hn,hi⟩
  . exact .inl h1
  . rcases yu7 hi with ⟨h2,h3⟩ | ⟨hn',hi⟩
    . exact .inr (.inl ⟨hn,h2,h3⟩)
    . exact .inr (.inr ⟨hn,hn',hi⟩)
 have hold:∀(i:Nat) (y:SB),((J.set b .dead).set nb x)[i]? = some y->y.own=true->∃ j,J[j]? = some y/\upd ρ nb (ρ b) i=ρ j/\(i=nb->j=b)/\(i≠nb->j=i):=fun i y hi hy=>by
  rcases key i y hi with ⟨rfl,rfl⟩ | ⟨hn,rfl,rfl⟩ | ⟨hn,hn',hi⟩
  . exact ⟨b,hx,yr4,fun _=>rfl,fun e=>absurd rfl e⟩
  . cases hy
  . exact ⟨i,hi,zwj hn,fun e=>absurd e hn,fun _=>rfl⟩
 have hM:∀ c o,MX Mo (upd ρ nb (ρ b)) ((J.set b .dead).set nb x) c o->MX Mo ρ J c o:=by
  rintro c o (hm | ⟨i,y,hi,hy,hr,e⟩)
  . exact .inl hm
  . obtain ⟨j,h1,h2,_⟩:=hold i y hi (SB.zgj hy);rw [h2] at hr e;exact .inr ⟨j,y,h1,hy,hr,e⟩
 have hk:wf2 (MX Mo ρ J) (MX Mo (upd ρ nb (ρ b)) ((J.set b .dead).set nb x)) w w:=fun c o u h1 h2=>⟨fun hm=>h1 (hM c o hm),h2⟩
 have hok:∀ i,okB J i->okB ((J.set b .dead).set nb x) i:=fun i hi=>w2t hxf (w2t (by simp) hi)
 have hm:Mv J ρ (MX Mo ρ J) w ((J.set b .dead).set nb x) (upd ρ nb (ρ b)) (MX Mo (upd ρ nb (ρ b)) ((J.set b .dead).set nb x)) w:=
  ⟨hok,fun i hi=>zwj (fun e=>x9f hf (e▸hi)),hk,Grow.refl w⟩
 refine ⟨hm.ok,hm.rho,hk,hm.grow,⟨h.bnd,?_,?_,?_,h.glob.keep hk⟩,Nat.le_refl _,rfl,rfl,rfl,fun _ _ _=>rfl,?_⟩
 . intro i y hi
   rcases key i y hi with ⟨rfl,rfl⟩ | ⟨hn,rfl,rfl⟩ | ⟨hn,hn',hi⟩
   . rw [yr4];exact (h.blk b y hx).mv hm (fun _ _=>rfl)
   . trivial
   . rw [zwj hn];exact (h.blk i y hi).mv hm (fun _ _=>rfl)
 . intro i j y z hi hj hy hz hri hrj e;obtain ⟨i',h1,h2,h3,h4⟩:=hold i y hi hy;obtain ⟨j',h5,h6,h7,h8⟩:=hold j z hj hz;rw [h2] at hri e;rw [h6] at hrj e;have e':=h.inj i' j' y z h1 h5 hy hz hri hrj e;by_cases hin:i=nb
   . by_cases hjn:j=nb
     . rw [hin,hjn]
     . exfalso;rw [h3 hin,h8 hjn] at e'
       rcases key j z hj with ⟨e1,_⟩ | ⟨_,_,rfl⟩ | ⟨_,e1,_⟩
       . exact hjn e1
       . cases hz
       . exact e1 e'.symm
   . by_cases hjn:j=nb
     . exfalso;rw [h7 hjn,h4 hin] at e'
       rcases key i y hi with ⟨e1,_⟩ | ⟨_,_,rfl⟩ | ⟨_,e1,_⟩
       . exact hin e1
       . cases hy
       . exact e1 e'
     . rw [h4 hin,h8 hjn] at e';exact e'
 . intro i y hi hy hr;obtain ⟨j,h1,h2,_⟩:=hold i y hi hy;rw [h2] at hr ⊢;exact h.sep j y h1 hy hr
 . rintro k ⟨i,y,hi,hy,hr,e⟩;obtain ⟨j,h1,h2,_⟩:=hold i y hi hy;rw [h2] at hr e;exact .inr ⟨j,y,h1,hy,hr,e⟩
theorem Went.kill (h:HInv Γ Mo ρ J w) {b:Nat} {x:SB} (hx:J[b]? = some x):Went Γ Mo ρ J w ρ (J.set b .dead) w:=
 Went.less h hx (by simp) (by intro h;cases h) (by intro o h;exact h.elim) (fun _=>trivial)
end
structure HEnv where
 w0:World
 Mo:Nat->Nat->Prop
 ρ0:Nat->Value
 η0:List SB
def gtS (I:List SV) (i:Nat):SV:=(I[i]?).getD .any
def gB (J:List SB) (b:Nat):SB:=(J[b]?).getD .dead
structure RI (Γ:List (Nat×List Cell)) (E:HEnv) (ρ:Nat->Value) (I:List SV) (J:List SB) (a:Act) (w:World):Prop where
 hd:a.defers=[]
 hs:a.tmps.size=I.length
 slot:∀(i:Nat) (x:SV),I[i]? = some x->SVR J ρ (MX E.Mo ρ J) w (a.tmps.getD i Go.undef) x
 went:Went Γ E.Mo E.ρ0 E.η0 E.w0 ρ J w
section
variable {Γ:List (Nat×List Cell)} {E:HEnv} {ρ ρ':Nat->Value} {I:List SV} {J J':List SB} {a:Act} {w w':World}
theorem RI.inv (h:RI Γ E ρ I J a w):HInv Γ E.Mo ρ J w:=h.went.inv
theorem RI.go (h:RI Γ E ρ I J a w) (k:Went Γ E.Mo ρ J w ρ' J' w'):RI Γ E ρ' I J' a w':=
 ⟨h.hd,h.hs,fun i x hi=>(h.slot i x hi).mv k.mv,h.went.trans k⟩
theorem RI.put (h:RI Γ E ρ I J a w) {d:Nat} {x:SV} {v:Value} (hx:SVR J ρ (MX E.Mo ρ J) w v x):RI Γ E ρ (I.set d x) J (a.put (some d) v) w:=by
 refine ⟨h.hd,by simpa [Act.put] using h.hs,fun i y hi=>?_,h.went⟩;show SVR J ρ (MX E.Mo ρ J) w ((a.tmps.setIfInBounds d v).getD i Go.undef) y
 have hlen:i<I.length:=by simpa using (List.getElem?_eq_some_iff.1 hi).1
 rcases yu7 hi with ⟨rfl,rfl⟩ | ⟨hn,hi⟩
 . have:i<a.tmps.size:=by rw [h.hs];exact hlen
   rw [show (a.tmps.setIfInBounds i v).getD i Go.undef=v by simp [this]];exact hx
 . rw [Slot.getD_set_ne (Ne.symm hn)];exact h.slot i y hi
theorem RI.gt (h:RI Γ E ρ I J a w) (t:Nat):SVR J ρ (MX E.Mo ρ J) w (a.tmps.getD t Go.undef) (gtS I t):=by
 unfold gtS
 cases ht:I[t]? with
 | none=>exact trivial
 | some x=>exact h.slot t x ht
def xa8 (v:Value):SV:=match z1h v with
 | .one c=>.one (.dat c)
 | .agg cs=>.agg (cs.map .dat)
 | _=>.any
def w8c:List (Nat×List Cell)->Nat->SV
 | [],_=>.any
 | (g,cs)::r,i=>if g=i then .elt cs else w8c r i
def opdS (Γ:List (Nat×List Cell)) (I:List SV):Operand->SV
 | .tmp t=>gtS I t
 | .const v=>xa8 v
 | .func f=>.one (.dat (.raw (.func (.func f) #[] #[])))
 | .global g=>w8c Γ g
theorem wsj:∀(Γ:List (Nat×List Cell)) (i:Nat),w8c Γ i=.any\/∃ cs,w8c Γ i=.elt cs/\(i,cs)∈Γ
 | [],_=>.inl rfl
 | (g,cs)::r,i=>by
  unfold w8c
  split
  . rename_i e;subst e;exact .inr ⟨cs,rfl,by simp⟩
  . rcases wsj r i with h | ⟨cs',h,hm⟩
    . exact .inl h
    . exact .inr ⟨cs',h,by simp [hm]⟩
theorem xdf {M:Nat->Nat->Prop} (v:Value):SVR J ρ M w v (xa8 v):=by
 have h:=ywq (M:=M) (w:=w) (τ:=fun _=>⟨Go.undef,0⟩) v;unfold xa8
 cases hc:z1h v with
 | one c=>
  rw [hc] at h;have hb:RdC M w v c.bare:=RdT.bare h
  have hnt:c.bare=c:=by
   unfold z1h at hc;split at hc
   . split at hc<;>cases hc
   . cases hc
   . cases hc;rfl
  rw [hnt] at hb;exact hb
 | agg cs =>
  rw [hc] at h;obtain ⟨vs,e,hr⟩:=h;refine ⟨vs,e,?_⟩
  have hraw:∃ us:List Value,cs=us.map .raw:=by
   unfold z1h at hc;split at hc
   . split at hc
     . cases hc;exact ⟨_,rfl⟩
     . cases hc
   . cases hc
   . cases hc
  obtain ⟨us,rfl⟩:=hraw
  have:∀(vs us:List Value),RdL M w (fun _=>⟨Go.undef,0⟩) vs (us.map .raw)->HRL J ρ M w vs ((us.map Cell.raw).map .dat):=by
   intro vs
   induction vs with
   | nil=>intro us h;cases us with
    | nil=>trivial
    | cons _ _=>exact h.elim
   | cons v vs ih=>intro us h;cases us with
    | nil=>exact h.elim
    | cons u us=>exact ⟨h.1,ih us h.2⟩
  exact this vs us hr
 | _=>exact trivial
theorem RI.opd (h:RI Γ E ρ I J a w) (x:Operand):SVR J ρ (MX E.Mo ρ J) w (a.eval x) (opdS Γ I x):=by
 cases x with
 | tmp t=>exact h.gt t
 | const v=>exact xdf v
 | func f=>exact RdC.raw rfl
 | global g=>
  show SVR J ρ (MX E.Mo ρ J) w (a.eval (.global g)) (w8c Γ g)
  rcases wsj Γ g with e | ⟨cs,e,hm⟩
  . rw [e];exact trivial
  . rw [e];obtain ⟨vs,h1,h2⟩:=h.inv.glob g cs hm;exact ⟨g,0,vs,rfl,fun j u hj=>by rw [Nat.zero_add];exact h1 j u hj,h2⟩
end
def appL {α:Type}:List (Nat×α)->List α->List α
 | [],l=>l
 | (i,x)::r,l=>appL r (l.set i x)
def agS (rd:List Nat) (I I':List SV):Prop:=I'.length=I.length/\∀ r∈rd,gtS I' r=gtS I r
def agB (rh:List Nat) (J J':List SB):Prop:=J'.length=J.length/\∀ r∈rh,J'[r]? = J[r]?
def vbd (Γ:List (Nat×List Cell)) (P:Program) (o:Oper) (I:List SV) (J:List SB) (rd rh:List Nat) (eff:List (Nat×SV)) (heff:List (Nat×SB)):Prop:=
 ∀(E:HEnv) (ρ:Nat->Value) (I':List SV) (J':List SB) (a:Act) (w:World),agS rd I I'->agB rh J J'->RI Γ E ρ I' J' a w->∀(K:Act->World->Prop) (Q:Exit->Act->World->Prop),
  (∀ a' w' ρ',RI Γ E ρ' (appL eff I') (appL heff J') a' w'->K a' w')->o.wp P a w K Q
theorem agS.opd {Γ:List (Nat×List Cell)} {rd:List Nat} {I I':List SV} (h:agS rd I I') {x:Operand} (hx:∀ t∈orr x,t∈rd):opdS Γ I' x=opdS Γ I x:=by
 cases x with
 | tmp t=>exact h.2 t (hx t (by simp [orr]))
 | _=>rfl
theorem agB.gB {rh:List Nat} {J J':List SB} (h:agB rh J J') {b:Nat} (hb:b∈rh):gB J' b=gB J b:=by
 unfold Hp.gB;rw [h.2 b hb]
def datH:HC->Option Cell
 | .dat c=>some c
 | _=>none
def datL:List HC->Option (List Cell)
 | []=>some []
 | .dat c::r=>(datL r).map (c::·)
 | _::_=>none
def vwO:HC->AV
 | .dat c=>.one c
 | _=>.any
def vwG:Option (List Cell)->AV
 | some cs=>.agg cs
 | none=>.any
def vw:SV->AV
 | .one h=>vwO h
 | .agg hs=>vwG (datL hs)
 | .elt cs=>.elt cs
 | .undef=>.undef
 | _=>.any
theorem z2e {I:List SV} (i:Nat):gt (I.map vw) i=vw (gtS I i):=by
 unfold gt gtS;rw [List.getElem?_map]
 cases I[i]?<;>rfl
theorem ykv (x:SV):(vw x).xeo=false:=by
 unfold vw
 cases x with
 | one h=>cases h<;>rfl
 | agg hs=>simp only;cases datL hs<;>rfl
 | _=>rfl
theorem vpw (x:SV):(vw x).rf=none:=by
 unfold vw
 cases x with
 | one h=>cases h<;>rfl
 | agg hs=>simp only;cases datL hs<;>rfl
 | _=>rfl
section
variable {Γ:List (Nat×List Cell)} {E:HEnv} {ρ ρ':Nat->Value} {I:List SV} {J J':List SB} {a:Act} {w w':World} {M:Nat->Nat->Prop}
theorem HRL.dat:∀{vs:List Value} {hs:List HC} {cs:List Cell},HRL J ρ M w vs hs->datL hs=some cs->RdD M w vs cs
 | [],[],cs,_,hd=>by simp [datL] at hd;subst hd;trivial
 | v::vs,h::hs,cs,hr,hd=>by
  cases h with
  | dat c=>
   simp only [datL,Option.map_eq_some_iff] at hd;obtain ⟨l,hl,rfl⟩:=hd;exact ⟨hr.1,HRL.dat hr.2 hl⟩
  | _=>simp [datL] at hd
theorem RdD.rdl {τ:Nat->TV}:∀{vs:List Value} {cs:List Cell},RdD M w vs cs->RdL M w τ vs cs
 | [],[],_=>trivial
 | _::_,_::_,h=>⟨RdT.of h.1,RdD.rdl h.2⟩
theorem w2a {τ:Nat->TV} {tm:Array Value} {v:Value} {x:SV} (h:SVR J ρ M w v x):xb1 M w τ tm v (vw x)/\∀ d,¬(vw x).v7d d:=by
 cases x with
 | one c=>
  cases c with
  | dat c=>exact ⟨RdT.of h,fun d hd=>(RdC.wi1 h d) hd⟩
  | _=>exact ⟨trivial,fun d hd=>hd⟩
 | agg hs=>
  obtain ⟨vs,rfl,hr⟩:=h;show xb1 M w τ tm _ (vwG (datL hs))/\∀ d,¬(vwG (datL hs)).v7d d
  cases hd:datL hs with
  | none=>exact ⟨trivial,fun d hd=>hd⟩
  | some cs=>
   have hrd:=HRL.dat hr hd;exact ⟨⟨vs,rfl,RdD.rdl hrd⟩,fun d hd=>hrd.wi1 hd⟩
 | elt cs=>exact ⟨h,fun d hd=>hd⟩
 | undef=>exact ⟨h,fun d hd=>hd⟩
 | any=>exact ⟨trivial,fun d hd=>hd⟩
 | tup l=>exact ⟨trivial,fun d hd=>hd⟩
def yna (h:RI Γ E ρ I J a w):Env:=⟨w,MX E.Mo ρ J,fun _=>False,#[],fun _ _ hm=>x02 h.inv hm⟩
theorem RI.old (h:RI Γ E ρ I J a w):RelI (yna h) (fun _=>⟨Go.undef,0⟩) (MX E.Mo ρ J) (I.map vw) a w:=by
 have hget:∀(i:Nat) (av:AV),(I.map vw)[i]? = some av->∃ x,I[i]? = some x/\av=vw x:=fun i av hi=>by
  rw [List.getElem?_map] at hi;obtain ⟨x,hx,rfl⟩:=Option.map_eq_some_iff.1 hi;exact ⟨x,hx,rfl⟩
 have hlive:∀ d,¬live (I.map vw) d:=fun d ⟨i,av,hi,ht⟩=>by
  obtain ⟨x,hx,rfl⟩:=hget i av hi;exact (w2a (τ:=fun _=>⟨Go.undef,0⟩) (tm:=a.tmps) (h.slot i x hx)).2 d ht
 refine ⟨h.hd,by simpa using h.hs,?_,fun _ _ hm=>hm,fun _ _ hm=>x02 h.inv hm,?_,?_,?_,fun d hd=>absurd hd (hlive d),fun d _ _ hd=>absurd hd (hlive d),fun d _ _ hd=>absurd hd (hlive d),Nat.le_refl _,rfl,rfl,rfl,fun _ _ _=>rfl⟩
 . intro i av hi;obtain ⟨x,hx,rfl⟩:=hget i av hi;exact (w2a (h.slot i x hx)).1
 . intro i av hi hh;obtain ⟨x,hx,rfl⟩:=hget i av hi;rw [ykv] at hh;cases hh
 . intro i j x y hi hj hx;obtain ⟨x',_,rfl⟩:=hget i x hi;rw [ykv] at hx;cases hx
 . intro i av s b hi hr;obtain ⟨x,hx,rfl⟩:=hget i av hi;rw [vpw] at hr;cases hr
end
def valB:Builtin->Bool
 | .len | .cap | .append | .max | .min | .copy | .unsafeSliceData | .unsafeString=>true
 | _=>false
def v1x:Op->Bool
 | .move _ | .assign _ | .pick _ _ _ | .alloc _ | .box _ _ | .build _ _ | .buildSlice _ _ _ | .load _ _ | .binOp _ _ _ _ _ | .unOp _ _ _ | .convert _ _ _ | .makeSlice _ _ _ | .slice _ _ _ _ _ | .fieldAddr _ _ _ | .field _ _ _ | .indexAddr _ _ _
 | .index _ _ _ | .extract _ _=>true
 | .call { callee:=.builtin b,.. }=>valB b
 | _=>false
theorem zke {P:Program} {α:Type} {f:α->Value} {s:Sem α} {w w':World} {n:Next} (h:(s.bind (fun v=>.pure (.value (f v))):Sem Next).run P w=.ok n w'):∃ v,n=.value v:=by
 induction s generalizing w with
 | pure a=>simp only [Sem.bind,Sem.run,Result.ok.injEq] at h;exact ⟨f a,h.1.symm⟩
 | load m ad k ih=>
  simp only [Sem.bind,Sem.run] at h;split at h
  . exact ih _ h
  . split at h
    . exact ih _ h
    . cases h
 | store m ad v k ih=>
  cases v<;>simp only [Sem.bind,Sem.run] at h<;>first | (cases h;done) | skip
  all_goals
   split at h
   . split at h
     . cases h
     . exact ih h
   . split at h
     . exact ih h
     . cases h
 | new ob k ih=>exact ih _ h
 | shape r k ih=>exact ih _ h
 | freeze ad n k ih=>exact ih h
 | frozen ad k ih=>exact ih _ h
 | getObj r k ih=>
  simp only [Sem.bind,Sem.run] at h;split at h
  . cases h
  . exact ih _ h
  . cases h
 | setObj r ob k ih=>
  simp only [Sem.bind,Sem.run] at h;split at h
  . cases h
  . exact ih h
  . cases h
 | choose q k ih=>
  simp only [Sem.bind,Sem.run] at h;split at h
  . exact ih _ h
  . exact ih _ h
 | sys c k ih=>exact ih _ h
 | program k ih=>exact ih _ h
 | mark m k ih=>exact ih h
 | halt hh=>cases h
theorem yr5 {P:Program} {s:Sem Value} {w w':World} {n:Next} (h:(do pure (.value (<-s)):Sem Next).run P w=.ok n w'):∃ v,n=.value v:=
 zke (f:=id) h
theorem xm8 {P:Program} {o:Oper} (hv:v1x o.op=true) {ρ:Operand->Value} {w w':World} {n:Next} (h:(execOp ρ o).run P w=.ok n w'):∃ v,n=.value v:=by
 unfold execOp at h;unfold v1x at hv
 split at hv<;>first | (cases hv;done) | skip
 all_goals (rename_i heq;rw [heq] at h)
 case h_19 b xs ts=>
  have h:(builtin b ts o.type _ (xs.map ρ)).run P w=.ok n w':=h;unfold valB at hv
  split at hv<;>first | (cases hv;done) | skip
  all_goals exact yr5 h
 all_goals first
  | exact yr5 h
  | exact zke (f:=fun b=>if b=true then ρ _ else ρ _) h
  | (simp only [Sem.run_pure,Result.ok.injEq] at h;exact ⟨_,h.1.symm⟩)
end Go.Hp
namespace Go.Hp
open Go Go.RowKit Go.Slot
variable {P:Program} {Γ:List (Nat×List Cell)}
theorem vbd.val {o:Oper} {I:List SV} {J:List SB} {rd rh:List Nat} {d:Nat} {x:SV} {heff:List (Nat×SB)} (hdst:o.dst=some d)
 (hrun:∀(E:HEnv) (ρ:Nat->Value) (I':List SV) (J':List SB) (a:Act) (w:World),agS rd I I'->agB rh J J'->RI Γ E ρ I' J' a w->
   ∃ v w' ρ',(execOp a.eval o).run P w=.ok (.value v) w'/\Went Γ E.Mo ρ J' w ρ' (appL heff J') w'/\SVR (appL heff J') ρ' (MX E.Mo ρ' (appL heff J')) w' v x):vbd Γ P o I J rd rh [(d,x)] heff:=by
 intro E ρ I' J' a w hag hah hI K Q hK;obtain ⟨v,w',ρ',hr,hw,hx⟩:=hrun E ρ I' J' a w hag hah hI;unfold Oper.wp;rw [hr];show K (a.put o.dst v) w';rw [hdst];exact hK _ _ ρ' ((hI.go hw).put hx)
theorem vbd.pure {o:Oper} {I:List SV} {J:List SB} {rd rh:List Nat} {d:Nat} {x:SV} (hdst:o.dst=some d)
 (hrun:∀(E:HEnv) (ρ:Nat->Value) (I':List SV) (J':List SB) (a:Act) (w:World),agS rd I I'->agB rh J J'->RI Γ E ρ I' J' a w->
   ∃ v,(execOp a.eval o).run P w=.ok (.value v) w/\SVR J' ρ (MX E.Mo ρ J') w v x):vbd Γ P o I J rd rh [(d,x)] []:=
 vbd.val hdst (fun E ρ I' J' a w hag hah hI=>by
  obtain ⟨v,h1,h2⟩:=hrun E ρ I' J' a w hag hah hI
  exact ⟨v,w,ρ,h1,Went.refl hI.inv,h2⟩)
theorem vbd.skip {o:Oper} {I:List SV} {J:List SB} {rd rh:List Nat} {heff:List (Nat×SB)} (hdst:o.dst=none)
 (hrun:∀(E:HEnv) (ρ:Nat->Value) (I':List SV) (J':List SB) (a:Act) (w:World),agS rd I I'->agB rh J J'->RI Γ E ρ I' J' a w->
   ∃ w' ρ',(execOp a.eval o).run P w=.ok .skip w'/\Went Γ E.Mo ρ J' w ρ' (appL heff J') w'):vbd Γ P o I J rd rh [] heff:=by
 intro E ρ I' J' a w hag hah hI K Q hK;obtain ⟨w',ρ',hr,hw⟩:=hrun E ρ I' J' a w hag hah hI;unfold Oper.wp;rw [hr];show K (a.put o.dst Go.undef) w';rw [hdst];exact hK _ _ ρ' (hI.go hw)
theorem agS.view {rd:List Nat} {I I':List SV} (h:agS rd I I'):x2j rd (I.map vw) (I'.map vw):=
 ⟨by simp [h.1],fun r hr=>by rw [z2e,z2e,h.2 r hr]⟩
theorem RI.take {E:HEnv} {ρ:Nat->Value} {I:List SV} {σv:List AV} {J:List SB} {a:Act} {w:World} (h:RI Γ E ρ I J a w) {o:Oper} {d:Nat} {av:AV} {rd:List Nat} (hvo:v1x o.op=true) (hdst:o.dst=some d) (hlt:d<I.length)
 (hst:vni P o σv rd [] [(d,av)]) (hag:x2j rd σv (I.map vw)) :
 ∃ v w' M' τ tm,(execOp a.eval o).run P w=.ok (.value v) w'/\Below w.heap.size w w'/\(∀ b o,MX E.Mo ρ J b o->M' b o)/\xb1 M' w' τ tm v av/\(av.xeo=true->av.fresh=true->w.heap.size<=blk v/\∀ o,M' (blk v) o):=by
 have hA:=hst (yna h) (I.map vw) a w hag (by intro t ht;cases ht) ⟨_,_,h.old⟩ (fun a' w'=>Rel (yna h) ((I.map vw).set d av) a' w') (fun _ _ _=>False) (fun a' w' hR=>hR);unfold Oper.wp at hA
 cases hr:(execOp a.eval o).run P w with
 | halt hh w'=>
  rw [hr] at hA
  cases hh<;>exact hA.elim
 | ok n w'=>
  obtain ⟨v,rfl⟩:=xm8 hvo hr;rw [hr] at hA;rw [Oper.upon_value,hdst] at hA;obtain ⟨τ,M',hI⟩:=hA
  have hd:((I.map vw).set d av)[d]? = some av:=by simp [hlt]
  have hs:=hI.slot d av hd
  have hlt':d<a.tmps.size:=by rw [h.hs];exact hlt
  have hself:(a.put (some d) v).tmps.getD d Go.undef=v:=by simp [Act.put,hlt']
  rw [hself] at hs;refine ⟨v,w',M',τ,_,rfl,⟨hI.os,hI.tape,hI.output,hI.size,fun k hk=>hI.frame k hk (fun hx=>hx)⟩,hI.m0,hs,fun hh hf=>?_⟩;have h1:=(hI.hold d av hd hh).2.2.1 hf;have h2:=(hI.hold d av hd hh).1;rw [hself] at h1 h2;exact ⟨h1,h2⟩
def av2 (nb:Nat):AV->Option (SV×Option SB)
 | .one c=>some (.one (.dat c.bare),none)
 | .agg cs=>some (.agg ((vc2 cs).map .dat),none)
 | .elt cs=>some (.elt cs,none)
 | .any=>some (.any,none)
 | .arr [] c none=>some (.one (.sl nb c.esz 0 c.cnt),some (.arr c 0 none))
 | _=>none
theorem RdL.hrl {J:List SB} {ρ:Nat->Value} {M M':Nat->Nat->Prop} {w:World} {τ:Nat->TV} (hM:∀ b o,M b o->M' b o):∀{vs:List Value} {cs:List Cell},RdL M' w τ vs cs->HRL J ρ M w vs ((vc2 cs).map .dat)
 | [],[],_=>trivial
 | _::_,_::_,h=>⟨(RdT.bare h.1).keep (wf2.shrink w hM),RdL.hrl hM h.2⟩
def oB (nb:Nat):Option SB->List (Nat×SB)
 | none=>[]
 | some x=>[(nb,x)]
def oN (nb:Nat):Option SB->List Nat
 | none=>[]
 | some _=>[nb]
def y4f (J:List SB) (nb:Nat):Bool:=match J[nb]? with
 | some .fresh=>true
 | _=>false
theorem xhv {J:List SB} {nb:Nat} (h:y4f J nb=true):J[nb]? = some .fresh:=by
 unfold y4f at h;split at h
 . assumption
 . cases h
theorem agB.room {rh:List Nat} {J J':List SB} (h:agB rh J J') {nb:Nat} (hb:nb∈rh) (hr:y4f J nb=true):J'[nb]? = some .fresh:=by
 rw [h.2 nb hb];exact xhv hr
def wla (J:List SB) (nb:Nat):Option SB->Bool
 | none=>true
 | some _=>y4f J nb
theorem w1x {o:Oper} {I:List SV} {J:List SB} {nb d:Nat} {rd:List Nat} {av:AV} {x:SV} {ob:Option SB} (hvo:v1x o.op=true) (hdst:o.dst=some d) (hst:vni P o (I.map vw) rd [] [(d,av)])
 (hd:d<I.length) (h2:av2 nb av=some (x,ob)) (hroom:wla J nb ob=true):vbd Γ P o I J rd (oN nb ob) [(d,x)] (oB nb ob):=by
 refine vbd.val hdst (fun E ρ I' J' a w hag hah hI=>?_);obtain ⟨v,w',M',τ,tm,hrun,hb,hM,hs,hf⟩:=hI.take hvo hdst (by rw [hag.1];exact hd) hst hag.view
 have plain:ob=none->SVR J' ρ (MX E.Mo ρ J') w' v x->∃ v w' ρ',(execOp a.eval o).run P w=.ok (.value v) w'/\Went Γ E.Mo ρ J' w ρ' (appL (oB nb ob) J') w'/\SVR (appL (oB nb ob) J') ρ' (MX E.Mo ρ' (appL (oB nb ob) J')) w' v x:=fun e hx=>by
  subst e;exact ⟨v,w',ρ,hrun,Went.below hI.inv hb,hx⟩
 unfold av2 at h2;split at h2
 . rename_i c
   cases h2;exact plain rfl ((RdT.bare hs).keep (wf2.shrink w' hM))
 . rename_i cs
   cases h2;obtain ⟨vs,e,hr⟩:=hs;exact plain rfl ⟨vs,e,RdL.hrl hM hr⟩
 . rename_i cs
   cases h2;obtain ⟨b,off,vs,e,hc,hr⟩:=hs;exact plain rfl ⟨b,off,vs,e,fun j u hj=>⟨fun hm=>(hc j u hj).1 (hM _ _ hm),(hc j u hj).2⟩,hr.keep (wf2.shrink w' hM)⟩
 . cases h2;exact plain rfl trivial
 . rename_i c
   cases h2;obtain ⟨b,T,vs,q,cap,rfl,hbk,hr,_,hu,hcap,hsz⟩:=hs;have hfr:=hah.room (show nb∈oN nb (some (SB.arr c 0 none)) by simp [oN]) hroom;have hge:w.heap.size<=b:=(hf rfl rfl).1;have hlt:nb<J'.length:=(List.getElem?_eq_some_iff.1 hfr).1;have hok:okB (J'.set nb (.arr c 0 none)) nb:=⟨_,by simp [hlt];rfl,by simp⟩;refine ⟨_,w',upd ρ nb (.pointer (some ⟨b,0,none⟩)),hrun,Went.new hI.inv hb hfr (by simp) (fun _ _=>hge) (fun _=>⟨⟨hu,Nat.zero_le _⟩,.inr ⟨b,vs,q,T,rfl,by simpa using hbk,hr.keep (wf2.shrink w' ?_),by simp⟩⟩),?_⟩
   . intro b' o' hm
     rcases hm with hm | ⟨i,y,hi,hy,hre,e⟩
     . exact hM _ _ (.inl hm)
     . rcases yu7 hi with ⟨rfl,rfl⟩ | ⟨hn,hi⟩
       . rw [yr4] at e;subst e;exact (hf rfl rfl).2 o'
       . rw [zwj hn] at hre e;exact hM _ _ (.inr ⟨i,y,hi,hy,hre,e⟩)
   . refine ⟨hok,_,cap,rfl,hcap,fun _=>⟨by rw [yr4];simp [real],by rw [yr4];simp [bk,blk],_,T,_,by rw [yr4];exact hbk,?_⟩⟩;simpa using hsz
 . cases h2
end Go.Hp
