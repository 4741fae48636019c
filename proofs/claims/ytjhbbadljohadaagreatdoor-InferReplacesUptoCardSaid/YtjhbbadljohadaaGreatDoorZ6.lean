/- The proof, part Z6: Ha, Hb, Hc, Hd, He. -/
import Derived.Test.YtjhbbadljohadaaGreatDoorZ5
namespace Go.Hp
open Go Go.RowKit Go.Slot
inductive HC where
 | any
 | dat (c:Cell)
 | ptr (b off:Nat)
 | pel (b es i f:Nat)
 | sl (b es lo n:Nat)
 | mp (b:Nat)
 | fnr (b:Nat)
inductive SV where
 | any
 | undef
 | one (h:HC)
 | agg (hs:List HC)
 | tup (l:List SV)
 | elt (cs:List Cell)
inductive SB where
 | fresh
 | dead
 | box (hs:List HC) (T:Option TypeId)
 | arr (c:Cell) (k:Nat) (T:Option TypeId)
 | map (es:List (Value×SV))
 | clo (f:FuncId) (caps:List SV)
def SB.own:SB→Bool
 | .box _ _ | .arr _ _ _ | .map _=>true
 | _=>false
def SB.mut (o:Nat):SB→Prop
 | .box _ _=>True
 | .arr _ k _=>k≤o
 | _=>False
theorem SB.mut_own {x:SB} {o:Nat} (h:x.mut o):x.own=true:=by cases x<;>first | rfl | exact h.elim
def bk:Value→Nat
 | .map (some b)=>b
 | v=>blk v
def okB (η:List SB) (b:Nat):Prop:=∃ x,η[b]? = some x∧x≠.fresh
def real (v:Value):Prop:=v≠.pointer none
def Xb (ρ:Nat→Value) (η:List SB) (k:Nat):Prop:=∃ i x,η[i]? = some x∧x.own=true∧real (ρ i)∧bk (ρ i)=k
def MX (Mo:Nat→Nat→Prop) (ρ:Nat→Value) (η:List SB) (b o:Nat):Prop:=Mo b o∨∃ i x,η[i]? = some x∧x.mut o∧real (ρ i)∧bk (ρ i)=b
def HRd (η:List SB) (ρ:Nat→Value) (M:Nat→Nat→Prop) (w:World) (v:Value):HC→Prop
 | .any=>v.oneCell'=true
 | .dat c=>RdC M w v c
 | .ptr b off=>okB η b∧v=.pointer (some ⟨bk (ρ b),off,none⟩)
 | .pel b es i f=>okB η b∧v=.pointer (some ⟨bk (ρ b),i*es+f,none⟩)
 | .sl b es lo n=>okB η b∧∃ ad cap,v=.slice ad n cap∧n≤cap∧(cap≠0→real (ρ b)∧ad=some ⟨bk (ρ b),lo*es,none⟩∧∃(arr:Array Value) (T:TypeId) (fz:Nat×Nat),w.heap[bk (ρ b)]? = some (Obj.cells arr T fz)∧(lo+cap)*es≤arr.size)
 | .mp b=>okB η b∧v=ρ b∧v.oneCell'=true
 | .fnr b=>okB η b∧v=ρ b∧v.oneCell'=true
def HRL (η:List SB) (ρ:Nat→Value) (M:Nat→Nat→Prop) (w:World):List Value→List HC→Prop
 | [],[]=>True
 | v::vs,h::hs=>HRd η ρ M w v h∧HRL η ρ M w vs hs
 | _,_=>False
def SVR0 (η:List SB) (ρ:Nat→Value) (M:Nat→Nat→Prop) (w:World) (v:Value):SV→Prop
 | .any=>True
 | .undef=>v=Go.undef
 | .one h=>HRd η ρ M w v h
 | .agg hs=>∃ vs:List Value,v=.agg vs.toArray∧HRL η ρ M w vs hs
 | .elt cs=>∃(b off:Nat) (vs:List Value),v=.pointer (some ⟨b,off,none⟩)∧(∀ j u,vs[j]? = some u→¬M b (off+j)∧w.cell? ⟨b,off+j,none⟩=some u)∧RdD M w vs cs
 | .tup _=>False
def SRL (η:List SB) (ρ:Nat→Value) (M:Nat→Nat→Prop) (w:World):List Value→List SV→Prop
 | [],[]=>True
 | v::vs,x::l=>SVR0 η ρ M w v x∧SRL η ρ M w vs l
 | _,_=>False
def SVR (η:List SB) (ρ:Nat→Value) (M:Nat→Nat→Prop) (w:World) (v:Value):SV→Prop
 | .tup l=>∃ vs:List Value,v=.tuple vs.toArray∧SRL η ρ M w vs l
 | x=>SVR0 η ρ M w v x
def EnR (η:List SB) (ρ:Nat→Value) (M:Nat→Nat→Prop) (w:World):List MapEntry→List (Value×SV)→Prop
 | [],[]=>True
 | e::es,p::l=>(e.key=p.1∧SVR0 η ρ M w e.val p.2)∧EnR η ρ M w es l
 | _,_=>False
def SBR (η:List SB) (ρ:Nat→Value) (M:Nat→Nat→Prop) (w:World) (v:Value):SB→Prop
 | .fresh | .dead=>True
 | .box hs t=>∃(b:Nat) (vs:List Value) (T:TypeId),v=.pointer (some ⟨b,0,none⟩)∧w.heap[b]? = some (.cells vs.toArray T (0,0))∧HRL η ρ M w vs hs∧∀ t',t=some t'→T=t'
 | .arr c k t=>(c.uni∧k≤c.cnt*c.esz)∧((c.cnt=0∧v=.pointer none)∨∃(b:Nat) (vs q:List Value) (T:TypeId),v=.pointer (some ⟨b,0,none⟩)∧w.heap[b]? = some (.cells (vs++q).toArray T (0,0))∧RdD M w vs c.flat∧∀ t',t=some t'→T=t')
 | .map es=>∃(b:Nat) (ents:Array MapEntry) (clk:Nat),v=.map (some b)∧w.heap[b]? = some (.map ents clk)∧EnR η ρ M w ents.toList es
 | .clo f caps=>∃ cv:List Value,v=.func (.func f) #[] cv.toArray∧SRL η ρ M w cv caps
def Grow (w w':World):Prop:=∀(b:Nat) (arr:Array Value) (T:TypeId) (fz:Nat×Nat),w.heap[b]? = some (Obj.cells arr T fz)→∃(arr':Array Value) (T':TypeId) (fz':Nat×Nat),w'.heap[b]? = some (Obj.cells arr' T' fz')∧arr.size≤arr'.size
theorem Grow.refl (w:World):Grow w w:=fun _ arr T fz h=>⟨arr,T,fz,h,Nat.le_refl _⟩
theorem Grow.trans {a b c:World} (h:Grow a b) (k:Grow b c):Grow a c:=fun i arr T fz hi=>by
 obtain ⟨arr',T',fz',h1,h2⟩:=h i arr T fz hi
 obtain ⟨arr2,T2,fz2,h3,h4⟩:=k i arr' T' fz' h1
 exact ⟨arr2,T2,fz2,h3,Nat.le_trans h2 h4⟩
theorem Grow.below {w w':World} (h:Below w.heap.size w w'):Grow w w':=fun b arr T fz hb=>
 ⟨arr,T,fz,(h.block b (Array.getElem?_eq_some_iff.1 hb).1).trans hb,Nat.le_refl _⟩
structure Mv (η:List SB) (ρ:Nat→Value) (M:Nat→Nat→Prop) (w:World) (η':List SB) (ρ':Nat→Value) (M':Nat→Nat→Prop) (w':World):Prop where
 ok:∀ b,okB η b→okB η' b
 rho:∀ b,okB η b→ρ' b=ρ b
 keep:Keeps M M' w w'
 grow:Grow w w'
section
variable {η η':List SB} {ρ ρ':Nat→Value} {M M':Nat→Nat→Prop} {w w':World}
theorem HRd.mv (m:Mv η ρ M w η' ρ' M' w') {v:Value} {h:HC} (hr:HRd η ρ M w v h):HRd η' ρ' M' w' v h:=by
 cases h with
 | any=>exact hr
 | dat c=>exact RdC.keep m.keep hr
 | ptr b off=>exact ⟨m.ok b hr.1,by rw [m.rho b hr.1];exact hr.2⟩
 | pel b es i f=>exact ⟨m.ok b hr.1,by rw [m.rho b hr.1];exact hr.2⟩
 | sl b es lo n=>
  obtain ⟨ho,ad,cap,hv,hn,hc⟩:=hr
  refine ⟨m.ok b ho,ad,cap,hv,hn,fun h0=>?_⟩
  obtain ⟨hre,h1,arr,T,fz,h2,h3⟩:=hc h0
  rw [m.rho b ho]
  obtain ⟨arr',T',fz',h4,h5⟩:=m.grow _ _ _ _ h2
  exact ⟨hre,h1,arr',T',fz',h4,Nat.le_trans h3 h5⟩
 | mp b=>exact ⟨m.ok b hr.1,by rw [m.rho b hr.1];exact hr.2⟩
 | fnr b=>exact ⟨m.ok b hr.1,by rw [m.rho b hr.1];exact hr.2⟩
theorem HRL.mv (m:Mv η ρ M w η' ρ' M' w'):∀{vs:List Value} {hs:List HC},HRL η ρ M w vs hs→HRL η' ρ' M' w' vs hs
 | [],[],_=>trivial
 | _::_,_::_,h=>⟨h.1.mv m,h.2.mv m⟩
theorem SVR0.mv (m:Mv η ρ M w η' ρ' M' w') {v:Value} {x:SV} (h:SVR0 η ρ M w v x):SVR0 η' ρ' M' w' v x:=by
 cases x with
 | one c=>exact HRd.mv m h
 | agg cs=>obtain ⟨vs,rfl,h⟩:=h;exact ⟨vs,rfl,h.mv m⟩
 | elt cs=>obtain ⟨b,off,vs,rfl,hc,h⟩:=h;exact ⟨b,off,vs,rfl,fun j u hj=>m.keep _ _ _ (hc j u hj).1 (hc j u hj).2,h.keep m.keep⟩
 | _=>exact h
theorem SRL.mv (m:Mv η ρ M w η' ρ' M' w'):∀{vs:List Value} {l:List SV},SRL η ρ M w vs l→SRL η' ρ' M' w' vs l
 | [],[],_=>trivial
 | _::_,_::_,h=>⟨h.1.mv m,h.2.mv m⟩
theorem SVR.of0 {v:Value} {x:SV} (h:SVR0 η ρ M w v x):SVR η ρ M w v x:=by
 cases x<;>first | exact h | exact h.elim
theorem SVR.mv (m:Mv η ρ M w η' ρ' M' w') {v:Value} {x:SV} (h:SVR η ρ M w v x):SVR η' ρ' M' w' v x:=by
 cases x with
 | tup l=>obtain ⟨vs,rfl,h⟩:=h;exact ⟨vs,rfl,h.mv m⟩
 | _=>exact SVR.of0 (SVR0.mv m h)
theorem EnR.mv (m:Mv η ρ M w η' ρ' M' w'):∀{es:List MapEntry} {l:List (Value×SV)},EnR η ρ M w es l→EnR η' ρ' M' w' es l
 | [],[],_=>trivial
 | _::_,_::_,h=>⟨⟨h.1.1,h.1.2.mv m⟩,h.2.mv m⟩
theorem SBR.mv (m:Mv η ρ M w η' ρ' M' w') {v:Value} {x:SB} (hh:x.own=true→real v→w'.heap[bk v]? = w.heap[bk v]?) (h:SBR η ρ M w v x):SBR η' ρ' M' w' v x:=by
 cases x with
 | fresh=>trivial
 | dead=>trivial
 | box hs t=>obtain ⟨b,vs,T,rfl,hb,h,ht⟩:=h;exact ⟨b,vs,T,rfl,(hh rfl (by simp [real])).trans hb,h.mv m,ht⟩
 | arr c k t=>
  obtain ⟨hu,h | ⟨b,vs,q,T,rfl,hb,h,hk⟩⟩:=h
  · exact ⟨hu,.inl h⟩
  · exact ⟨hu,.inr ⟨b,vs,q,T,rfl,(hh rfl (by simp [real])).trans hb,h.keep m.keep,hk⟩⟩
 | map es=>obtain ⟨b,ents,clk,rfl,hb,h⟩:=h;exact ⟨b,ents,clk,rfl,(hh rfl (by simp [real])).trans hb,h.mv m⟩
 | clo f caps=>obtain ⟨cv,rfl,h⟩:=h;exact ⟨cv,rfl,h.mv m⟩
theorem SBR.blk_lt {v:Value} {x:SB} (h:SBR η ρ M w v x) (ho:x.own=true) (hr:real v):bk v<w.heap.size:=by
 cases x with
 | box hs t=>obtain ⟨b,vs,T,rfl,hb,_⟩:=h;exact (Array.getElem?_eq_some_iff.1 hb).1
 | arr c k t=>
  obtain ⟨_,⟨_,e⟩ | ⟨b,vs,q,T,rfl,hb,_⟩⟩:=h
  · exact absurd e hr
  · exact (Array.getElem?_eq_some_iff.1 hb).1
 | map es=>obtain ⟨b,ents,clk,rfl,hb,_⟩:=h;exact (Array.getElem?_eq_some_iff.1 hb).1
 | _=>cases ho
theorem HRd.one {v:Value} {h:HC} (hr:HRd η ρ M w v h):v.oneCell'=true:=by
 cases h with
 | any=>exact hr
 | dat c=>exact RdC.one hr
 | ptr b off=>rw [hr.2];rfl
 | pel b es i f=>rw [hr.2];rfl
 | sl b es lo n=>obtain ⟨_,ad,cap,rfl,_⟩:=hr;rfl
 | mp b=>exact hr.2.2
 | fnr b=>exact hr.2.2
theorem HRL.ones:∀{vs:List Value} {hs:List HC},HRL η ρ M w vs hs→∀ v∈vs,v.oneCell'=true
 | [],[],_,v,hv=>by simp at hv
 | u::vs,_::_,h,v,hv=>by
  rcases List.mem_cons.1 hv with rfl | hv
  · exact h.1.one
  · exact h.2.ones v hv
theorem HRL.length:∀{vs:List Value} {hs:List HC},HRL η ρ M w vs hs→vs.length=hs.length
 | [],[],_=>rfl
 | _::_,_::_,h=>by simp [h.2.length]
theorem SRL.length:∀{vs:List Value} {l:List SV},SRL η ρ M w vs l→vs.length=l.length
 | [],[],_=>rfl
 | _::_,_::_,h=>by simp [h.2.length]
theorem HRL.drop:∀(n:Nat) {vs:List Value} {cs:List HC},HRL η ρ M w vs cs→HRL η ρ M w (vs.drop n) (cs.drop n)
 | 0,_,_,h=>by simpa using h
 | n+1,[],[],_=>trivial
 | n+1,_::_,_::_,h=>by simpa using h.2.drop n
theorem HRL.take:∀(n:Nat) {vs:List Value} {cs:List HC},HRL η ρ M w vs cs→HRL η ρ M w (vs.take n) (cs.take n)
 | 0,_,_,_=>trivial
 | _n+1,[],[],_=>trivial
 | n+1,_::_,_::_,h=>⟨h.1,h.2.take n⟩
theorem HRL.append:∀{vs:List Value} {cs:List HC} {us:List Value} {ds:List HC},HRL η ρ M w vs cs→HRL η ρ M w us ds→HRL η ρ M w (vs++us) (cs++ds)
 | [],[],_,_,_,h=>h
 | _::_,_::_,_,_,h,h'=>⟨h.1,h.2.append h'⟩
theorem SRL.append:∀{vs:List Value} {cs:List SV} {us:List Value} {ds:List SV},SRL η ρ M w vs cs→SRL η ρ M w us ds→SRL η ρ M w (vs++us) (cs++ds)
 | [],[],_,_,_,h=>h
 | _::_,_::_,_,_,h,h'=>⟨h.1,h.2.append h'⟩
theorem SRL.get:∀{vs:List Value} {cs:List SV},SRL η ρ M w vs cs→∀(j:Nat) (c:SV),cs[j]? = some c→∃ v,vs[j]? = some v∧SVR0 η ρ M w v c
 | [],[],_,j,c,hc=>by simp at hc
 | v::vs,c'::cs,h,0,c,hc=>by simp at hc;subst hc;exact ⟨v,by simp,h.1⟩
 | v::vs,c'::cs,h,j+1,c,hc=>by simpa using h.2.get j c (by simpa using hc)
theorem HRL.get:∀{vs:List Value} {cs:List HC},HRL η ρ M w vs cs→∀(j:Nat) (c:HC),cs[j]? = some c→∃ v,vs[j]? = some v∧HRd η ρ M w v c
 | [],[],_,j,c,hc=>by simp at hc
 | v::vs,c'::cs,h,0,c,hc=>by simp at hc;subst hc;exact ⟨v,by simp,h.1⟩
 | v::vs,c'::cs,h,j+1,c,hc=>by simpa using h.2.get j c (by simpa using hc)
theorem RdD.hrl:∀{vs:List Value} {cs:List Cell},RdD M w vs cs→HRL η ρ M w vs (cs.map .dat)
 | [],[],_=>trivial
 | _::_,_::_,h=>⟨h.1,RdD.hrl h.2⟩
end
def GlobOk (Γ:List (Nat×List Cell)) (M:Nat→Nat→Prop) (w:World):Prop:=
 ∀ g cs,(g,cs)∈Γ→∃ vs:List Value,(∀ j u,vs[j]? = some u→¬M g j∧w.cell? ⟨g,j,none⟩=some u)∧RdD M w vs cs
theorem GlobOk.keep {Γ:List (Nat×List Cell)} {M M':Nat→Nat→Prop} {w w':World} (hk:Keeps M M' w w') (h:GlobOk Γ M w):GlobOk Γ M' w':=fun g cs hg=>by
 obtain ⟨vs,h1,h2⟩:=h g cs hg
 exact ⟨vs,fun j u hj=>hk _ _ _ (h1 j u hj).1 (h1 j u hj).2,h2.keep hk⟩
structure HInv (Γ:List (Nat×List Cell)) (Mo:Nat→Nat→Prop) (ρ:Nat→Value) (η:List SB) (w:World):Prop where
 bnd:∀ b o,Mo b o→b<w.heap.size
 blk:∀ i x,η[i]? = some x→SBR η ρ (MX Mo ρ η) w (ρ i) x
 inj:∀ i j x y,η[i]? = some x→η[j]? = some y→x.own=true→y.own=true→real (ρ i)→real (ρ j)→bk (ρ i)=bk (ρ j)→i=j
 sep:∀ i x,η[i]? = some x→x.own=true→real (ρ i)→∀ o,¬Mo (bk (ρ i)) o
 glob:GlobOk Γ (MX Mo ρ η) w
structure Went (Γ:List (Nat×List Cell)) (Mo:Nat→Nat→Prop) (ρ:Nat→Value) (η:List SB) (w:World) (ρ':Nat→Value) (η':List SB) (w':World):Prop where
 ok:∀ b,okB η b→okB η' b
 rho:∀ b,okB η b→ρ' b=ρ b
 keep:Keeps (MX Mo ρ η) (MX Mo ρ' η') w w'
 grow:Grow w w'
 inv:HInv Γ Mo ρ' η' w'
 size:w.heap.size≤w'.heap.size
 os:w'.os=w.os
 tape:w'.tape=w.tape
 output:w'.output=w.output
 frame:∀ k,k<w.heap.size→¬Xb ρ η k→w'.heap[k]? = w.heap[k]?
 fresh:∀ k,Xb ρ' η' k→w.heap.size≤k∨Xb ρ η k
section
variable {Γ:List (Nat×List Cell)} {Mo:Nat→Nat→Prop} {η η' η'':List SB} {ρ ρ' ρ'':Nat→Value} {w w' w'':World}
theorem Went.mv (h:Went Γ Mo ρ η w ρ' η' w'):Mv η ρ (MX Mo ρ η) w η' ρ' (MX Mo ρ' η') w':=⟨h.ok,h.rho,h.keep,h.grow⟩
theorem Went.refl (h:HInv Γ Mo ρ η w):Went Γ Mo ρ η w ρ η w:=
 ⟨fun _ h=>h,fun _ _=>rfl,fun _ _ _ h1 h2=>⟨h1,h2⟩,Grow.refl w,h,Nat.le_refl _,rfl,rfl,rfl,fun _ _ _=>rfl,fun _ h=>.inr h⟩
theorem Went.trans (h:Went Γ Mo ρ η w ρ' η' w') (k:Went Γ Mo ρ' η' w' ρ'' η'' w''):Went Γ Mo ρ η w ρ'' η'' w'' where
 ok:=fun b hb=>k.ok b (h.ok b hb)
 rho:=fun b hb=>(k.rho b (h.ok b hb)).trans (h.rho b hb)
 keep:=h.keep.trans k.keep
 grow:=h.grow.trans k.grow
 inv:=k.inv
 size:=Nat.le_trans h.size k.size
 os:=k.os.trans h.os
 tape:=k.tape.trans h.tape
 output:=k.output.trans h.output
 frame:=fun i hi hx=>(k.frame i (Nat.lt_of_lt_of_le hi h.size) (fun h1=>by
  rcases h.fresh i h1 with h2 | h2
  · omega
  · exact hx h2)).trans (h.frame i hi hx)
 fresh:=fun i hx=>by
  rcases k.fresh i hx with h1 | h1
  · exact .inl (Nat.le_trans h.size h1)
  · exact h.fresh i h1
theorem okB_set {i b:Nat} {x:SB} (hx:x≠.fresh) (h:okB η b):okB (η.set i x) b:=by
 obtain ⟨y,h1,h2⟩:=h
 unfold okB
 rw [List.getElem?_set]
 split
 · rename_i e;subst e
   rw [if_pos (List.getElem?_eq_some_iff.1 h1).1]
   exact ⟨x,rfl,hx⟩
 · exact ⟨y,h1,h2⟩
theorem okB_append {b:Nat} (l:List SB) (h:okB η b):okB (η++l) b:=by
 obtain ⟨y,h1,h2⟩:=h
 exact ⟨y,by rw [List.getElem?_append_left (List.getElem?_eq_some_iff.1 h1).1];exact h1,h2⟩
theorem set_cases {α:Type} {l:List α} {d i:Nat} {x y:α} (h:(l.set d x)[i]? = some y):(i=d∧y=x)∨(i≠d∧l[i]? = some y):=getElem?_set_cases h
theorem HInv.below (h:HInv Γ Mo ρ η w) (hb:Below w.heap.size w w'):HInv Γ Mo ρ η w' where
 bnd:=fun b o ho=>Nat.lt_of_lt_of_le (h.bnd b o ho) hb.size
 blk:=fun i x hi=>(h.blk i x hi).mv ⟨fun _ h=>h,fun _ _=>rfl,Keeps.below hb,Grow.below hb⟩ (fun ho hr=>hb.block _ ((h.blk i x hi).blk_lt ho hr))
 inj:=h.inj
 sep:=h.sep
 glob:=h.glob.keep (Keeps.below hb)
theorem Went.below (h:HInv Γ Mo ρ η w) (hb:Below w.heap.size w w'):Went Γ Mo ρ η w ρ η w':=
 ⟨fun _ h=>h,fun _ _=>rfl,Keeps.below hb,Grow.below hb,h.below hb,hb.size,hb.os,hb.tape,hb.output,fun k hk _=>hb.block k hk,fun _ h=>.inr h⟩
theorem MX_lt (h:HInv Γ Mo ρ η w) {b o:Nat} (hm:MX Mo ρ η b o):b<w.heap.size:=by
 rcases hm with hm | ⟨i,x,hi,hx,hr,rfl⟩
 · exact h.bnd b o hm
 · exact (h.blk i x hi).blk_lt (SB.mut_own hx) hr
theorem get_append_fresh {n i:Nat} {x:SB} (h:(η++List.replicate n .fresh)[i]? = some x):η[i]? = some x∨(η.length≤i∧x=.fresh):=by
 rw [List.getElem?_append] at h
 split at h
 · exact .inl h
 · rw [List.getElem?_replicate] at h
   split at h
   · cases h;exact .inr ⟨by omega,rfl⟩
   · cases h
theorem Went.extend (h:HInv Γ Mo ρ η w) (n:Nat):Went Γ Mo ρ η w ρ (η++List.replicate n .fresh) w:=by
 have hM:∀ b o,MX Mo ρ (η++List.replicate n .fresh) b o→MX Mo ρ η b o:=by
  rintro b o (hm | ⟨i,x,hi,hx,hr⟩)
  · exact .inl hm
  · rcases get_append_fresh hi with hi | ⟨_,rfl⟩
    · exact .inr ⟨i,x,hi,hx,hr⟩
    · exact hx.elim
 have hk:Keeps (MX Mo ρ η) (MX Mo ρ (η++List.replicate n .fresh)) w w:=fun b o u h1 h2=>⟨fun hm=>h1 (hM b o hm),h2⟩
 refine ⟨fun b hb=>okB_append _ hb,fun _ _=>rfl,hk,Grow.refl w,⟨h.bnd,?_,?_,?_,h.glob.keep hk⟩,Nat.le_refl _,rfl,rfl,rfl,fun _ _ _=>rfl,?_⟩
 · intro i x hi
   rcases get_append_fresh hi with hi | ⟨_,rfl⟩
   · exact (h.blk i x hi).mv ⟨fun b hb=>okB_append _ hb,fun _ _=>rfl,hk,Grow.refl w⟩ (fun _ _=>rfl)
   · trivial
 · intro i j x y hi hj hx hy
   rcases get_append_fresh hi with hi | ⟨_,rfl⟩
   · rcases get_append_fresh hj with hj | ⟨_,rfl⟩
     · exact h.inj i j x y hi hj hx hy
     · cases hy
   · cases hx
 · intro i x hi hx
   rcases get_append_fresh hi with hi | ⟨_,rfl⟩
   · exact h.sep i x hi hx
   · cases hx
 · rintro k ⟨i,x,hi,hx,hr⟩
   rcases get_append_fresh hi with hi | ⟨_,rfl⟩
   · exact .inr ⟨i,x,hi,hx,hr⟩
   · cases hx
def upd (ρ:Nat→Value) (b:Nat) (v:Value):Nat→Value:=fun i=>if i=b then v else ρ i
theorem upd_self {b:Nat} {v:Value}:upd ρ b v b=v:=by simp [upd]
theorem upd_ne {b i:Nat} {v:Value} (h:i≠b):upd ρ b v i=ρ i:=by simp [upd,h]
theorem fresh_notOk {b:Nat} (h:η[b]? = some .fresh):¬okB η b:=fun ⟨x,h1,h2⟩=>by rw [h] at h1;cases h1;exact h2 rfl
theorem Went.new (h:HInv Γ Mo ρ η w) (hb:Below w.heap.size w w') {b:Nat} (hf:η[b]? = some .fresh) {v:Value} {x:SB} (hxf:x≠.fresh)
 (hnew:x.own=true→real v→w.heap.size≤bk v)
 (hok:Mv η ρ (MX Mo ρ η) w (η.set b x) (upd ρ b v) (MX Mo (upd ρ b v) (η.set b x)) w'→SBR (η.set b x) (upd ρ b v) (MX Mo (upd ρ b v) (η.set b x)) w' v x):Went Γ Mo ρ η w (upd ρ b v) (η.set b x) w':=by
 have hne:∀ i,okB η i→i≠b:=fun i hi e=>fresh_notOk hf (e▸hi)
 have hM:∀ c o,MX Mo (upd ρ b v) (η.set b x) c o→MX Mo ρ η c o∨(w.heap.size≤c):=by
  rintro c o (hm | ⟨i,y,hi,hy,hr,e⟩)
  · exact .inl (.inl hm)
  · rcases set_cases hi with ⟨rfl,rfl⟩ | ⟨hn,hi⟩
    · rw [upd_self] at hr e
      exact .inr (e▸hnew (SB.mut_own hy) hr)
    · rw [upd_ne hn] at hr e
      exact .inl (.inr ⟨i,y,hi,hy,hr,e⟩)
 have hk:Keeps (MX Mo ρ η) (MX Mo (upd ρ b v) (η.set b x)) w w':=fun c o u h1 h2=>by
  have hl:=World.block_lt_of_cell? w _ h2
  refine ⟨fun hm=>?_,(Keeps.below hb c o u h1 h2).2⟩
  rcases hM c o hm with hm | hm
  · exact h1 hm
  · simp only at hl;omega
 have hm:Mv η ρ (MX Mo ρ η) w (η.set b x) (upd ρ b v) (MX Mo (upd ρ b v) (η.set b x)) w':=⟨fun i hi=>okB_set hxf hi,fun i hi=>upd_ne (hne i hi),hk,Grow.below hb⟩
 refine ⟨hm.ok,hm.rho,hk,hm.grow,⟨fun c o ho=>Nat.lt_of_lt_of_le (h.bnd c o ho) hb.size,?_,?_,?_,h.glob.keep hk⟩,hb.size,hb.os,hb.tape,hb.output,fun k hk _=>hb.block k hk,?_⟩
 · intro i y hi
   rcases set_cases hi with ⟨rfl,rfl⟩ | ⟨hn,hi⟩
   · rw [upd_self];exact hok hm
   · rw [upd_ne hn]
     exact (h.blk i y hi).mv hm (fun ho hr=>hb.block _ ((h.blk i y hi).blk_lt ho hr))
 · intro i j y z hi hj hy hz hri hrj e
   rcases set_cases hi with ⟨ei,ey⟩ | ⟨hn,hi'⟩
   · rcases set_cases hj with ⟨ej,ez⟩ | ⟨hn',hj'⟩
     · rw [ei,ej]
     · subst ei;subst ey
       rw [upd_self] at hri e;rw [upd_ne hn'] at hrj e
       have h1:=hnew hy hri
       have h2:=(h.blk j z hj').blk_lt hz hrj
       omega
   · rcases set_cases hj with ⟨ej,ez⟩ | ⟨hn',hj'⟩
     · subst ej;subst ez
       rw [upd_self] at hrj e;rw [upd_ne hn] at hri e
       have h1:=hnew hz hrj
       have h2:=(h.blk i y hi').blk_lt hy hri
       omega
     · rw [upd_ne hn] at hri e;rw [upd_ne hn'] at hrj e
       exact h.inj i j y z hi' hj' hy hz hri hrj e
 · intro i y hi hy hr o ho
   rcases set_cases hi with ⟨rfl,rfl⟩ | ⟨hn,hi⟩
   · rw [upd_self] at hr ho
     have h1:=hnew hy hr
     have h2:=h.bnd _ _ ho
     omega
   · rw [upd_ne hn] at hr ho
     exact h.sep i y hi hy hr o ho
 · rintro k ⟨i,y,hi,hy,hr,e⟩
   rcases set_cases hi with ⟨rfl,rfl⟩ | ⟨hn,hi⟩
   · rw [upd_self] at hr e;exact .inl (e▸hnew hy hr)
   · rw [upd_ne hn] at hr e;exact .inr ⟨i,y,hi,hy,hr,e⟩
theorem Went.write (h:HInv Γ Mo ρ η w) {b:Nat} {x x':SB} (hx:η[b]? = some x) (ho:x.own=true) (hr:real (ρ b)) (ho':x'.own=true) (hmut:∀ o,x'.mut o↔x.mut o)
 (hsize:w'.heap.size=w.heap.size) (hos:w'.os=w.os) (htape:w'.tape=w.tape) (hout:w'.output=w.output) (hother:∀ k,k≠bk (ρ b)→w'.heap[k]? = w.heap[k]?) (hgrow:Grow w w')
 (hcell:∀ o u,¬x.mut o→w.cell? ⟨bk (ρ b),o,none⟩=some u→w'.cell? ⟨bk (ρ b),o,none⟩=some u)
 (hok:Mv η ρ (MX Mo ρ η) w (η.set b x') ρ (MX Mo ρ (η.set b x')) w'→SBR (η.set b x') ρ (MX Mo ρ (η.set b x')) w' (ρ b) x'):Went Γ Mo ρ η w ρ (η.set b x') w':=by
 have hxf:x'≠.fresh:=fun e=>by rw [e] at ho';cases ho'
 have hlt:b<η.length:=(List.getElem?_eq_some_iff.1 hx).1
 have hM:∀ c o,MX Mo ρ (η.set b x') c o↔MX Mo ρ η c o:=fun c o=>by
  constructor
  · rintro (hm | ⟨i,y,hi,hy,hr,e⟩)
    · exact .inl hm
    · rcases set_cases hi with ⟨rfl,rfl⟩ | ⟨hn,hi⟩
      · exact .inr ⟨i,x,hx,(hmut o).1 hy,hr,e⟩
      · exact .inr ⟨i,y,hi,hy,hr,e⟩
  · rintro (hm | ⟨i,y,hi,hy,hr,e⟩)
    · exact .inl hm
    · by_cases hn:i=b
      · subst hn
        rw [hx] at hi;cases hi
        exact .inr ⟨i,x',by simp [hlt],(hmut o).2 hy,hr,e⟩
      · exact .inr ⟨i,y,by rw [List.getElem?_set_ne (Ne.symm hn)];exact hi,hy,hr,e⟩
 have hk:Keeps (MX Mo ρ η) (MX Mo ρ (η.set b x')) w w':=fun c o u h1 h2=>by
  refine ⟨fun hm=>h1 ((hM c o).1 hm),?_⟩
  by_cases e:c=bk (ρ b)
  · subst e
    exact hcell o u (fun hm=>h1 (.inr ⟨b,x,hx,hm,hr,rfl⟩)) h2
  · unfold World.cell? at h2 ⊢
    dsimp only at h2 ⊢
    rw [hother c e];exact h2
 have hm:Mv η ρ (MX Mo ρ η) w (η.set b x') ρ (MX Mo ρ (η.set b x')) w':=⟨fun i hi=>okB_set hxf hi,fun _ _=>rfl,hk,hgrow⟩
 refine ⟨hm.ok,hm.rho,hk,hgrow,⟨fun c o hc=>by rw [hsize];exact h.bnd c o hc,?_,?_,?_,h.glob.keep hk⟩,by omega,hos,htape,hout,?_,?_⟩
 · intro i y hi
   rcases set_cases hi with ⟨rfl,rfl⟩ | ⟨hn,hi⟩
   · exact hok hm
   · exact (h.blk i y hi).mv hm (fun hyo hri=>hother _ (fun e=>hn (h.inj i b y x hi hx hyo ho hri hr e)))
 · intro i j y z hi hj hy hz
   have key:∀(k:Nat) (u:SB),(η.set b x')[k]? = some u→u.own=true→∃ u':SB,η[k]? = some u'∧u'.own=true:=fun k u hk hu=>by
    rcases set_cases hk with ⟨rfl,rfl⟩ | ⟨_,hk⟩
    · exact ⟨x,hx,ho⟩
    · exact ⟨u,hk,hu⟩
   obtain ⟨y',h1,h2⟩:=key i y hi hy
   obtain ⟨z',h3,h4⟩:=key j z hj hz
   exact h.inj i j y' z' h1 h3 h2 h4
 · intro i y hi hy
   rcases set_cases hi with ⟨rfl,rfl⟩ | ⟨_,hi⟩
   · exact h.sep i x hx ho
   · exact h.sep i y hi hy
 · intro k _ hk
   exact hother k (fun e=>hk ⟨b,x,hx,ho,hr,e.symm⟩)
 · rintro k ⟨i,y,hi,hy,hr',e⟩
   rcases set_cases hi with ⟨rfl,rfl⟩ | ⟨_,hi⟩
   · exact .inr ⟨i,x,hx,ho,hr',e⟩
   · exact .inr ⟨i,y,hi,hy,hr',e⟩
theorem Went.less (h:HInv Γ Mo ρ η w) {b:Nat} {x x':SB} (hx:η[b]? = some x) (hxf:x'≠.fresh) (ho:x'.own=true→x.own=true) (hmut:∀ o,x'.mut o→x.mut o)
 (hok:Mv η ρ (MX Mo ρ η) w (η.set b x') ρ (MX Mo ρ (η.set b x')) w→SBR (η.set b x') ρ (MX Mo ρ (η.set b x')) w (ρ b) x'):Went Γ Mo ρ η w ρ (η.set b x') w:=by
 have hM:∀ c o,MX Mo ρ (η.set b x') c o→MX Mo ρ η c o:=by
  rintro c o (hm | ⟨i,y,hi,hy,hr,e⟩)
  · exact .inl hm
  · rcases set_cases hi with ⟨rfl,rfl⟩ | ⟨_,hi⟩
    · exact .inr ⟨i,x,hx,hmut o hy,hr,e⟩
    · exact .inr ⟨i,y,hi,hy,hr,e⟩
 have hk:Keeps (MX Mo ρ η) (MX Mo ρ (η.set b x')) w w:=fun c o u h1 h2=>⟨fun hm=>h1 (hM c o hm),h2⟩
 have hm:Mv η ρ (MX Mo ρ η) w (η.set b x') ρ (MX Mo ρ (η.set b x')) w:=⟨fun i hi=>okB_set hxf hi,fun _ _=>rfl,hk,Grow.refl w⟩
 have key:∀(k:Nat) (u:SB),(η.set b x')[k]? = some u→u.own=true→∃ u':SB,η[k]? = some u'∧u'.own=true:=fun k u hk hu=>by
  rcases set_cases hk with ⟨rfl,rfl⟩ | ⟨_,hk⟩
  · exact ⟨x,hx,ho hu⟩
  · exact ⟨u,hk,hu⟩
 refine ⟨hm.ok,hm.rho,hk,hm.grow,⟨h.bnd,?_,?_,?_,h.glob.keep hk⟩,Nat.le_refl _,rfl,rfl,rfl,fun _ _ _=>rfl,?_⟩
 · intro i y hi
   rcases set_cases hi with ⟨rfl,rfl⟩ | ⟨_,hi⟩
   · exact hok hm
   · exact (h.blk i y hi).mv hm (fun _ _=>rfl)
 · intro i j y z hi hj hy hz
   obtain ⟨y',h1,h2⟩:=key i y hi hy
   obtain ⟨z',h3,h4⟩:=key j z hj hz
   exact h.inj i j y' z' h1 h3 h2 h4
 · intro i y hi hy
   obtain ⟨y',h1,h2⟩:=key i y hi hy
   exact h.sep i y' h1 h2
 · rintro k ⟨i,y,hi,hy,hr',e⟩
   obtain ⟨y',h1,h2⟩:=key i y hi hy
   exact .inr ⟨i,y',h1,h2,hr',e⟩
theorem Went.move (h:HInv Γ Mo ρ η w) {b nb:Nat} {x:SB} (hx:η[b]? = some x) (ho:x.own=true) (hf:η[nb]? = some .fresh):Went Γ Mo ρ η w (upd ρ nb (ρ b)) ((η.set b .dead).set nb x) w:=by
 have hxf:x≠.fresh:=fun e=>by rw [e] at ho;cases ho
 have hbn:b≠nb:=fun e=>by rw [e,hf] at hx;cases hx;exact hxf rfl
 have hlb:b<η.length:=(List.getElem?_eq_some_iff.1 hx).1
 have hln:nb<η.length:=(List.getElem?_eq_some_iff.1 hf).1
 have key:∀(i:Nat) (y:SB),((η.set b .dead).set nb x)[i]? = some y→(i=nb∧y=x)∨(i≠nb∧i=b∧y=.dead)∨(i≠nb∧i≠b∧η[i]? = some y):=fun i y hi=>by
  rcases set_cases hi with h1 | ⟨hn,hi⟩
  · exact .inl h1
  · rcases set_cases hi with ⟨h2,h3⟩ | ⟨hn',hi⟩
    · exact .inr (.inl ⟨hn,h2,h3⟩)
    · exact .inr (.inr ⟨hn,hn',hi⟩)
 have hold:∀(i:Nat) (y:SB),((η.set b .dead).set nb x)[i]? = some y→y.own=true→∃ j,η[j]? = some y∧upd ρ nb (ρ b) i=ρ j∧(i=nb→j=b)∧(i≠nb→j=i):=fun i y hi hy=>by
  rcases key i y hi with ⟨rfl,rfl⟩ | ⟨hn,rfl,rfl⟩ | ⟨hn,hn',hi⟩
  · exact ⟨b,hx,upd_self,fun _=>rfl,fun e=>absurd rfl e⟩
  · cases hy
  · exact ⟨i,hi,upd_ne hn,fun e=>absurd e hn,fun _=>rfl⟩
 have hM:∀ c o,MX Mo (upd ρ nb (ρ b)) ((η.set b .dead).set nb x) c o→MX Mo ρ η c o:=by
  rintro c o (hm | ⟨i,y,hi,hy,hr,e⟩)
  · exact .inl hm
  · obtain ⟨j,h1,h2,_⟩:=hold i y hi (SB.mut_own hy)
    rw [h2] at hr e
    exact .inr ⟨j,y,h1,hy,hr,e⟩
 have hk:Keeps (MX Mo ρ η) (MX Mo (upd ρ nb (ρ b)) ((η.set b .dead).set nb x)) w w:=fun c o u h1 h2=>⟨fun hm=>h1 (hM c o hm),h2⟩
 have hok:∀ i,okB η i→okB ((η.set b .dead).set nb x) i:=fun i hi=>okB_set hxf (okB_set (by simp) hi)
 have hm:Mv η ρ (MX Mo ρ η) w ((η.set b .dead).set nb x) (upd ρ nb (ρ b)) (MX Mo (upd ρ nb (ρ b)) ((η.set b .dead).set nb x)) w:=
  ⟨hok,fun i hi=>upd_ne (fun e=>fresh_notOk hf (e▸hi)),hk,Grow.refl w⟩
 refine ⟨hm.ok,hm.rho,hk,hm.grow,⟨h.bnd,?_,?_,?_,h.glob.keep hk⟩,Nat.le_refl _,rfl,rfl,rfl,fun _ _ _=>rfl,?_⟩
 · intro i y hi
   rcases key i y hi with ⟨rfl,rfl⟩ | ⟨hn,rfl,rfl⟩ | ⟨hn,hn',hi⟩
   · rw [upd_self];exact (h.blk b y hx).mv hm (fun _ _=>rfl)
   · trivial
   · rw [upd_ne hn];exact (h.blk i y hi).mv hm (fun _ _=>rfl)
 · intro i j y z hi hj hy hz hri hrj e
   obtain ⟨i',h1,h2,h3,h4⟩:=hold i y hi hy
   obtain ⟨j',h5,h6,h7,h8⟩:=hold j z hj hz
   rw [h2] at hri e
   rw [h6] at hrj e
   have e':=h.inj i' j' y z h1 h5 hy hz hri hrj e
   by_cases hin:i=nb
   · by_cases hjn:j=nb
     · rw [hin,hjn]
     · exfalso
       rw [h3 hin,h8 hjn] at e'
       rcases key j z hj with ⟨e1,_⟩ | ⟨_,_,rfl⟩ | ⟨_,e1,_⟩
       · exact hjn e1
       · cases hz
       · exact e1 e'.symm
   · by_cases hjn:j=nb
     · exfalso
       rw [h7 hjn,h4 hin] at e'
       rcases key i y hi with ⟨e1,_⟩ | ⟨_,_,rfl⟩ | ⟨_,e1,_⟩
       · exact hin e1
       · cases hy
       · exact e1 e'
     · rw [h4 hin,h8 hjn] at e';exact e'
 · intro i y hi hy hr
   obtain ⟨j,h1,h2,_⟩:=hold i y hi hy
   rw [h2] at hr ⊢
   exact h.sep j y h1 hy hr
 · rintro k ⟨i,y,hi,hy,hr,e⟩
   obtain ⟨j,h1,h2,_⟩:=hold i y hi hy
   rw [h2] at hr e
   exact .inr ⟨j,y,h1,hy,hr,e⟩
theorem Went.kill (h:HInv Γ Mo ρ η w) {b:Nat} {x:SB} (hx:η[b]? = some x):Went Γ Mo ρ η w ρ (η.set b .dead) w:=
 Went.less h hx (by simp) (by intro h;cases h) (by intro o h;exact h.elim) (fun _=>trivial)
end
end Go.Hp

namespace Go.Hp
open Go Go.RowKit Go.Slot
structure HEnv where
 w0:World
 Mo:Nat→Nat→Prop
 ρ0:Nat→Value
 η0:List SB
def gtS (σ:List SV) (i:Nat):SV:=(σ[i]?).getD .any
def gB (η:List SB) (b:Nat):SB:=(η[b]?).getD .dead
structure RI (Γ:List (Nat×List Cell)) (E:HEnv) (ρ:Nat→Value) (σ:List SV) (η:List SB) (a:Act) (w:World):Prop where
 hd:a.defers=[]
 hs:a.tmps.size=σ.length
 slot:∀(i:Nat) (x:SV),σ[i]? = some x→SVR η ρ (MX E.Mo ρ η) w (a.tmps.getD i Go.undef) x
 went:Went Γ E.Mo E.ρ0 E.η0 E.w0 ρ η w
section
variable {Γ:List (Nat×List Cell)} {E:HEnv} {ρ ρ':Nat→Value} {σ:List SV} {η η':List SB} {a:Act} {w w':World}
theorem RI.inv (h:RI Γ E ρ σ η a w):HInv Γ E.Mo ρ η w:=h.went.inv
theorem RI.go (h:RI Γ E ρ σ η a w) (k:Went Γ E.Mo ρ η w ρ' η' w'):RI Γ E ρ' σ η' a w':=
 ⟨h.hd,h.hs,fun i x hi=>(h.slot i x hi).mv k.mv,h.went.trans k⟩
theorem RI.lt (h:RI Γ E ρ σ η a w) {i:Nat} {x:SV} (hi:σ[i]? = some x):i<a.tmps.size:=by
 have:=(List.getElem?_eq_some_iff.1 hi).1
 rw [h.hs];exact this
theorem RI.put (h:RI Γ E ρ σ η a w) {d:Nat} {x:SV} {v:Value} (hx:SVR η ρ (MX E.Mo ρ η) w v x):RI Γ E ρ (σ.set d x) η (a.put (some d) v) w:=by
 refine ⟨h.hd,by simpa [Act.put] using h.hs,fun i y hi=>?_,h.went⟩
 show SVR η ρ (MX E.Mo ρ η) w ((a.tmps.setIfInBounds d v).getD i Go.undef) y
 have hlen:i<σ.length:=by simpa using (List.getElem?_eq_some_iff.1 hi).1
 rcases set_cases hi with ⟨rfl,rfl⟩ | ⟨hn,hi⟩
 · have:i<a.tmps.size:=by rw [h.hs];exact hlen
   rw [show (a.tmps.setIfInBounds i v).getD i Go.undef=v by simp [this]]
   exact hx
 · rw [Slot.getD_set_ne (Ne.symm hn)]
   exact h.slot i y hi
theorem RI.gt (h:RI Γ E ρ σ η a w) (t:Nat):SVR η ρ (MX E.Mo ρ η) w (a.tmps.getD t Go.undef) (gtS σ t):=by
 unfold gtS
 cases ht:σ[t]? with
 | none=>exact trivial
 | some x=>exact h.slot t x ht
def constSV (v:Value):SV:=match constAV v with
 | .one c=>.one (.dat c)
 | .agg cs=>.agg (cs.map .dat)
 | _=>.any
def globSV:List (Nat×List Cell)→Nat→SV
 | [],_=>.any
 | (g,cs)::r,i=>if g=i then .elt cs else globSV r i
def opdS (Γ:List (Nat×List Cell)) (σ:List SV):Operand→SV
 | .tmp t=>gtS σ t
 | .const v=>constSV v
 | .func f=>.one (.dat (.raw (.func (.func f) #[] #[])))
 | .global g=>globSV Γ g
theorem globSV_mem:∀(Γ:List (Nat×List Cell)) (i:Nat),globSV Γ i=.any∨∃ cs,globSV Γ i=.elt cs∧(i,cs)∈Γ
 | [],_=>.inl rfl
 | (g,cs)::r,i=>by
  unfold globSV
  split
  · rename_i e;subst e;exact .inr ⟨cs,rfl,by simp⟩
  · rcases globSV_mem r i with h | ⟨cs',h,hm⟩
    · exact .inl h
    · exact .inr ⟨cs',h,by simp [hm]⟩
theorem constSV_ok {M:Nat→Nat→Prop} (v:Value):SVR η ρ M w v (constSV v):=by
 have h:=constAV_ok (M:=M) (w:=w) (τ:=fun _=>⟨Go.undef,0⟩) v
 unfold constSV
 cases hc:constAV v with
 | one c=>
  rw [hc] at h
  have hb:RdC M w v c.bare:=RdT.bare h
  have hnt:c.bare=c:=by
   unfold constAV at hc
   split at hc
   · split at hc<;>cases hc
   · cases hc
   · cases hc;rfl
  rw [hnt] at hb
  exact hb
 | agg cs =>
  rw [hc] at h
  obtain ⟨vs,e,hr⟩:=h
  refine ⟨vs,e,?_⟩
  have hraw:∃ us:List Value,cs=us.map .raw:=by
   unfold constAV at hc
   split at hc
   · split at hc
     · cases hc;exact ⟨_,rfl⟩
     · cases hc
   · cases hc
   · cases hc
  obtain ⟨us,rfl⟩:=hraw
  have:∀(vs us:List Value),RdL M w (fun _=>⟨Go.undef,0⟩) vs (us.map .raw)→HRL η ρ M w vs ((us.map Cell.raw).map .dat):=by
   intro vs
   induction vs with
   | nil=>intro us h;cases us with
    | nil=>trivial
    | cons _ _=>exact h.elim
   | cons v vs ih=>intro us h;cases us with
    | nil=>exact h.elim
    | cons u us=>exact ⟨h.1,ih us h.2⟩
  exact this vs us hr
 | _=>exact trivial
theorem RI.opd (h:RI Γ E ρ σ η a w) (x:Operand):SVR η ρ (MX E.Mo ρ η) w (a.eval x) (opdS Γ σ x):=by
 cases x with
 | tmp t=>exact h.gt t
 | const v=>exact constSV_ok v
 | func f=>exact RdC.raw rfl
 | global g=>
  show SVR η ρ (MX E.Mo ρ η) w (a.eval (.global g)) (globSV Γ g)
  rcases globSV_mem Γ g with e | ⟨cs,e,hm⟩
  · rw [e];exact trivial
  · rw [e]
    obtain ⟨vs,h1,h2⟩:=h.inv.glob g cs hm
    exact ⟨g,0,vs,rfl,fun j u hj=>by rw [Nat.zero_add];exact h1 j u hj,h2⟩
end
def appL {α:Type}:List (Nat×α)→List α→List α
 | [],l=>l
 | (i,x)::r,l=>appL r (l.set i x)
def agS (rd:List Nat) (σ σ':List SV):Prop:=σ'.length=σ.length∧∀ r∈rd,gtS σ' r=gtS σ r
def agB (rh:List Nat) (η η':List SB):Prop:=η'.length=η.length∧∀ r∈rh,η'[r]? = η[r]?
def HStep (Γ:List (Nat×List Cell)) (P:Program) (o:Oper) (σ:List SV) (η:List SB) (rd rh:List Nat) (eff:List (Nat×SV)) (heff:List (Nat×SB)):Prop:=
 ∀(E:HEnv) (ρ:Nat→Value) (σ':List SV) (η':List SB) (a:Act) (w:World),agS rd σ σ'→agB rh η η'→RI Γ E ρ σ' η' a w→∀(K:Act→World→Prop) (Q:Exit→Act→World→Prop),
  (∀ a' w' ρ',RI Γ E ρ' (appL eff σ') (appL heff η') a' w'→K a' w')→o.wp P a w K Q
theorem agS.opd {Γ:List (Nat×List Cell)} {rd:List Nat} {σ σ':List SV} (h:agS rd σ σ') {x:Operand} (hx:∀ t∈orr x,t∈rd):opdS Γ σ' x=opdS Γ σ x:=by
 cases x with
 | tmp t=>exact h.2 t (hx t (by simp [orr]))
 | _=>rfl
theorem agB.gB {rh:List Nat} {η η':List SB} (h:agB rh η η') {b:Nat} (hb:b∈rh):gB η' b=gB η b:=by
 unfold Hp.gB;rw [h.2 b hb]
def datH:HC→Option Cell
 | .dat c=>some c
 | _=>none
def datL:List HC→Option (List Cell)
 | []=>some []
 | .dat c::r=>(datL r).map (c::·)
 | _::_=>none
def vwO:HC→AV
 | .dat c=>.one c
 | _=>.any
def vwG:Option (List Cell)→AV
 | some cs=>.agg cs
 | none=>.any
def vw:SV→AV
 | .one h=>vwO h
 | .agg hs=>vwG (datL hs)
 | .elt cs=>.elt cs
 | .undef=>.undef
 | _=>.any
theorem gt_map {σ:List SV} (i:Nat):gt (σ.map vw) i=vw (gtS σ i):=by
 unfold gt gtS
 rw [List.getElem?_map]
 cases σ[i]?<;>rfl
theorem vw_noHold (x:SV):(vw x).holder=false:=by
 unfold vw
 cases x with
 | one h=>cases h<;>rfl
 | agg hs=>simp only;cases datL hs<;>rfl
 | _=>rfl
theorem vw_noRf (x:SV):(vw x).rf=none:=by
 unfold vw
 cases x with
 | one h=>cases h<;>rfl
 | agg hs=>simp only;cases datL hs<;>rfl
 | _=>rfl
section
variable {Γ:List (Nat×List Cell)} {E:HEnv} {ρ ρ':Nat→Value} {σ:List SV} {η η':List SB} {a:Act} {w w':World} {M:Nat→Nat→Prop}
theorem RdC.hasTok {v:Value} {c:Cell} (h:RdC M w v c) (d:Nat):¬c.hasTok d:=h.noTok d
theorem HRL.dat:∀{vs:List Value} {hs:List HC} {cs:List Cell},HRL η ρ M w vs hs→datL hs=some cs→RdD M w vs cs
 | [],[],cs,_,hd=>by simp [datL] at hd;subst hd;trivial
 | v::vs,h::hs,cs,hr,hd=>by
  cases h with
  | dat c=>
   simp only [datL,Option.map_eq_some_iff] at hd
   obtain ⟨l,hl,rfl⟩:=hd
   exact ⟨hr.1,HRL.dat hr.2 hl⟩
  | _=>simp [datL] at hd
theorem RdD.rdl {τ:Nat→TV}:∀{vs:List Value} {cs:List Cell},RdD M w vs cs→RdL M w τ vs cs
 | [],[],_=>trivial
 | _::_,_::_,h=>⟨RdT.of h.1,RdD.rdl h.2⟩
theorem vw_ok {τ:Nat→TV} {tm:Array Value} {v:Value} {x:SV} (h:SVR η ρ M w v x):SlotOk M w τ tm v (vw x)∧∀ d,¬(vw x).hasTok d:=by
 cases x with
 | one c=>
  cases c with
  | dat c=>exact ⟨RdT.of h,fun d hd=>(RdC.noTok h d) hd⟩
  | _=>exact ⟨trivial,fun d hd=>hd⟩
 | agg hs=>
  obtain ⟨vs,rfl,hr⟩:=h
  show SlotOk M w τ tm _ (vwG (datL hs))∧∀ d,¬(vwG (datL hs)).hasTok d
  cases hd:datL hs with
  | none=>exact ⟨trivial,fun d hd=>hd⟩
  | some cs=>
   have hrd:=HRL.dat hr hd
   exact ⟨⟨vs,rfl,RdD.rdl hrd⟩,fun d hd=>hrd.noTok hd⟩
 | elt cs=>exact ⟨h,fun d hd=>hd⟩
 | undef=>exact ⟨h,fun d hd=>hd⟩
 | any=>exact ⟨trivial,fun d hd=>hd⟩
 | tup l=>exact ⟨trivial,fun d hd=>hd⟩
def envOf (h:RI Γ E ρ σ η a w):Env:=⟨w,MX E.Mo ρ η,fun _=>False,#[],fun _ _ hm=>MX_lt h.inv hm⟩
theorem RI.old (h:RI Γ E ρ σ η a w):RelI (envOf h) (fun _=>⟨Go.undef,0⟩) (MX E.Mo ρ η) (σ.map vw) a w:=by
 have hget:∀(i:Nat) (av:AV),(σ.map vw)[i]? = some av→∃ x,σ[i]? = some x∧av=vw x:=fun i av hi=>by
  rw [List.getElem?_map] at hi
  obtain ⟨x,hx,rfl⟩:=Option.map_eq_some_iff.1 hi
  exact ⟨x,hx,rfl⟩
 have hlive:∀ d,¬live (σ.map vw) d:=fun d ⟨i,av,hi,ht⟩=>by
  obtain ⟨x,hx,rfl⟩:=hget i av hi
  exact (vw_ok (τ:=fun _=>⟨Go.undef,0⟩) (tm:=a.tmps) (h.slot i x hx)).2 d ht
 refine ⟨h.hd,by simpa using h.hs,?_,fun _ _ hm=>hm,fun _ _ hm=>MX_lt h.inv hm,?_,?_,?_,fun d hd=>absurd hd (hlive d),fun d _ _ hd=>absurd hd (hlive d),fun d _ _ hd=>absurd hd (hlive d),Nat.le_refl _,rfl,rfl,rfl,fun _ _ _=>rfl⟩
 · intro i av hi
   obtain ⟨x,hx,rfl⟩:=hget i av hi
   exact (vw_ok (h.slot i x hx)).1
 · intro i av hi hh
   obtain ⟨x,hx,rfl⟩:=hget i av hi
   rw [vw_noHold] at hh;cases hh
 · intro i j x y hi hj hx
   obtain ⟨x',_,rfl⟩:=hget i x hi
   rw [vw_noHold] at hx;cases hx
 · intro i av s b hi hr
   obtain ⟨x,hx,rfl⟩:=hget i av hi
   rw [vw_noRf] at hr;cases hr
end
def valB:Builtin→Bool
 | .len | .cap | .append | .max | .min | .copy | .unsafeSliceData | .unsafeString=>true
 | _=>false
def valOp:Op→Bool
 | .move _ | .assign _ | .pick _ _ _ | .alloc _ | .box _ _ | .build _ _ | .buildSlice _ _ _ | .load _ _ | .binOp _ _ _ _ _ | .unOp _ _ _ | .convert _ _ _ | .makeSlice _ _ _ | .slice _ _ _ _ _ | .fieldAddr _ _ _ | .field _ _ _ | .indexAddr _ _ _
 | .index _ _ _ | .extract _ _=>true
 | .call { callee:=.builtin b,.. }=>valB b
 | _=>false
theorem val_result' {P:Program} {α:Type} {f:α→Value} {s:Sem α} {w w':World} {n:Next} (h:(s.bind (fun v=>.pure (.value (f v))):Sem Next).run P w=.ok n w'):∃ v,n=.value v:=by
 induction s generalizing w with
 | pure a=>simp only [Sem.bind,Sem.run,Result.ok.injEq] at h;exact ⟨f a,h.1.symm⟩
 | load m ad k ih=>
  simp only [Sem.bind,Sem.run] at h
  split at h
  · exact ih _ h
  · split at h
    · exact ih _ h
    · cases h
 | store m ad v k ih=>
  cases v<;>simp only [Sem.bind,Sem.run] at h<;>first | (cases h;done) | skip
  all_goals
   split at h
   · split at h
     · cases h
     · exact ih h
   · split at h
     · exact ih h
     · cases h
 | new ob k ih=>exact ih _ h
 | shape r k ih=>exact ih _ h
 | freeze ad n k ih=>exact ih h
 | frozen ad k ih=>exact ih _ h
 | getObj r k ih=>
  simp only [Sem.bind,Sem.run] at h
  split at h
  · cases h
  · exact ih _ h
  · cases h
 | setObj r ob k ih=>
  simp only [Sem.bind,Sem.run] at h
  split at h
  · cases h
  · exact ih h
  · cases h
 | choose q k ih=>
  simp only [Sem.bind,Sem.run] at h
  split at h
  · exact ih _ h
  · exact ih _ h
 | sys c k ih=>exact ih _ h
 | program k ih=>exact ih _ h
 | mark m k ih=>exact ih h
 | halt hh=>cases h
theorem val_result {P:Program} {s:Sem Value} {w w':World} {n:Next} (h:(do pure (.value (←s)):Sem Next).run P w=.ok n w'):∃ v,n=.value v:=
 val_result' (f:=id) h
theorem valOp_result {P:Program} {o:Oper} (hv:valOp o.op=true) {ρ:Operand→Value} {w w':World} {n:Next} (h:(execOp ρ o).run P w=.ok n w'):∃ v,n=.value v:=by
 unfold execOp at h
 unfold valOp at hv
 split at hv<;>first | (cases hv;done) | skip
 all_goals (rename_i heq;rw [heq] at h)
 case h_19 b xs ts=>
  have h:(builtin b ts o.type _ (xs.map ρ)).run P w=.ok n w':=h
  unfold valB at hv
  split at hv<;>first | (cases hv;done) | skip
  all_goals exact val_result h
 all_goals first
  | exact val_result h
  | exact val_result' (f:=fun b=>if b=true then ρ _ else ρ _) h
  | (simp only [Sem.run_pure,Result.ok.injEq] at h;exact ⟨_,h.1.symm⟩)
end Go.Hp

namespace Go.Hp
open Go Go.RowKit Go.Slot
variable {P:Program} {Γ:List (Nat×List Cell)}
theorem HStep.val {o:Oper} {σ:List SV} {η:List SB} {rd rh:List Nat} {d:Nat} {x:SV} {heff:List (Nat×SB)} (hdst:o.dst=some d)
 (hrun:∀(E:HEnv) (ρ:Nat→Value) (σ':List SV) (η':List SB) (a:Act) (w:World),agS rd σ σ'→agB rh η η'→RI Γ E ρ σ' η' a w→
   ∃ v w' ρ',(execOp a.eval o).run P w=.ok (.value v) w'∧Went Γ E.Mo ρ η' w ρ' (appL heff η') w'∧SVR (appL heff η') ρ' (MX E.Mo ρ' (appL heff η')) w' v x):HStep Γ P o σ η rd rh [(d,x)] heff:=by
 intro E ρ σ' η' a w hag hah hI K Q hK
 obtain ⟨v,w',ρ',hr,hw,hx⟩:=hrun E ρ σ' η' a w hag hah hI
 unfold Oper.wp
 rw [hr]
 show K (a.put o.dst v) w'
 rw [hdst]
 exact hK _ _ ρ' ((hI.go hw).put hx)
theorem HStep.pure {o:Oper} {σ:List SV} {η:List SB} {rd rh:List Nat} {d:Nat} {x:SV} (hdst:o.dst=some d)
 (hrun:∀(E:HEnv) (ρ:Nat→Value) (σ':List SV) (η':List SB) (a:Act) (w:World),agS rd σ σ'→agB rh η η'→RI Γ E ρ σ' η' a w→
   ∃ v,(execOp a.eval o).run P w=.ok (.value v) w∧SVR η' ρ (MX E.Mo ρ η') w v x):HStep Γ P o σ η rd rh [(d,x)] []:=
 HStep.val hdst (fun E ρ σ' η' a w hag hah hI=>by
  obtain ⟨v,h1,h2⟩:=hrun E ρ σ' η' a w hag hah hI
  exact ⟨v,w,ρ,h1,Went.refl hI.inv,h2⟩)
theorem HStep.skip {o:Oper} {σ:List SV} {η:List SB} {rd rh:List Nat} {heff:List (Nat×SB)} (hdst:o.dst=none)
 (hrun:∀(E:HEnv) (ρ:Nat→Value) (σ':List SV) (η':List SB) (a:Act) (w:World),agS rd σ σ'→agB rh η η'→RI Γ E ρ σ' η' a w→
   ∃ w' ρ',(execOp a.eval o).run P w=.ok .skip w'∧Went Γ E.Mo ρ η' w ρ' (appL heff η') w'):HStep Γ P o σ η rd rh [] heff:=by
 intro E ρ σ' η' a w hag hah hI K Q hK
 obtain ⟨w',ρ',hr,hw⟩:=hrun E ρ σ' η' a w hag hah hI
 unfold Oper.wp
 rw [hr]
 show K (a.put o.dst Go.undef) w'
 rw [hdst]
 exact hK _ _ ρ' (hI.go hw)
theorem agS.view {rd:List Nat} {σ σ':List SV} (h:agS rd σ σ'):agree rd (σ.map vw) (σ'.map vw):=
 ⟨by simp [h.1],fun r hr=>by rw [gt_map,gt_map,h.2 r hr]⟩
theorem RI.take {E:HEnv} {ρ:Nat→Value} {σ:List SV} {σv:List AV} {η:List SB} {a:Act} {w:World} (h:RI Γ E ρ σ η a w) {o:Oper} {d:Nat} {av:AV} {rd:List Nat} (hvo:valOp o.op=true) (hdst:o.dst=some d) (hlt:d<σ.length)
 (hst:AStep P o σv rd [] [(d,av)]) (hag:agree rd σv (σ.map vw)) :
 ∃ v w' M' τ tm,(execOp a.eval o).run P w=.ok (.value v) w'∧Below w.heap.size w w'∧(∀ b o,MX E.Mo ρ η b o→M' b o)∧SlotOk M' w' τ tm v av∧(av.holder=true→av.fresh=true→w.heap.size≤blk v∧∀ o,M' (blk v) o):=by
 have hA:=hst (envOf h) (σ.map vw) a w hag (by intro t ht;cases ht) ⟨_,_,h.old⟩ (fun a' w'=>Rel (envOf h) ((σ.map vw).set d av) a' w') (fun _ _ _=>False) (fun a' w' hR=>hR)
 unfold Oper.wp at hA
 cases hr:(execOp a.eval o).run P w with
 | halt hh w'=>
  rw [hr] at hA
  cases hh<;>exact hA.elim
 | ok n w'=>
  obtain ⟨v,rfl⟩:=valOp_result hvo hr
  rw [hr] at hA
  rw [Oper.upon_value,hdst] at hA
  obtain ⟨τ,M',hI⟩:=hA
  have hd:((σ.map vw).set d av)[d]? = some av:=by simp [hlt]
  have hs:=hI.slot d av hd
  have hlt':d<a.tmps.size:=by rw [h.hs];exact hlt
  have hself:(a.put (some d) v).tmps.getD d Go.undef=v:=by simp [Act.put,hlt']
  rw [hself] at hs
  refine ⟨v,w',M',τ,_,rfl,⟨hI.os,hI.tape,hI.output,hI.size,fun k hk=>hI.frame k hk (fun hx=>hx)⟩,hI.m0,hs,fun hh hf=>?_⟩
  have h1:=(hI.hold d av hd hh).2.2.1 hf
  have h2:=(hI.hold d av hd hh).1
  rw [hself] at h1 h2
  exact ⟨h1,h2⟩
def av2 (nb:Nat):AV→Option (SV×Option SB)
 | .one c=>some (.one (.dat c.bare),none)
 | .agg cs=>some (.agg ((bareL cs).map .dat),none)
 | .elt cs=>some (.elt cs,none)
 | .any=>some (.any,none)
 | .arr [] c none=>some (.one (.sl nb c.esz 0 c.cnt),some (.arr c 0 none))
 | _=>none
theorem RdL.hrl {η:List SB} {ρ:Nat→Value} {M M':Nat→Nat→Prop} {w:World} {τ:Nat→TV} (hM:∀ b o,M b o→M' b o):∀{vs:List Value} {cs:List Cell},RdL M' w τ vs cs→HRL η ρ M w vs ((bareL cs).map .dat)
 | [],[],_=>trivial
 | _::_,_::_,h=>⟨(RdT.bare h.1).keep (Keeps.shrink w hM),RdL.hrl hM h.2⟩
def oB (nb:Nat):Option SB→List (Nat×SB)
 | none=>[]
 | some x=>[(nb,x)]
def oN (nb:Nat):Option SB→List Nat
 | none=>[]
 | some _=>[nb]
def roomB (η:List SB) (nb:Nat):Bool:=match η[nb]? with
 | some .fresh=>true
 | _=>false
theorem roomB_spec {η:List SB} {nb:Nat} (h:roomB η nb=true):η[nb]? = some .fresh:=by
 unfold roomB at h
 split at h
 · assumption
 · cases h
theorem agB.room {rh:List Nat} {η η':List SB} (h:agB rh η η') {nb:Nat} (hb:nb∈rh) (hr:roomB η nb=true):η'[nb]? = some .fresh:=by
 rw [h.2 nb hb];exact roomB_spec hr
def roomO (η:List SB) (nb:Nat):Option SB→Bool
 | none=>true
 | some _=>roomB η nb
theorem s_old {o:Oper} {σ:List SV} {η:List SB} {nb d:Nat} {rd:List Nat} {av:AV} {x:SV} {ob:Option SB} (hvo:valOp o.op=true) (hdst:o.dst=some d) (hst:AStep P o (σ.map vw) rd [] [(d,av)])
 (hd:d<σ.length) (h2:av2 nb av=some (x,ob)) (hroom:roomO η nb ob=true):HStep Γ P o σ η rd (oN nb ob) [(d,x)] (oB nb ob):=by
 refine HStep.val hdst (fun E ρ σ' η' a w hag hah hI=>?_)
 obtain ⟨v,w',M',τ,tm,hrun,hb,hM,hs,hf⟩:=hI.take hvo hdst (by rw [hag.1];exact hd) hst hag.view
 have plain:ob=none→SVR η' ρ (MX E.Mo ρ η') w' v x→∃ v w' ρ',(execOp a.eval o).run P w=.ok (.value v) w'∧Went Γ E.Mo ρ η' w ρ' (appL (oB nb ob) η') w'∧SVR (appL (oB nb ob) η') ρ' (MX E.Mo ρ' (appL (oB nb ob) η')) w' v x:=fun e hx=>by
  subst e
  exact ⟨v,w',ρ,hrun,Went.below hI.inv hb,hx⟩
 unfold av2 at h2
 split at h2
 · rename_i c
   cases h2
   exact plain rfl ((RdT.bare hs).keep (Keeps.shrink w' hM))
 · rename_i cs
   cases h2
   obtain ⟨vs,e,hr⟩:=hs
   exact plain rfl ⟨vs,e,RdL.hrl hM hr⟩
 · rename_i cs
   cases h2
   obtain ⟨b,off,vs,e,hc,hr⟩:=hs
   exact plain rfl ⟨b,off,vs,e,fun j u hj=>⟨fun hm=>(hc j u hj).1 (hM _ _ hm),(hc j u hj).2⟩,hr.keep (Keeps.shrink w' hM)⟩
 · cases h2
   exact plain rfl trivial
 · rename_i c
   cases h2
   obtain ⟨b,T,vs,q,cap,rfl,hbk,hr,_,hu,hcap,hsz⟩:=hs
   have hfr:=hah.room (show nb∈oN nb (some (SB.arr c 0 none)) by simp [oN]) hroom
   have hge:w.heap.size≤b:=(hf rfl rfl).1
   have hlt:nb<η'.length:=(List.getElem?_eq_some_iff.1 hfr).1
   have hok:okB (η'.set nb (.arr c 0 none)) nb:=⟨_,by simp [hlt];rfl,by simp⟩
   refine ⟨_,w',upd ρ nb (.pointer (some ⟨b,0,none⟩)),hrun,Went.new hI.inv hb hfr (by simp) (fun _ _=>hge) (fun _=>⟨⟨hu,Nat.zero_le _⟩,.inr ⟨b,vs,q,T,rfl,by simpa using hbk,hr.keep (Keeps.shrink w' ?_),by simp⟩⟩),?_⟩
   · intro b' o' hm
     rcases hm with hm | ⟨i,y,hi,hy,hre,e⟩
     · exact hM _ _ (.inl hm)
     · rcases set_cases hi with ⟨rfl,rfl⟩ | ⟨hn,hi⟩
       · rw [upd_self] at e
         subst e
         exact (hf rfl rfl).2 o'
       · rw [upd_ne hn] at hre e
         exact hM _ _ (.inr ⟨i,y,hi,hy,hre,e⟩)
   · refine ⟨hok,_,cap,rfl,hcap,fun _=>⟨by rw [upd_self];simp [real],by rw [upd_self];simp [bk,blk],_,T,_,by rw [upd_self];exact hbk,?_⟩⟩
     simpa using hsz
 · cases h2
end Go.Hp

namespace Go.Hp
open Go Go.RowKit Go.Slot
variable {P:Program} {Γ:List (Nat×List Cell)}
theorem s_move {o:Oper} {σ:List SV} {η:List SB} {x:Operand} {d:Nat} (ho:o.op=.move x∨o.op=.assign x) (hdst:o.dst=some d):HStep Γ P o σ η (d::orr x) [] [(d,opdS Γ σ x)] []:=by
 refine HStep.pure hdst (fun E ρ σ' η' a w hag hah hI=>⟨a.eval x,?_,?_⟩)
 · rcases ho with ho | ho<;>simp [execOp,ho]
 · have:=hI.opd x
   rw [hag.opd (fun t ht=>by simp [ht])] at this
   exact this
def pickH (c x y:SV):Option SV:=match c with
 | .one (.dat (.raw (.bool true)))=>some x
 | .one (.dat (.raw (.bool false)))=>some y
 | _=>none
theorem s_pick {o:Oper} {σ:List SV} {η:List SB} {c x y:Operand} {d:Nat} (ho:o.op=.pick c x y) (hdst:o.dst=some d) {v:SV} (h:pickH (opdS Γ σ c) (opdS Γ σ x) (opdS Γ σ y)=some v) :
 HStep Γ P o σ η (d::(orr c++orr x++orr y)) [] [(d,v)] []:=by
 refine HStep.pure hdst (fun E ρ σ' η' a w hag hah hI=>?_)
 have hc:=hI.opd c
 have hx:=hI.opd x
 have hy:=hI.opd y
 rw [hag.opd (fun t ht=>by simp [ht])] at hc hx hy
 unfold pickH at h
 split at h
 · rename_i e
   rw [e] at hc
   have ec:a.eval c=.bool true:=RdC.raw_inv hc
   cases h
   exact ⟨a.eval x,by simp [execOp,ho,ec,asBool],hx⟩
 · rename_i e
   rw [e] at hc
   have ec:a.eval c=.bool false:=RdC.raw_inv hc
   cases h
   exact ⟨a.eval y,by simp [execOp,ho,ec,asBool],hy⟩
 · cases h
def cellsH:SV→Option (List HC)
 | .one h=>some [h]
 | .agg hs=>some hs
 | _=>none
theorem cellsH_ok {η:List SB} {ρ:Nat→Value} {M:Nat→Nat→Prop} {w:World} {v:Value} {x:SV} {hs:List HC} (hc:cellsH x=some hs) (h:SVR η ρ M w v x):HRL η ρ M w v.cells.toList hs:=by
 cases x with
 | one c=>
  cases hc
  have h1:v.cells=#[v]:=by
   have:=HRd.one h
   cases v<;>first | rfl | cases this
  rw [h1]
  exact ⟨h,trivial⟩
 | agg cs=>cases hc;obtain ⟨vs,rfl,h⟩:=h;simpa [Value.cells] using h
 | _=>cases hc
theorem s_newbox {o:Oper} {σ:List SV} {η:List SB} {rd rh:List Nat} {d nb:Nat} {T:TypeId} {hs:List HC} (hdst:o.dst=some d) (hroom:roomB η nb=true)
 (hrun:∀(E:HEnv) (ρ:Nat→Value) (σ':List SV) (η':List SB) (a:Act) (w:World),agS rd σ σ'→agB (nb::rh) η η'→RI Γ E ρ σ' η' a w→
   ∃ vs:List Value,(execOp a.eval o).run P w=.ok (.value (.pointer (some ⟨w.heap.size,0,none⟩))) (w.alloc (.cells vs.toArray T))∧HRL η' ρ (MX E.Mo ρ η') w vs hs) :
 HStep Γ P o σ η rd (nb::rh) [(d,.one (.ptr nb 0))] [(nb,.box hs (some T))]:=by
 refine HStep.val hdst (fun E ρ σ' η' a w hag hah hI=>?_)
 obtain ⟨vs,h1,h2⟩:=hrun E ρ σ' η' a w hag hah hI
 have hfr:=hah.room (by simp) hroom
 have hlt:nb<η'.length:=(List.getElem?_eq_some_iff.1 hfr).1
 have hb:Below w.heap.size w (w.alloc (.cells vs.toArray T)):=(Below.refl _ _).alloc (Nat.le_refl _) _
 refine ⟨_,_,upd ρ nb (.pointer (some ⟨w.heap.size,0,none⟩)),h1,Went.new hI.inv hb hfr (by simp) (fun _ _=>Nat.le_refl _) (fun m=>⟨w.heap.size,vs,T,rfl,heap_new w _,h2.mv m,fun t' ht=>by cases ht;rfl⟩),?_⟩
 exact ⟨⟨_,by simp [appL,hlt];rfl,by simp⟩,by rw [upd_self];rfl⟩
theorem zcells_hrl {η:List SB} {ρ:Nat→Value} {M:Nat→Nat→Prop} {w:World}:∀{l:List Value},(∀ v∈l,v.oneCell'=true)→HRL η ρ M w l ((l.map zcell).map .dat)
 | [],_=>trivial
 | v::l,h=>⟨zcell_ok (h v (by simp)),zcells_hrl (fun u hu=>h u (by simp [hu]))⟩
theorem s_alloc {o:Oper} {σ:List SV} {η:List SB} {T:TypeId} {d nb:Nat} (ho:o.op=.alloc T) (hdst:o.dst=some d) {ti:TI} (hti:mkTI P T=some ti) (hroom:roomB η nb=true) :
 HStep Γ P o σ η [d] [nb] [(d,.one (.ptr nb 0))] [(nb,.box (ti.zc.map .dat) (some T))]:=by
 refine s_newbox hdst hroom (fun E ρ σ' η' a w hag hah hI=>?_)
 obtain ⟨ds,i,z,hd,hi,hz,hsz,hby,hzs,hone,hzc,hsh⟩:=(mkTI_ok hti).ex
 refine ⟨z.cells.toList,?_,?_⟩
 · simp [execOp,ho,Instr.alloc,run_zeroValue' hi hz,newVar,newRow]
 · rw [hzc];exact zcells_hrl hone
theorem s_box {o:Oper} {σ:List SV} {η:List SB} {T:TypeId} {x:Operand} {d nb:Nat} (ho:o.op=.box T x) (hdst:o.dst=some d) {hs:List HC} (hcs:cellsH (opdS Γ σ x)=some hs) (hroom:roomB η nb=true) :
 HStep Γ P o σ η (d::orr x) [nb] [(d,.one (.ptr nb 0))] [(nb,.box hs (some T))]:=by
 refine s_newbox hdst hroom (fun E ρ σ' η' a w hag hah hI=>?_)
 have h:=hI.opd x
 rw [hag.opd (fun t ht=>by simp [ht])] at h
 refine ⟨(a.eval x).cells.toList,?_,cellsH_ok hcs h⟩
 simp [execOp,ho,Instr.box,newVar,newRow]
def loadHC (ti:TI) (hs:List HC):Option SV:=
 match ti.many with
 | some true=>if ti.size≤hs.length then some (.agg (hs.take ti.size)) else none
 | some false=>match hs with
  | h::_=>some (.one h)
  | []=>none
 | none=>none
def seeH (η:List SB):SV→Option (List Nat×List HC)
 | .one (.ptr b off)=>match gB η b with
  | .box hs _=>some ([b],hs.drop off)
  | _=>none
 | .one (.pel b es i f)=>match gB η b with
  | .arr c _ _=>if c.esz=es then (c.at i f).map fun cs=>([b],cs.map .dat) else none
  | _=>none
 | .elt cs=>some ([],cs.map .dat)
 | _=>none
theorem gB_some {η:List SB} {b:Nat} {x:SB} (h:gB η b=x) (hx:x≠.dead):η[b]? = some x:=by
 unfold gB at h
 cases hb:η[b]? with
 | none=>rw [hb] at h;exact absurd h.symm hx
 | some y=>rw [hb] at h;exact congrArg some h
theorem RI.sbr {E:HEnv} {ρ:Nat→Value} {σ:List SV} {η:List SB} {a:Act} {w:World} (h:RI Γ E ρ σ η a w) {b:Nat} {x:SB} (hx:gB η b=x) (hd:x≠.dead):SBR η ρ (MX E.Mo ρ η) w (ρ b) x:=
 h.inv.blk b x (gB_some hx hd)
theorem arr_cell {w:World} {b:Nat} {vs q:List Value} {T:TypeId} (h:w.heap[b]? = some (.cells (vs++q).toArray T (0,0))) {j:Nat} {u:Value} (hj:vs[j]? = some u):w.cell? ⟨b,j,none⟩=some u:=by
 have hlt:=(List.getElem?_eq_some_iff.1 hj).1
 simp only [World.cell?,h,Option.isSome_none,Bool.false_eq_true,if_false,List.getElem?_toArray]
 rw [List.getElem?_append_left hlt];exact hj
theorem seeH_ok {E:HEnv} {ρ:Nat→Value} {σ:List SV} {η:List SB} {a:Act} {w:World} (hI:RI Γ E ρ σ η a w) {v:Value} {x:SV} {rh:List Nat} {hs:List HC} (hx:SVR η ρ (MX E.Mo ρ η) w v x) (h:seeH η x=some (rh,hs)) :
 ∃(b off:Nat) (vs:List Value),v=.pointer (some ⟨b,off,none⟩)∧(∀ j u,vs[j]? = some u→w.cell? ⟨b,off+j,none⟩=some u)∧HRL η ρ (MX E.Mo ρ η) w vs hs:=by
 unfold seeH at h
 split at h
 · rename_i b off
   split at h
   · rename_i hs' T hb
     cases h
     obtain ⟨b',vs,T',e,hh,hr,_⟩:=hI.sbr hb (by simp)
     obtain ⟨_,rfl⟩:=hx
     rw [e]
     exact ⟨b',off,vs.drop off,rfl,box_cells hh off,hr.drop off⟩
   · cases h
 · rename_i b es i f
   split at h
   · rename_i c k T hb
     split at h
     · rename_i hes
       obtain ⟨cs,hat,e⟩:=Option.map_eq_some_iff.1 h
       cases e
       obtain ⟨⟨hu,_⟩,h0⟩:=hI.sbr hb (by simp)
       obtain ⟨hi,r,hfl⟩:=Cell.at_ok hu hat
       rcases h0 with ⟨h0,_⟩ | ⟨b',vs,q,T',e,hh,hr,_⟩
       · omega
       · obtain ⟨_,rfl⟩:=hx
         rw [e]
         have hr':=hr.drop (i*c.esz+f)
         rw [hfl] at hr'
         have ht:=hr'.take cs.length
         rw [List.take_left] at ht
         refine ⟨b',i*es+f,(vs.drop (i*c.esz+f)).take cs.length,rfl,fun j u hj=>?_,RdD.hrl ht⟩
         rw [List.getElem?_take] at hj
         split at hj
         · rw [List.getElem?_drop] at hj
           rw [←hes]
           exact arr_cell hh hj
         · cases hj
     · cases h
   · cases h
 · rename_i cs
   cases h
   obtain ⟨b,off,vs,rfl,hc,hr⟩:=hx
   exact ⟨b,off,vs,rfl,fun j u hj=>(hc j u hj).2,RdD.hrl hr⟩
 · cases h
theorem run_load {T:TypeId} {ti:TI} (hti:TIok P T ti) {w:World} {b off:Nat} {vs:List Value} {η:List SB} {ρ:Nat→Value} {M:Nat→Nat→Prop} {hs:List HC} {x:SV}
 (hc:∀ j u,vs[j]? = some u→w.cell? ⟨b,off+j,none⟩=some u) (hr:HRL η ρ M w vs hs) (hl:loadHC ti hs=some x) :
 ∃ v,(loadVar T ⟨b,off,none⟩).run P w=.ok v w∧SVR η ρ M w v x:=by
 unfold loadHC at hl
 have hadd:∀ j,(⟨b,off,none⟩:Addr).add j=⟨b,off+j,none⟩:=fun j=>by unfold Addr.add;split<;>simp_all
 split at hl
 · rename_i hm
   split at hl
   · rename_i hle
     cases hl
     obtain ⟨d,i,z,hd,hi,hz,hsz,hby,hzs,hone,hzc,hsh⟩:=hti.ex
     have hlen:=hr.length
     refine ⟨.agg (vs.take ti.size).toArray,?_,⟨vs.take ti.size,rfl,hr.take _⟩⟩
     have hld:=run_loadCells_list (P:=P) w ⟨b,off,none⟩ (vs.take ti.size) (fun j u hj=>by
      rw [hadd]
      refine hc j u ?_
      rw [List.getElem?_take] at hj
      split at hj
      · exact hj
      · cases hj)
     have hlt:(vs.take ti.size).length=ti.size:=by rw [List.length_take];omega
     rw [hlt] at hld
     unfold loadVar
     simp only [Sem.run_bind,hti.run_agg hm,Result.andThen_ok,if_true,run_sizeOf' hi,hsz,hld,Sem.run_pure]
   · cases hl
 · rename_i hm
   split at hl
   · rename_i c cs'
     cases hl
     cases vs with
     | nil=>exact hr.elim
     | cons v vs=>
      refine ⟨v,?_,hr.1⟩
      have:=hc 0 v rfl
      unfold loadVar
      simp only [Sem.run_bind,hti.run_agg hm,Result.andThen_ok,Bool.false_eq_true,if_false]
      simp only [Nat.add_zero] at this
      simp [load,Sem.run,this]
   · cases hl
 · cases hl
theorem seeH_congr {η η':List SB} {x:SV} {rh:List Nat} {hs:List HC} (h:seeH η x=some (rh,hs)) (ha:∀ b∈rh,gB η' b=gB η b):seeH η' x=some (rh,hs):=by
 unfold seeH at h ⊢
 split at h
 · rename_i b off
   have e:gB η' b=gB η b:=by
    split at h
    · cases h;exact ha b (by simp)
    · cases h
   simp only [e];exact h
 · rename_i b es i f
   have e:gB η' b=gB η b:=by
    split at h
    · split at h
      · obtain ⟨cs,hat,e⟩:=Option.map_eq_some_iff.1 h
        cases e
        exact ha b (by simp)
      · cases h
    · cases h
   simp only [e];exact h
 · exact h
 · cases h
theorem s_load {o:Oper} {σ:List SV} {η:List SB} {T:TypeId} {x:Operand} {d:Nat} (ho:o.op=.load T x) (hdst:o.dst=some d) {ti:TI} (hti:mkTI P T=some ti) {rh:List Nat} {hs:List HC} {v:SV}
 (hs':seeH η (opdS Γ σ x)=some (rh,hs)) (hl:loadHC ti hs=some v):HStep Γ P o σ η (d::orr x) rh [(d,v)] []:=by
 refine HStep.pure hdst (fun E ρ σ' η' a w hag hah hI=>?_)
 have hx:=hI.opd x
 rw [hag.opd (fun t ht=>by simp [ht])] at hx
 obtain ⟨b,off,vs,e,hc,hr⟩:=seeH_ok hI hx (seeH_congr hs' (fun b hb=>hah.gB hb))
 obtain ⟨u,h1,h2⟩:=run_load (mkTI_ok hti) hc hr hl
 refine ⟨u,?_,h2⟩
 simp [execOp,ho,Instr.loadAt,e,Instr.sureAddr,h1]
def storeH (η:List SB) (n:Nat) (x:SV) (us:List HC):Option (Nat×SB):=match x with
 | .one (.ptr b off)=>match gB η b with
  | .box hs T=>if off+n≤hs.length then some (b,.box (hs.take off++us++hs.drop (off+n)) T) else none
  | _=>none
 | .one (.pel b es i f)=>match gB η b with
  | .arr c 0 T=>if c.esz=es then match datL us with
   | some cs=>(c.upd i f cs).map fun c'=>(b,.arr c' 0 T)
   | none=>none
   else none
  | _=>none
 | _=>none
theorem storeH_congr {η η':List SB} {n:Nat} {x:SV} {us:List HC} {b:Nat} {y:SB} (h:storeH η n x us=some (b,y)) (ha:gB η' b=gB η b):storeH η' n x us=some (b,y):=by
 unfold storeH at h ⊢
 split at h
 · rename_i b' off
   have e:b'=b:=by
    split at h
    · split at h<;>cases h;rfl
    · cases h
   subst e
   simp only [ha];exact h
 · rename_i b' es i f
   have e:b'=b:=by
    split at h
    · split at h
      · split at h
        · obtain ⟨c',_,e⟩:=Option.map_eq_some_iff.1 h
          cases e;rfl
        · cases h
      · cases h
    · cases h
   subst e
   simp only [ha];exact h
 · cases h
theorem grow_setRow {w:World} {b:Nat} {old cs:Array Value} {T:TypeId} {fz:Nat×Nat} (hb:w.heap[b]? = some (.cells old T fz)) (hsz:old.size≤cs.size):Grow w (w.setRow b cs):=fun i arr T' fz' hi=>by
 by_cases e:i=b
 · subst e
   rw [hb] at hi;cases hi
   exact ⟨cs,T,fz,setRow_heap w i _ cs T fz hb,hsz⟩
 · exact ⟨arr,T',fz',by rw [setRow_other w b i cs e];exact hi,Nat.le_refl _⟩
theorem s_store {o:Oper} {σ:List SV} {η:List SB} {T:TypeId} {x y:Operand} (ho:o.op=.store T x y) (hdst:o.dst=none) {ti:TI} (hti:mkTI P T=some ti) {us:List HC} {b:Nat} {z:SB}
 (hu:cellsH (opdS Γ σ y)=some us) (hlen:us.length=ti.size) (hst:storeH η ti.size (opdS Γ σ x) us=some (b,z)):HStep Γ P o σ η (orr x++orr y) [b] [] [(b,z)]:=by
 refine HStep.skip hdst (fun E ρ σ' η' a w hag hah hI=>?_)
 have hx:=hI.opd x
 have hy:=hI.opd y
 rw [hag.opd (fun t ht=>by simp [ht])] at hx hy
 have hst:=storeH_congr hst (hah.gB (by simp))
 have hr:=cellsH_ok hu hy
 have hsz:(a.eval y).cells.size=ti.size:=by rw [←hlen,←hr.length];simp
 unfold storeH at hst
 split at hst
 · rename_i b' off hxe
   split at hst
   · rename_i hs T' hb
     split at hst
     · rename_i hfit
       cases hst
       rw [hxe] at hx
       obtain ⟨bb,vs,Tb,e,hh,hrb,hT⟩:=hI.sbr hb (by simp)
       have hvl:=hrb.length
       have hrun:=run_storeVar_at (P:=P) (mkTI_ok hti) hh hsz hr.ones (off:=off) (by omega)
       obtain ⟨_,hx⟩:=hx
       have hbk:bk (ρ b)=bb:=by rw [e];rfl
       rw [hbk] at hx
       refine ⟨w.setRow bb (vs.take off++(a.eval y).cells.toList++vs.drop (off+ti.size)).toArray,ρ,?_,Went.write hI.inv (gB_some hb (by simp)) rfl (by rw [e];simp [real]) rfl (fun o=>Iff.rfl) (by simp [World.setRow]) rfl rfl rfl (fun k hk=>setRow_other w bb k _ (by rw [←hbk];exact hk)) (grow_setRow hh ?_) (fun o u hm=>absurd trivial hm) (fun m=>?_)⟩
       · simp [execOp,ho,Instr.storeAt,hx,Instr.sureAddr,hrun]
       · simp only [List.size_toArray,List.length_append,List.length_take,List.length_drop,Array.length_toList];omega
       · refine ⟨bb,_,Tb,e,setRow_heap w bb _ _ Tb (0,0) hh,?_,hT⟩
         exact (((hrb.take off).append hr).append (hrb.drop (off+ti.size))).mv m
     · cases hst
   · cases hst
 · rename_i b' es i f hxe
   split at hst
   · rename_i c T' hb
     split at hst
     · rename_i hes
       subst hes
       split at hst
       · rename_i cs hcs
         obtain ⟨c',hupd,e⟩:=Option.map_eq_some_iff.1 hst
         cases e
         rw [hxe] at hx
         obtain ⟨⟨hun,_⟩,h0⟩:=hI.sbr hb (by simp)
         obtain ⟨hun',hcnt,hesz,hfit,hflat⟩:=Cell.upd_ok hun hupd
         have hrd:=HRL.dat hr hcs
         have hcl:=hrd.length
         have hcl2:cs.length=ti.size:=by rw [←hcl];simpa using hsz
         rcases h0 with ⟨h0,_⟩ | ⟨bb,vs,q,Tb,e,hh,hrb,hT⟩
         · exfalso
           unfold Cell.upd at hupd
           split at hupd
           · split at hupd
             · split at hupd
               · rename_i hc;simp [Cell.cnt] at h0;simp [h0] at hc
               · cases hupd
             · cases hupd
           · split at hupd
             · rename_i hc;simp [Cell.cnt] at h0;simp [h0] at hc
             · cases hupd
           · cases hupd
         · have hvl:=hrb.length
           have hfl:=Cell.flat_len hun
           obtain ⟨_,hx⟩:=hx
           have hbk:bk (ρ b)=bb:=by rw [e];rfl
           rw [hbk] at hx
           have hrun:=run_storeVar_at (P:=P) (mkTI_ok hti) hh hsz hr.ones (off:=i*c.esz+f) (by simp only [List.length_append];omega)
           refine ⟨w.setRow bb ((vs++q).take (i*c.esz+f)++(a.eval y).cells.toList++(vs++q).drop (i*c.esz+f+ti.size)).toArray,ρ,?_,Went.write hI.inv (gB_some hb (by simp)) rfl (by rw [e];simp [real]) rfl (fun o=>Iff.rfl) (by simp [World.setRow]) rfl rfl rfl (fun k hk=>setRow_other w bb k _ (by rw [←hbk];exact hk)) (grow_setRow hh ?_) (fun o u hm=>absurd (Nat.zero_le o) hm) (fun m=>?_)⟩
           · simp [execOp,ho,Instr.storeAt,hx,Instr.sureAddr,hrun]
           · have:=hcl2
             simp only [List.size_toArray,List.length_append,List.length_take,List.length_drop,Array.length_toList];omega
           · have hsplit:(vs++q).take (i*c.esz+f)++(a.eval y).cells.toList++(vs++q).drop (i*c.esz+f+ti.size)=(vs.take (i*c.esz+f)++(a.eval y).cells.toList++vs.drop (i*c.esz+f+ti.size))++q:=by
              rw [List.take_append_of_le_length (by omega),List.drop_append_of_le_length (by omega)]
              simp [List.append_assoc]
             refine ⟨⟨hun',Nat.zero_le _⟩,.inr ⟨bb,_,q,Tb,e,by rw [setRow_heap w bb _ _ Tb (0,0) hh,hsplit],?_,hT⟩⟩
             rw [hflat]
             have:=((hrb.take (i*c.esz+f)).append hrd).append (hrb.drop (i*c.esz+f+ti.size))
             rw [hcl2]
             exact this.keep m.keep
       · cases hst
     · cases hst
   · cases hst
 · cases hst
def fieldAddrH (x:SV) (off:Nat):Option SV:=match x with
 | .one (.ptr b o)=>some (.one (.ptr b (o+off)))
 | .one (.pel b es i f)=>some (.one (.pel b es i (f+off)))
 | .elt cs=>some (.elt (cs.drop off))
 | _=>none
theorem s_fieldAddr {o:Oper} {σ:List SV} {η:List SB} {S:TypeId} {x:Operand} {f d:Nat} (ho:o.op=.fieldAddr S x f) (hdst:o.dst=some d) {ti:TI} (hti:mkTI P S=some ti) {fs:List (Nat×Nat×TypeId)} (hs:ti.sh=.struct fs)
 {off sz:Nat} {ft:TypeId} (hf:fs[f]? = some (off,sz,ft)) {v:SV} (h:fieldAddrH (opdS Γ σ x) off=some v):HStep Γ P o σ η (d::orr x) [] [(d,v)] []:=by
 refine HStep.pure hdst (fun E ρ σ' η' a w hag hah hI=>?_)
 have hx:=hI.opd x
 rw [hag.opd (fun t ht=>by simp [ht])] at hx
 have key:∀ b oo,a.eval x=.pointer (some ⟨b,oo,none⟩)→(execOp a.eval o).run P w=.ok (.value (.pointer (some ⟨b,oo+off,none⟩))) w:=fun b oo e=>by
  have:=run_fieldAt (P:=P) (mkTI_ok hti) hs hf w b oo
  simp [execOp,ho,e,this]
 unfold fieldAddrH at h
 split at h
 · rename_i b oo e
   cases h
   rw [e] at hx
   exact ⟨_,key _ _ hx.2,hx.1,rfl⟩
 · rename_i b es i ff e
   cases h
   rw [e] at hx
   exact ⟨_,key _ _ hx.2,hx.1,by rw [Nat.add_assoc]⟩
 · rename_i cs e
   cases h
   rw [e] at hx
   obtain ⟨b,oo,vs,hv,hc,hr⟩:=hx
   refine ⟨_,key _ _ hv,b,oo+off,vs.drop off,rfl,fun j u hj=>?_,hr.drop off⟩
   rw [List.getElem?_drop] at hj
   have:=hc (off+j) u hj
   rw [show oo+off+j=oo+(off+j) by omega]
   exact this
 · cases h
def indexAddrH (sh:Sh) (x y:SV):Option SV:=match y with
 | .one (.dat (.raw (.int _ n)))=>if 0≤n then match sh with
  | .slice _ es _ _=>match x with
   | .one (.sl b es' lo k)=>if es=es'∧n.toNat<k then some (.one (.pel b es (lo+n.toNat) 0)) else none
   | _=>none
  | .array m _ es=>match x with
   | .one (.ptr b o)=>if n.toNat<m∧es≠0 then some (.one (.ptr b (o+n.toNat*es))) else none
   | .elt cs=>if n.toNat<m∧es≠0 then some (.elt (cs.drop (n.toNat*es))) else none
   | _=>none
  | _=>none
  else none
 | _=>none
theorem s_indexAddr {o:Oper} {σ:List SV} {η:List SB} {T:TypeId} {x y:Operand} {d:Nat} (ho:o.op=.indexAddr T x y) (hdst:o.dst=some d) {ti:TI} (hti:mkTI P T=some ti) {v:SV}
 (h:indexAddrH ti.sh (opdS Γ σ x) (opdS Γ σ y)=some v):HStep Γ P o σ η (d::(orr x++orr y)) [] [(d,v)] []:=by
 refine HStep.pure hdst (fun E ρ σ' η' a w hag hah hI=>?_)
 have hx:=hI.opd x
 have hy:=hI.opd y
 rw [hag.opd (fun t ht=>by simp [ht])] at hx hy
 have hok:=mkTI_ok hti
 unfold indexAddrH at h
 split at h
 · rename_i kk n ey
   rw [ey] at hy
   have hye:a.eval y=.int kk n:=RdC.raw_inv hy
   split at h
   · rename_i h0
     split at h
     · rename_i e es eb ik hsh
       split at h
       · rename_i b es' lo k ex
         split at h
         · rename_i hc
           obtain ⟨rfl,hn⟩:=hc
           cases h
           rw [ex] at hx
           obtain ⟨hob,ad,cap,hv,hle,hcap⟩:=hx
           obtain ⟨_,had,_⟩:=hcap (by omega)
           subst had
           refine ⟨.pointer (some ⟨bk (ρ b),(lo+n.toNat)*es+0,none⟩),?_,hob,rfl⟩
           have:=Slot.run_indexAt_slice (P:=P) hok hsh w (bk (ρ b)) (lo*es) k cap kk n h0 hn
           simp only [execOp,ho,hv,hye]
           rw [show (lo+n.toNat)*es+0=lo*es+n.toNat*es by rw [Nat.add_mul];omega]
           simp [this]
         · cases h
       · cases h
     · rename_i m e es hsh
       obtain ⟨dd,i,z,hd,hi,hz,hsz',hby,hzs,hone,hzc,hsh'⟩:=hok.ex
       obtain ⟨rfl,hes⟩:=shOf_array (hsh'.symm.trans hsh)
       have key:∀ b oo,a.eval x=.pointer (some ⟨b,oo,none⟩)→n.toNat<m→es≠0→(execOp a.eval o).run P w=.ok (.value (.pointer (some ⟨b,oo+n.toNat*es,none⟩))) w:=fun b oo e1 hn hes0=>by
        have hlt:n<(m:Int):=by omega
        obtain ⟨j,hj,hjs⟩:=cellsOf_info (P:=P) (t:=e) (by rw [←hes];exact hes0)
        simp only [execOp,ho,e1,hye];unfold Instr.indexAt;simp [asIntOf,run_underlying' hd,h0,hlt,Instr.sureAddr,run_sizeOf' hj,hjs,hes,addr_add]
       split at h
       · rename_i b oo ex
         split at h
         · rename_i hc
           cases h
           rw [ex] at hx
           exact ⟨_,key _ _ hx.2 hc.1 hc.2,hx.1,rfl⟩
         · cases h
       · rename_i cs ex
         split at h
         · rename_i hc
           cases h
           rw [ex] at hx
           obtain ⟨b,oo,vs,hv,hcc,hr⟩:=hx
           refine ⟨_,key _ _ hv hc.1 hc.2,b,oo+n.toNat*es,vs.drop (n.toNat*es),rfl,fun j u hj=>?_,hr.drop _⟩
           rw [List.getElem?_drop] at hj
           have:=hcc (n.toNat*es+j) u hj
           rw [show oo+n.toNat*es+j=oo+(n.toNat*es+j) by omega]
           exact this
         · cases h
       · cases h
     · cases h
   · cases h
 · cases h
def extractH (x:SV) (n:Nat):Option SV:=match x with
 | .tup l=>l[n]?
 | _=>none
theorem s_extract {o:Oper} {σ:List SV} {η:List SB} {x:Operand} {n d:Nat} (ho:o.op=.extract x n) (hdst:o.dst=some d) {v:SV} (h:extractH (opdS Γ σ x) n=some v):HStep Γ P o σ η (d::orr x) [] [(d,v)] []:=by
 refine HStep.pure hdst (fun E ρ σ' η' a w hag hah hI=>?_)
 have hx:=hI.opd x
 rw [hag.opd (fun t ht=>by simp [ht])] at hx
 unfold extractH at h
 split at h
 · rename_i l e
   rw [e] at hx
   obtain ⟨vs,hv,hr⟩:=hx
   obtain ⟨u,h1,h2⟩:=hr.get n v h
   refine ⟨u,?_,SVR.of0 h2⟩
   simp [execOp,ho,hv,Instr.extract,h1]
 · cases h
def ptrH:SV→Bool
 | .one (.ptr _ _) | .one (.pel _ _ _ _) | .elt _=>true
 | _=>false
theorem s_nilCheck {o:Oper} {σ:List SV} {η:List SB} {x:Operand} {d:Nat} (ho:o.op=.nilCheck x) (hdst:o.dst=some d) (h:ptrH (opdS Γ σ x)=true):HStep Γ P o σ η (d::orr x) [] [(d,opdS Γ σ x)] []:=by
 refine HStep.pure hdst (fun E ρ σ' η' a w hag hah hI=>?_)
 have hx:=hI.opd x
 rw [hag.opd (fun t ht=>by simp [ht])] at hx
 have hv:∃ ad,a.eval x=.pointer (some ad):=by
  generalize opdS Γ σ x=s at h hx
  unfold ptrH at h
  split at h
  · exact ⟨_,hx.2⟩
  · exact ⟨_,hx.2⟩
  · obtain ⟨b,oo,vs,e,_⟩:=hx;exact ⟨_,e⟩
  · cases h
 obtain ⟨ad,hv⟩:=hv
 exact ⟨a.eval x,by simp [execOp,ho,hv],hx⟩
def lenH (η:List SB) (sh:Sh):SV→Option (List Nat×Nat)
 | .one (.sl _ _ _ n)=>match sh with
  | .slice _ _ _ _=>some ([],n)
  | _=>none
 | .one (.mp b)=>match sh with
  | .map _ _=>match gB η b with
   | .map es=>some ([b],es.length)
   | _=>none
  | _=>none
 | _=>none
theorem EnR.length {η:List SB} {ρ:Nat→Value} {M:Nat→Nat→Prop} {w:World}:∀{es:List MapEntry} {l:List (Value×SV)},EnR η ρ M w es l→es.length=l.length
 | [],[],_=>rfl
 | _::_,_::_,h=>by simp [h.2.length]
theorem shOf_map {d:TypeDesc} {k e:TypeId} (h:shOf P d=.map k e):d=.map k e:=by
 unfold shOf at h
 split at h<;>first | (cases h;done) | (cases h;rfl) | skip
 · split at h<;>cases h
 · split at h
   · split at h
     · split at h<;>cases h
     · cases h
   · cases h
theorem exec_len {o:Oper} {b:Builtin} {ρ:Operand→Value} {xs:Array Operand} {ts:Array TypeId} (ho:o.op=.call { callee:=.builtin b,args:=xs,argTypes:=ts }) :
 execOp ρ o=builtin b ts o.type (xs.map fun | .const _=>true | _=>false) (xs.map ρ):=by
 unfold execOp
 rw [ho]
 rfl
theorem s_len {o:Oper} {σ:List SV} {η:List SB} {T:TypeId} {x:Operand} {d:Nat} (ho:o.op=.call { callee:=.builtin .len,args:=#[x],argTypes:=#[T] }) (hdst:o.dst=some d) {ti:TI} (hti:mkTI P T=some ti) {rh:List Nat} {n:Nat}
 (h:lenH η ti.sh (opdS Γ σ x)=some (rh,n)):HStep Γ P o σ η (d::orr x) rh [(d,.one (.dat (.raw (.int .i64 (n:Int)))))] []:=by
 refine HStep.pure hdst (fun E ρ σ' η' a w hag hah hI=>⟨_,?_,RdC.raw rfl⟩)
 have hx:=hI.opd x
 rw [hag.opd (fun t ht=>by simp [ht])] at hx
 have hok:=mkTI_ok hti
 unfold lenH at h
 split at h
 · rename_i b es lo k e
   split at h
   · rename_i e' es' eb ik hsh
     cases h
     rw [e] at hx
     obtain ⟨_,ad,cap,hv,_⟩:=hx
     have hrun:=Slot.run_len_slice (P:=P) hok hsh o.type ad n cap w
     rw [exec_len ho,show (#[x]:Array Operand).map a.eval=#[a.eval x] from by simp]
     have:∀ cs,(builtin .len #[T] o.type cs #[a.eval x]).run P w=.ok (.value (.int .i64 n)) w:=fun cs=>by
      rw [hv]
      simp only [builtin,Sem.run_bind,hrun]
      rfl
     exact this _
   · cases h
 · rename_i b e
   split at h
   · rename_i k ee hsh
     split at h
     · rename_i es hb
       cases h
       rw [e] at hx
       have hb':gB η' b=.map es:=by rw [hah.gB (by simp)];exact hb
       obtain ⟨bb,ents,clk,he,hh,hen⟩:=hI.sbr hb' (by simp)
       obtain ⟨dd,i,z,hd,hi,hz,hsz',hby,hzs,hone,hzc,hsh'⟩:=hok.ex
       have hmap:=shOf_map (hsh'.symm.trans hsh)
       subst hmap
       have hl:=hen.length
       have hv:a.eval x=.map (some bb):=by rw [hx.2.1,he]
       rw [exec_len ho,show (#[x]:Array Operand).map a.eval=#[a.eval x] from by simp]
       have:∀ cs,(builtin .len #[T] o.type cs #[a.eval x]).run P w=.ok (.value (.int .i64 es.length)) w:=fun cs=>by
        rw [hv]
        rw [←hl]
        simp [builtin,Builtin.len_,run_underlying' hd,getObj,Sem.run,hh,goInt]
       exact this _
     · cases h
   · cases h
 · cases h
def natH:SV→Option Nat
 | .one (.dat (.raw (.int _ n)))=>if 0≤n then some n.toNat else none
 | _=>none
def boundH (Γ:List (Nat×List Cell)) (σ:List SV) (d:Nat):Option Operand→Option Nat
 | none=>some d
 | some x=>natH (opdS Γ σ x)
theorem natH_ok {η:List SB} {ρ:Nat→Value} {M:Nat→Nat→Prop} {w:World} {v:Value} {x:SV} {n:Nat} (h:SVR η ρ M w v x) (hn:natH x=some n):∃ k,v=.int k n:=by
 unfold natH at hn
 split at hn
 · rename_i k m
   split at hn
   · rename_i h0
     cases hn
     refine ⟨k,?_⟩
     rw [RdC.raw_inv h]
     rw [Int.toNat_of_nonneg h0]
   · cases hn
 · cases hn
def sliceH (Γ:List (Nat×List Cell)) (σ:List SV) (sh:Sh) (x:SV) (lo hi:Option Operand):Option SV:=match sh,x with
 | .slice _ es _ _,.one (.sl b es' l0 n)=>match boundH Γ σ 0 lo,boundH Γ σ n hi with
  | some l,some h=>if es=es'∧l≤h∧h≤n then some (.one (.sl b es (l0+l) (h-l))) else none
  | _,_=>none
 | _,_=>none
theorem s_slice {o:Oper} {σ:List SV} {η:List SB} {T:TypeId} {x:Operand} {lo hi:Option Operand} {d:Nat} (ho:o.op=.slice T x lo hi none) (hdst:o.dst=some d) {ti:TI} (hti:mkTI P T=some ti) {v:SV}
 (h:sliceH Γ σ ti.sh (opdS Γ σ x) lo hi=some v):HStep Γ P o σ η (d::(orr x++orrO lo++orrO hi)) [] [(d,v)] []:=by
 refine HStep.pure hdst (fun E ρ σ' η' a w hag hah hI=>?_)
 have hx:=hI.opd x
 rw [hag.opd (fun t ht=>by simp [ht])] at hx
 have hok:=mkTI_ok hti
 unfold sliceH at h
 split at h
 · rename_i e es eb ik b es' l0 n hsh ex
   split at h
   · rename_i l hh hl hh'
     split at h
     · rename_i hc
       obtain ⟨rfl,h1,h2⟩:=hc
       cases h
       rw [ex] at hx
       obtain ⟨hob,ad,cap,hv,hle,hcap⟩:=hx
       obtain ⟨dd,i,z,hd,hi',hz,hsz',hby,hzs,hone,hzc,hsh'⟩:=hok.ex
       obtain ⟨rfl,j,z',hj,_,hjs,_,hes0,_⟩:=shOf_slice (hsh'.symm.trans hsh)
       have hlo:match (lo.map a.eval) with | none=>l=0 | some v=>∃ k,v=.int k l:=by
        cases lo with
        | none=>simp only [boundH,Option.some.injEq] at hl;exact hl.symm
        | some y=>
         have hy:=hI.opd y
         rw [hag.opd (fun t ht=>by simp [orrO,ht])] at hy
         exact natH_ok hy hl
       have hhi:match (hi.map a.eval) with | none=>hh=n | some v=>∃ k,v=.int k hh:=by
        cases hi with
        | none=>simp only [boundH,Option.some.injEq] at hh';exact hh'.symm
        | some y=>
         have hy:=hI.opd y
         rw [hag.opd (fun t ht=>by simp [orrO,ht])] at hy
         exact natH_ok hy hh'
       have hb:=run_bounds (P:=P) (isS:=true) (len:=n) (cap:=cap) hlo hhi h1 (Nat.le_trans h2 hle) w
       refine ⟨.slice (if cap=l then ad else ad.map (·.add (l*es))) (hh-l) (cap-l),?_,hob,_,_,rfl,by omega,fun h0=>?_⟩
       · cases ad with
         | none=>simp [execOp,ho,hv,Instr.sliceAt,run_underlying' hd,Instr.slice,hb,run_sizeOf' hj,hjs]
         | some ad=>simp [execOp,ho,hv,Instr.sliceAt,run_underlying' hd,Instr.slice,hb,run_sizeOf' hj,hjs]
       · obtain ⟨hre,had,arr,T',fz,hheap,hsz⟩:=hcap (by omega)
         subst had
         refine ⟨hre,?_,arr,T',fz,hheap,?_⟩
         · rw [if_neg (by omega)]
           simp [addr_add,Nat.add_mul]
         · rw [show l0+l+(cap-l)=l0+cap by omega];exact hsz
     · cases h
   · cases h
 · cases h
end Go.Hp

namespace Go.Hp
open Go Go.RowKit Go.Slot
variable {P:Program} {Γ:List (Nat×List Cell)}
def frzB:SB→SB
 | .arr c _ T=>.arr c (c.cnt*c.esz) T
 | x=>x
def frzE (η:List SB) (bs:List Nat):List (Nat×SB):=bs.map fun b=>(b,frzB (gB η b))
def isArr:SB→Bool
 | .arr _ _ _=>true
 | _=>false
def subC (c:Cell) (lo n:Nat):Cell:=match lo==0&&n==c.cnt with
 | true=>c
 | false=>c.sub lo n
def toDat (η:List SB):HC→Option (Cell×List Nat)
 | .dat c=>some (c,[])
 | .sl b es lo n=>match gB η b with
  | .arr c _ _=>if c.esz=es∧lo+n≤c.cnt then some (subC c lo n,[b]) else none
  | _=>none
 | _=>none
def toDatL (η:List SB):List HC→Option (List Cell×List Nat)
 | []=>some ([],[])
 | h::r=>match toDat η h,toDatL η r with
  | some (c,bs),some (cs,bs')=>some (c::cs,bs++bs')
  | _,_=>none
theorem subC_eq {c:Cell} {lo n:Nat} (_h:lo+n≤c.cnt):(lo=0∧n=c.cnt∧subC c lo n=c)∨subC c lo n=c.sub lo n:=by
 unfold subC
 split
 · rename_i e
   simp only [Bool.and_eq_true,beq_iff_eq] at e
   exact .inl ⟨e.1,e.2,rfl⟩
 · exact .inr rfl
theorem arr_data {M:Nat→Nat→Prop} {w:World} {b cap:Nat} {vs q:List Value} {T:TypeId} {c:Cell} (hb:w.heap[b]? = some (.cells (vs++q).toArray T (0,0))) (hr:RdD M w vs c.flat) (hu:c.uni)
 (hcap:c.cnt≤cap) (hM:∀ o,o<vs.length→¬M b o):RdC M w (.slice (some ⟨b,0,none⟩) c.cnt cap) c:=by
 cases c with
 | ints k l=>
  refine .ints b 0 rfl hcap (fun _=>rfl) (fun i hi=>?_)
  obtain ⟨v,hv,hrv⟩:=hr.get i (.raw (.int k l[i])) (by simp [Cell.flat,hi])
  rw [RdC.raw_inv hrv] at hv
  rw [Nat.zero_add]
  exact ⟨hM _ (List.getElem?_eq_some_iff.1 hv).1,arr_cell hb hv⟩
 | sl n rows=>
  have hu:∀ r∈rows,r.length=n:=hu
  have key:∀ i (hi:i<rows.length) j,j<n→∃ v,vs[i*n+j]? = some v∧∀ hj':j<rows[i].length,RdC M w v (rows[i][j]'hj'):=fun i hi j hj=>by
   have hlen:=hu _ (List.getElem_mem hi)
   obtain ⟨v,hv,hrv⟩:=hr.get (i*n+j) (rows[i][j]'(by omega)) (by
    simp only [Cell.flat]
    rw [flatten_get rows i j hu hi hj]
    have:rows.getD i []=rows[i]:=by simp [hi]
    rw [this]
    simp [hlen,hj])
   exact ⟨v,hv,fun _=>hrv⟩
  refine .sl b 0 (fun i j=>(vs[i*n+j]?).getD Go.undef) rfl hcap (fun _=>rfl) hu (fun i hi j hj=>?_) (fun i hi j hj=>?_)
  · obtain ⟨v,hv,_⟩:=key i hi j hj
    rw [hv,Nat.zero_add]
    exact ⟨hM _ (List.getElem?_eq_some_iff.1 hv).1,arr_cell hb hv⟩
  · have hlen:=hu _ (List.getElem_mem hi)
    obtain ⟨v,hv,hrv⟩:=key i hi j (by omega)
    rw [hv]
    exact hrv hj
 | _=>exact hu.elim
theorem RdC.empty {M:Nat→Nat→Prop} {w:World} {ad:Option Addr} {cap:Nat} {c:Cell} (hu:c.uni) (h0:c.cnt=0):RdC M w (.slice ad 0 cap) c:=by
 cases c with
 | ints k l=>
  have:l=[]:=List.eq_nil_of_length_eq_zero h0
  subst this
  exact .ints 0 0 rfl (Nat.zero_le _) (fun h=>absurd rfl h) (fun i hi=>absurd hi (by simp))
 | sl n rows=>
  have:rows=[]:=List.eq_nil_of_length_eq_zero h0
  subst this
  exact .sl 0 0 (fun _ _=>Go.undef) rfl (Nat.zero_le _) (fun h=>absurd rfl h) (fun r hr=>by cases hr) (fun i hi=>absurd hi (by simp)) (fun i hi=>absurd hi (by simp))
 | _=>exact hu.elim
theorem Cell.sub_uni {c:Cell} (hu:c.uni) {lo n:Nat}:(c.sub lo n).uni:=by
 cases c with
 | ints k l=>trivial
 | sl m rows=>exact fun r hr=>hu r (List.mem_of_mem_drop (List.mem_of_mem_take hr))
 | _=>exact hu.elim
theorem Cell.sub_cnt {c:Cell} (hu:c.uni) {lo n:Nat} (h:lo+n≤c.cnt):(c.sub lo n).cnt=n:=by
 cases c with
 | ints k l=>simp [Cell.sub,Cell.cnt] at h ⊢;omega
 | sl m rows=>simp [Cell.sub,Cell.cnt] at h ⊢;omega
 | _=>exact hu.elim
theorem sl_data {Mo:Nat→Nat→Prop} {ρ:Nat→Value} {η:List SB} {w:World} (h:HInv Γ Mo ρ η w) {b es lo n:Nat} {c:Cell} {T:Option TypeId} (hb:η[b]? = some (.arr c (c.cnt*c.esz) T)) (hes:c.esz=es) (hfit:lo+n≤c.cnt)
 {v:Value} (hv:HRd η ρ (MX Mo ρ η) w v (.sl b es lo n)):RdC (MX Mo ρ η) w v (subC c lo n):=by
 obtain ⟨⟨hu,_⟩,h0⟩:=h.blk b _ hb
 obtain ⟨_,ad,cap,rfl,hle,hcap⟩:=hv
 by_cases hc0:cap=0
 · have hn:n=0:=by omega
   subst hn
   rcases subC_eq hfit with ⟨h1,h2,h3⟩ | h3
   · rw [h3];exact RdC.empty hu h2.symm
   · rw [h3];exact RdC.empty (Cell.sub_uni hu) (Cell.sub_cnt hu hfit)
 · obtain ⟨hre,had,arr,T',fz,hheap,hsz⟩:=hcap hc0
   rcases h0 with ⟨_,e⟩ | ⟨bb,vs,q,T2,e,hh,hr,_⟩
   · exact absurd e hre
   · have hbk:bk (ρ b)=bb:=by rw [e];rfl
     have hfl:=Cell.flat_len hu
     have hvl:=hr.length
     have hM:∀ o,o<vs.length→¬MX Mo ρ η bb o:=fun o ho hm=>by
      rcases hm with hm | ⟨j,y,hj,hy,hrj,ej⟩
      · exact h.sep b _ hb rfl hre o (by rw [hbk];exact hm)
      · have hjb:=h.inj j b y _ hj hb (SB.mut_own hy) rfl hrj hre (by rw [hbk];exact ej)
        subst hjb
        rw [hb] at hj;cases hj
        have:c.cnt*c.esz≤o:=hy
        omega
     have hd:=arr_data (cap:=max c.cnt cap) hh hr hu (Nat.le_max_left _ _) hM
     rw [hbk] at had
     rcases subC_eq hfit with ⟨h1,h2,h3⟩ | h3
     · rw [h3]
       have:=RdC.sub hd hu (lo:=0) (n:=c.cnt) (cap':=cap) (ad:=ad) (by omega) (fun _=>by rw [had,h1];simp) (by omega)
       have hs:c.sub 0 c.cnt=c:=by
        cases c with
        | ints k l=>simp [Cell.sub,Cell.cnt]
        | sl m rows=>simp [Cell.sub,Cell.cnt]
        | _=>rfl
       rw [hs] at this
       rw [h2];exact this
     · rw [h3]
       exact RdC.sub hd hu hfit (fun _=>by rw [had,hes,Nat.zero_add]) hle
theorem gB_set_self {η:List SB} {b:Nat} {x:SB} (h:b<η.length):gB (η.set b x) b=x:=by simp [gB,h]
theorem gB_set_ne {η:List SB} {b i:Nat} {x:SB} (h:i≠b):gB (η.set b x) i=gB η i:=by simp [gB,List.getElem?_set_ne (Ne.symm h)]
theorem appL_length {α:Type}:∀(e:List (Nat×α)) (l:List α),(appL e l).length=l.length
 | [],_=>rfl
 | (i,x)::e,l=>by simp only [appL];rw [appL_length e];simp
theorem Went.frz {Mo:Nat→Nat→Prop} {ρ:Nat→Value} {w:World} {η:List SB}:∀(bs:List Nat) (η1:List SB),HInv Γ Mo ρ η1 w→η1.length=η.length→(∀ b∈bs,isArr (gB η b)=true)→(∀ b,gB η1 b=gB η b∨gB η1 b=frzB (gB η b))→
 Went Γ Mo ρ η1 w ρ (appL (frzE η bs) η1) w∧(∀ b,gB (appL (frzE η bs) η1) b=gB η1 b∨gB (appL (frzE η bs) η1) b=frzB (gB η b))∧(∀ b∈bs,gB (appL (frzE η bs) η1) b=frzB (gB η b))
 | [],η1,h,_,_,_=>⟨Went.refl h,fun b=>.inl rfl,fun b hb=>by cases hb⟩
 | b::bs,η1,h,hl,ha,hg=>by
  have hab:=ha b (by simp)
  have hx:∃ c k T,gB η b=.arr c k T:=by
   generalize gB η b=y at hab
   cases y<;>first | exact ⟨_,_,_,rfl⟩ | cases hab
  obtain ⟨c,k,T,hx⟩:=hx
  have hf:frzB (gB η b)=.arr c (c.cnt*c.esz) T:=by rw [hx];rfl
  obtain ⟨k1,h1⟩:∃ k1,η1[b]? = some (.arr c k1 T):=by
   rcases hg b with e | e
   · exact ⟨k,gB_some (e.trans hx) (by simp)⟩
   · exact ⟨_,gB_some (e.trans hf) (by simp)⟩
  have hlt:b<η1.length:=(List.getElem?_eq_some_iff.1 h1).1
  have hsbr:=h.blk b _ h1
  have hstep:Went Γ Mo ρ η1 w ρ (η1.set b (.arr c (c.cnt*c.esz) T)) w:=by
   refine Went.less h h1 (by simp) (fun _=>rfl) (fun o ho=>Nat.le_trans hsbr.1.2 ho) (fun m=>?_)
   obtain ⟨⟨hu,_⟩,h0⟩:=hsbr.mv m (fun _ _=>rfl)
   exact ⟨⟨hu,Nat.le_refl _⟩,h0⟩
  have hg':∀ i,gB (η1.set b (.arr c (c.cnt*c.esz) T)) i=gB η i∨gB (η1.set b (.arr c (c.cnt*c.esz) T)) i=frzB (gB η i):=fun i=>by
   by_cases e:i=b
   · subst e;rw [gB_set_self hlt,hf];exact .inr rfl
   · rw [gB_set_ne e];exact hg i
  obtain ⟨h3,h4,h5⟩:=Went.frz bs (η1.set b (.arr c (c.cnt*c.esz) T)) hstep.inv (by simp [hl]) (fun i hi=>ha i (by simp [hi])) hg'
  have he:appL (frzE η (b::bs)) η1=appL (frzE η bs) (η1.set b (.arr c (c.cnt*c.esz) T)):=by
   show appL ((b,frzB (gB η b))::frzE η bs) η1=_
   rw [hf];rfl
  rw [he]
  refine ⟨hstep.trans h3,fun i=>?_,fun i hi=>?_⟩
  · rcases h4 i with e | e
    · by_cases e':i=b
      · subst e';rw [e,gB_set_self hlt,hf];exact .inr rfl
      · rw [gB_set_ne e'] at e;exact .inl e
    · exact .inr e
  · rcases List.mem_cons.1 hi with rfl | hi
    · rcases h4 i with e | e
      · rw [e,gB_set_self hlt,hf]
      · exact e
    · exact h5 i hi
theorem toDat_arr {η : List SB} {h : HC} {c : Cell} {bs : List Nat} (hd : toDat η h = some (c, bs)) : ∀ b ∈ bs, isArr (gB η b) = true := by
 unfold toDat at hd
 split at hd
 · cases hd;intro b hb;cases hb
 · split at hd
   · rename_i c' k T hb
     split at hd
     · cases hd
       intro b hb'
       simp only [List.mem_singleton] at hb'
       subst hb';rw [hb];rfl
     · cases hd
   · cases hd
 · cases hd
theorem toDatL_arr {η:List SB}:∀{hs:List HC} {cs:List Cell} {bs:List Nat},toDatL η hs=some (cs,bs)→∀ b∈bs,isArr (gB η b)=true
 | [],cs,bs,hd=>by cases hd;intro b hb;cases hb
 | h::hs,cs,bs,hd=>by
  simp only [toDatL] at hd
  split at hd
  · rename_i c bs1 cs2 bs2 h1 h2
    cases hd
    intro b hb
    rcases List.mem_append.1 hb with hb | hb
    · exact toDat_arr h1 b hb
    · exact toDatL_arr h2 b hb
  · cases hd
theorem toDat_ok {Mo : Nat → Nat → Prop} {ρ : Nat → Value} {η η' : List SB} {w : World} (h : HInv Γ Mo ρ η' w) {x : HC} {c : Cell} {bs : List Nat} (hd : toDat η x = some (c, bs)) (hf : ∀ b ∈ bs, gB η' b = frzB (gB η b)) {v : Value}
 (hv:HRd η' ρ (MX Mo ρ η') w v x):RdC (MX Mo ρ η') w v c:=by
 unfold toDat at hd
 split at hd
 · cases hd;exact hv
 · rename_i b es lo n
   split at hd
   · rename_i c' k T hb
     split at hd
     · rename_i hc
       cases hd
       have:=hf b (by simp)
       rw [hb] at this
       exact sl_data h (gB_some this (by simp)) hc.1 hc.2 hv
     · cases hd
   · cases hd
 · cases hd
theorem toDatL_ok {Mo:Nat→Nat→Prop} {ρ:Nat→Value} {η η':List SB} {w:World} (h:HInv Γ Mo ρ η' w):∀{hs:List HC} {cs:List Cell} {bs:List Nat},toDatL η hs=some (cs,bs)→(∀ b∈bs,gB η' b=frzB (gB η b))→∀{vs:List Value},
 HRL η' ρ (MX Mo ρ η') w vs hs→RdD (MX Mo ρ η') w vs cs
 | [],cs,bs,hd,_,vs,hv=>by
  cases hd
  cases vs with
  | nil=>trivial
  | cons _ _=>exact hv.elim
 | x::hs,cs,bs,hd,hf,vs,hv=>by
  simp only [toDatL] at hd
  split at hd
  · rename_i c bs1 cs2 bs2 h1 h2
    cases hd
    cases vs with
    | nil=>exact hv.elim
    | cons v vs=>exact ⟨toDat_ok h h1 (fun b hb=>hf b (by simp [hb])) hv.1,toDatL_ok h h2 (fun b hb=>hf b (by simp [hb])) hv.2⟩
  · cases hd
theorem toDat_congr {η η' : List SB} {x : HC} {c : Cell} {bs : List Nat} (hd : toDat η x = some (c, bs)) (ha : ∀ b ∈ bs, gB η' b = gB η b) : toDat η' x = some (c, bs) := by
 unfold toDat at hd ⊢
 split at hd
 · exact hd
 · rename_i b es lo n
   have e:gB η' b=gB η b:=by
    split at hd
    · split at hd
      · cases hd;exact ha b (by simp)
      · cases hd
    · cases hd
   simp only [e];exact hd
 · cases hd
theorem toDatL_congr {η η':List SB}:∀{hs:List HC} {cs:List Cell} {bs:List Nat},toDatL η hs=some (cs,bs)→(∀ b∈bs,gB η' b=gB η b)→toDatL η' hs=some (cs,bs)
 | [],cs,bs,hd,_=>hd
 | x::hs,cs,bs,hd,ha=>by
  simp only [toDatL] at hd ⊢
  split at hd
  · rename_i c bs1 cs2 bs2 h1 h2
    cases hd
    rw [toDat_congr h1 (fun b hb=>ha b (by simp [hb])),toDatL_congr h2 (fun b hb=>ha b (by simp [hb]))]
  · cases hd
theorem frzE_congr {η η':List SB}:∀{bs:List Nat},(∀ b∈bs,gB η' b=gB η b)→frzE η' bs=frzE η bs
 | [],_=>rfl
 | b::bs,ha=>by
  show (b,frzB (gB η' b))::frzE η' bs=(b,frzB (gB η b))::frzE η bs
  rw [ha b (by simp),frzE_congr (fun i hi=>ha i (by simp [hi]))]
theorem RI.frz {E:HEnv} {ρ:Nat→Value} {σ:List SV} {η:List SB} {a:Act} {w:World} (h:RI Γ E ρ σ η a w) {bs:List Nat} (ha:∀ b∈bs,isArr (gB η b)=true) :
 RI Γ E ρ σ (appL (frzE η bs) η) a w∧∀ b∈bs,gB (appL (frzE η bs) η) b=frzB (gB η b):=by
 obtain ⟨h1,_,h3⟩:=Went.frz bs η h.inv rfl ha (fun _=>.inl rfl)
 exact ⟨h.go h1,h3⟩
end Go.Hp
