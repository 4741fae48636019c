/- The proof, part Y0: Ma, Mb. -/
import Derived.WalkKit
import Derived.WalkSpells
namespace Go.Slot
open Go Go.RowKit
inductive Cell where
 | raw (v:Value)
 | ints (k:IntKind) (l:List Int)
 | sl (n:Nat) (rows:List (List Cell))
 | zc
 | nn (b:Bool)
 | fnp (p:(Nat->Nat->Prop)->World->Value->Prop)
 | tok (d:Nat) (c:Cell)
def xhx (M M':Nat->Nat->Prop) (w w':World):Prop:=∀ b o u,¬M b o->w.cell? ⟨b,o,none⟩=some u->¬M' b o/\w'.cell? ⟨b,o,none⟩=some u
theorem xhx.trans {M M' M'':Nat->Nat->Prop} {w w' w'':World} (h:xhx M M' w w') (h':xhx M' M'' w' w''):xhx M M'' w w'':=fun b o u hm hc=>h' b o u (h b o u hm hc).1 (h b o u hm hc).2
inductive RdC (M:Nat->Nat->Prop) (w:World):Value->Cell->Prop
 | raw {v:Value} (h:v.oneCell'=true):RdC M w v (.raw v)
 | zc {a:Option Addr}:RdC M w (.slice a 0 0) .zc
 | nn {a:Option Addr} {cap:Nat}:RdC M w (.slice a 0 cap) (.nn a.isNone)
 | fnp {v:Value} {p:(Nat->Nat->Prop)->World->Value->Prop} (h:v.oneCell'=true) (hp:∀ M' w',xhx M M' w w'->p M' w' v):RdC M w v (.fnp p)
 | ints {a:Option Addr} {len cap:Nat} {k:IntKind} {l:List Int} (b off:Nat) (hl:len=l.length) (hc:len<=cap)
  (ha:l≠[]->a=some ⟨b,off,none⟩)
  (h:∀ i (hi:i<l.length),¬M b (off+i)/\w.cell? ⟨b,off+i,none⟩=some (.int k l[i])):RdC M w (.slice a len cap) (.ints k l)
 | sl {a:Option Addr} {len cap n:Nat} {rows:List (List Cell)} (b off:Nat) (u:Nat->Nat->Value) (hl:len=rows.length) (hc:len<=cap)
  (ha:rows≠[]->a=some ⟨b,off,none⟩) (hn:∀ r∈rows,r.length=n)
  (hm:∀ i,i<rows.length->∀ j,j<n->¬M b (off+i*n+j)/\w.cell? ⟨b,off+i*n+j,none⟩=some (u i j))
  (hr:∀ i (hi:i<rows.length) j (hj:j<rows[i].length),RdC M w (u i j) (rows[i][j])):RdC M w (.slice a len cap) (.sl n rows)
theorem RdC.one {M:Nat->Nat->Prop} {w:World} {v:Value} {c:Cell} (h:RdC M w v c):v.oneCell'=true:=by
 cases h<;>first | rfl | assumption
theorem RdC.keep {M M':Nat->Nat->Prop} {w w':World} (hk:xhx M M' w w') {v:Value} {c:Cell} (h:RdC M w v c):RdC M' w' v c:=by
 induction h with
 | raw h=>exact .raw h
 | zc=>exact .zc
 | nn=>exact .nn
 | fnp h hp=>exact .fnp h (fun M'' w'' hk'=>hp M'' w'' (hk.trans hk'))
 | ints b off hl hc ha h=>exact .ints b off hl hc ha (fun i hi=>hk _ _ _ (h i hi).1 (h i hi).2)
 | sl b off u hl hc ha hn hm _ ih=>exact .sl b off u hl hc ha hn (fun i hi j hj=>hk _ _ _ (hm i hi j hj).1 (hm i hi j hj).2) ih
structure TV where
 v:Value
 sz:Nat
def Cell.esz:Cell->Nat
 | .ints _ _=>1
 | .sl n _=>n
 | .tok _ c=>c.esz
 | _=>0
def RdT (M:Nat->Nat->Prop) (w:World) (τ:Nat->TV) (v:Value):Cell->Prop
 | .tok d c=>(v=(τ d).v/\(τ d).sz=c.esz)/\RdC M w v c
 | c=>RdC M w v c
def RdL (M:Nat->Nat->Prop) (w:World) (τ:Nat->TV):List Value->List Cell->Prop
 | [],[]=>True
 | v::vs,c::cs=>RdT M w τ v c/\RdL M w τ vs cs
 | _,_=>False
def RdD (M:Nat->Nat->Prop) (w:World):List Value->List Cell->Prop
 | [],[]=>True
 | v::vs,c::cs=>RdC M w v c/\RdD M w vs cs
 | _,_=>False
theorem RdT.one {M:Nat->Nat->Prop} {w:World} {τ:Nat->TV} {v:Value} {c:Cell} (h:RdT M w τ v c):v.oneCell'=true:=by
 cases c<;>first | exact RdC.one h | exact h.2.one
def Cell.y1a (d:Nat):Cell->Prop
 | .tok d' c=>d'=d\/c.y1a d
 | _=>False
def wj1 (d:Nat):List Cell->Prop
 | []=>False
 | c::cs=>c.y1a d\/wj1 d cs
theorem RdT.keep {M M':Nat->Nat->Prop} {w w':World} {τ τ':Nat->TV} (hk:xhx M M' w w') {v:Value} {c:Cell} (ht:∀ d,c.y1a d->τ' d=τ d)
 (h:RdT M w τ v c):RdT M' w' τ' v c:=by
 cases c with
 | tok d c=>exact ⟨by rw [ht d (.inl rfl)];exact h.1,h.2.keep hk⟩
 | _=>exact RdC.keep hk h
theorem RdL.keep {M M':Nat->Nat->Prop} {w w':World} {τ τ':Nat->TV} (hk:xhx M M' w w'):∀{vs:List Value} {cs:List Cell},(∀ d,wj1 d cs->τ' d=τ d)->
 RdL M w τ vs cs->RdL M' w' τ' vs cs
 | [],[],_,_=>trivial
 | _::_,_::_,ht,h=>⟨h.1.keep hk (fun d hd=>ht d (.inl hd)),h.2.keep hk (fun d hd=>ht d (.inr hd))⟩
theorem RdD.keep {M M':Nat->Nat->Prop} {w w':World} (hk:xhx M M' w w'):∀{vs:List Value} {cs:List Cell},RdD M w vs cs->RdD M' w' vs cs
 | [],[],_=>trivial
 | _::_,_::_,h=>⟨h.1.keep hk,h.2.keep hk⟩
theorem RdL.length {M:Nat->Nat->Prop} {w:World} {τ:Nat->TV}:∀{vs:List Value} {cs:List Cell},RdL M w τ vs cs->vs.length=cs.length
 | [],[],_=>rfl
 | _::_,_::_,h=>by simp [h.2.length]
theorem RdD.length {M:Nat->Nat->Prop} {w:World}:∀{vs:List Value} {cs:List Cell},RdD M w vs cs->vs.length=cs.length
 | [],[],_=>rfl
 | _::_,_::_,h=>by simp [h.2.length]
theorem RdL.drop {M:Nat->Nat->Prop} {w:World} {τ:Nat->TV}:∀(n:Nat) {vs:List Value} {cs:List Cell},RdL M w τ vs cs->RdL M w τ (vs.drop n) (cs.drop n)
 | 0,_,_,h=>by simpa using h
 | n+1,[],[],_=>trivial
 | n+1,_::_,_::_,h=>by simpa using h.2.drop n
theorem RdL.take {M:Nat->Nat->Prop} {w:World} {τ:Nat->TV}:∀(n:Nat) {vs:List Value} {cs:List Cell},RdL M w τ vs cs->RdL M w τ (vs.take n) (cs.take n)
 | 0,_,_,_=>trivial
 | _n+1,[],[],_=>trivial
 | n+1,_::_,_::_,h=>⟨h.1,h.2.take n⟩
theorem RdD.drop {M:Nat->Nat->Prop} {w:World}:∀(n:Nat) {vs:List Value} {cs:List Cell},RdD M w vs cs->RdD M w (vs.drop n) (cs.drop n)
 | 0,_,_,h=>by simpa using h
 | n+1,[],[],_=>trivial
 | n+1,_::_,_::_,h=>by simpa using h.2.drop n
theorem RdD.take {M:Nat->Nat->Prop} {w:World}:∀(n:Nat) {vs:List Value} {cs:List Cell},RdD M w vs cs->RdD M w (vs.take n) (cs.take n)
 | 0,_,_,_=>trivial
 | _n+1,[],[],_=>trivial
 | n+1,_::_,_::_,h=>⟨h.1,h.2.take n⟩
theorem RdL.append {M:Nat->Nat->Prop} {w:World} {τ:Nat->TV}:∀{vs:List Value} {cs:List Cell} {us:List Value} {ds:List Cell},RdL M w τ vs cs->RdL M w τ us ds->RdL M w τ (vs++us) (cs++ds)
 | [],[],_,_,_,h=>h
 | _::_,_::_,_,_,h,h'=>⟨h.1,h.2.append h'⟩
theorem RdD.append {M:Nat->Nat->Prop} {w:World}:∀{vs:List Value} {cs:List Cell} {us:List Value} {ds:List Cell},RdD M w vs cs->RdD M w us ds->RdD M w (vs++us) (cs++ds)
 | [],[],_,_,_,h=>h
 | _::_,_::_,_,_,h,h'=>⟨h.1,h.2.append h'⟩
theorem RdL.ones {M:Nat->Nat->Prop} {w:World} {τ:Nat->TV}:∀{vs:List Value} {cs:List Cell},RdL M w τ vs cs->∀ v∈vs,v.oneCell'=true
 | [],[],_,v,hv=>by simp at hv
 | u::vs,_::_,h,v,hv=>by
  rcases List.mem_cons.1 hv with rfl | hv
  . exact h.1.one
  . exact h.2.ones v hv
def Cell.bare:Cell->Cell
 | .tok _ c=>c
 | c=>c
theorem RdT.bare {M:Nat->Nat->Prop} {w:World} {τ:Nat->TV} {v:Value} {c:Cell} (h:RdT M w τ v c):RdC M w v c.bare:=by
 cases c<;>first | exact h | exact h.2
def yf8:List Cell->List Cell
 | []=>[]
 | c::cs=>c.bare::yf8 cs
theorem RdL.bare {M:Nat->Nat->Prop} {w:World} {τ:Nat->TV}:∀{vs:List Value} {cs:List Cell},RdL M w τ vs cs->RdD M w vs (yf8 cs)
 | [],[],_=>trivial
 | _::_,_::_,h=>⟨h.1.bare,h.2.bare⟩
inductive AV where
 | undef
 | any
 | one (c:Cell)
 | agg (cs:List Cell)
 | tup (l:List AV)
 | box (cs:List Cell)
 | ptr (s off:Nat)
 | obx (cs:List Cell)
 | elt (cs:List Cell)
 | arr (pre:List Value) (c:Cell) (post:Option (List Value))
 | asl (s:Nat)
 | awn (s m lo n:Nat)
 | pel (s m i f:Nat)
def gt (σ:List AV) (i:Nat):AV:=(σ[i]?).getD .any
def blk:Value->Nat
 | .pointer (some a)=>a.block
 | .slice (some a) _ _=>a.block
 | _=>0
def offV:Value->Nat
 | .pointer (some a)=>a.off
 | .slice (some a) _ _=>a.off
 | _=>0
def capV:Value->Nat
 | .slice _ _ c=>c
 | _=>0
def Cell.cnt:Cell->Nat
 | .ints _ l=>l.length
 | .sl _ rows=>rows.length
 | _=>0
def Cell.flat:Cell->List Cell
 | .ints k l=>l.map fun n=>.raw (.int k n)
 | .sl _ rows=>rows.flatten
 | _=>[]
def Cell.uni:Cell->Prop
 | .ints _ _=>True
 | .sl n rows=>∀ r∈rows,r.length=n
 | _=>False
def RdA (M:Nat->Nat->Prop) (w:World) (τ:Nat->TV) (v:Value):AV->Prop
 | .any=>True
 | .undef=>v=Go.undef
 | .one c=>RdT M w τ v c
 | .agg cs=>∃ vs:List Value,v=.agg vs.toArray/\RdL M w τ vs cs
 | _=>False
def RdB (M:Nat->Nat->Prop) (w:World) (v:Value):AV->Prop
 | .any=>True
 | .undef=>v=Go.undef
 | .one c=>RdC M w v c
 | .agg cs=>∃ vs:List Value,v=.agg vs.toArray/\RdD M w vs cs
 | .elt cs=>∃(b off:Nat) (vs:List Value),v=.pointer (some ⟨b,off,none⟩)/\(∀ j u,vs[j]? = some u->¬M b (off+j)/\w.cell? ⟨b,off+j,none⟩=some u)/\RdD M w vs cs
 | _=>False
def RdBL (M:Nat->Nat->Prop) (w:World):List Value->List AV->Prop
 | [],[]=>True
 | v::vs,c::cs=>RdB M w v c/\RdBL M w vs cs
 | _,_=>False
def x5d (M:Nat->Nat->Prop) (w:World) (τ:Nat->TV) (tm:Array Value) (v:Value):AV->Prop
 | .tup l=>∃ vs:List Value,v=.tuple vs.toArray/\RdBL M w vs l
 | .box cs=>∃(b:Nat) (vs:List Value) (T:TypeId),v=.pointer (some ⟨b,0,none⟩)/\w.heap[b]? = some (.cells vs.toArray T (0,0))/\RdL M w τ vs cs
 | .ptr s off=>v=.pointer (some ⟨blk (tm.getD s Go.undef),off,none⟩)
 | .elt cs=>∃(b off:Nat) (vs:List Value),v=.pointer (some ⟨b,off,none⟩)/\(∀ j u,vs[j]? = some u->¬M b (off+j)/\w.cell? ⟨b,off+j,none⟩=some u)/\RdD M w vs cs
 | .obx cs=>∃(b:Nat) (vs:List Value) (T:TypeId),v=.pointer (some ⟨b,0,none⟩)/\w.heap[b]? = some (.cells vs.toArray T (0,0))/\RdL M w τ vs cs
 | .arr pre c post=>∃(b:Nat) (T:TypeId) (vs q:List Value) (cap:Nat),v=.slice (some ⟨b,pre.length,none⟩) c.cnt cap/\w.heap[b]? = some (.cells (pre++(vs++q)).toArray T (0,0))/\RdD M w vs c.flat/\
  (∀ p,post=some p->q=p)/\c.uni/\c.cnt<=cap/\cap*c.esz<=vs.length+q.length
 | .asl s=>v=tm.getD s Go.undef
 | .awn s m lo n=>∃ ad cap,v=.slice ad n cap/\(cap≠0\/lo=0->ad=some ⟨blk (tm.getD s Go.undef),offV (tm.getD s Go.undef)+lo*m,none⟩)/\n<=cap/\lo+cap<=capV (tm.getD s Go.undef)
 | .pel s m i f=>v=.pointer (some ⟨blk (tm.getD s Go.undef),offV (tm.getD s Go.undef)+i*m+f,none⟩)
 | av=>RdA M w τ v av
def AV.xeo:AV->Bool
 | .box _ | .obx _ | .arr _ _ _=>true
 | _=>false
def AV.vb8:AV->Bool
 | .box _ | .obx _=>true
 | _=>false
def AV.y20:AV->Bool
 | .arr _ _ _=>true
 | _=>false
def AV.fresh:AV->Bool
 | .box _=>true
 | .arr _ _ none=>true
 | _=>false
def AV.rf:AV->Option (Nat×Bool)
 | .ptr s _=>some (s,true)
 | .asl s | .awn s _ _ _ | .pel s _ _ _=>some (s,false)
 | _=>none
def AV.fits (b:Bool) (av:AV):Bool:=if b then av.vb8 else av.y20
def AV.y1a (d:Nat):AV->Prop
 | .one c=>c.y1a d
 | .agg cs | .box cs | .obx cs=>wj1 d cs
 | _=>False
theorem RdA.keep {M M':Nat->Nat->Prop} {w w':World} {τ τ':Nat->TV} (hk:xhx M M' w w') {v:Value} {av:AV} (ht:∀ d,av.y1a d->τ' d=τ d)
 (h:RdA M w τ v av):RdA M' w' τ' v av:=by
 cases av with
 | one c=>exact RdT.keep hk ht h
 | agg cs=>obtain ⟨vs,rfl,h⟩:=h;exact ⟨vs,rfl,h.keep hk ht⟩
 | _=>exact h
theorem RdB.keep {M M':Nat->Nat->Prop} {w w':World} (hk:xhx M M' w w') {v:Value} {av:AV} (h:RdB M w v av):RdB M' w' v av:=by
 cases av with
 | one c=>exact RdC.keep hk h
 | agg cs=>obtain ⟨vs,rfl,h⟩:=h;exact ⟨vs,rfl,h.keep hk⟩
 | elt cs=>obtain ⟨b,off,vs,rfl,hc,h⟩:=h;exact ⟨b,off,vs,rfl,fun j u hj=>hk _ _ _ (hc j u hj).1 (hc j u hj).2,h.keep hk⟩
 | _=>exact h
theorem RdBL.keep {M M':Nat->Nat->Prop} {w w':World} (hk:xhx M M' w w'):∀{vs:List Value} {l:List AV},RdBL M w vs l->RdBL M' w' vs l
 | [],[],_=>trivial
 | _::_,_::_,h=>⟨h.1.keep hk,h.2.keep hk⟩
theorem RdBL.get {M:Nat->Nat->Prop} {w:World}:∀{vs:List Value} {cs:List AV},RdBL M w vs cs->∀(j:Nat) (c:AV),cs[j]? = some c->∃ v,vs[j]? = some v/\RdB M w v c
 | [],[],_,j,c,hc=>by simp at hc
 | v::vs,c'::cs,h,0,c,hc=>by simp at hc;subst hc;exact ⟨v,by simp,h.1⟩
 | v::vs,c'::cs,h,j+1,c,hc=>by simpa using h.2.get j c (by simpa using hc)
structure Env where
 w0:World
 M:Nat->Nat->Prop
 X:Nat->Prop
 args:Array Value
 ds:List Deferred
 hM:∀ b o,M b o->b<w0.heap.size
abbrev Env.N (E:Env):Nat:=E.w0.heap.size
def tokB:Value->Option Nat
 | .slice (some a) _ (_+1)=>some a.block
 | _=>none
def wyo (E:Env) (M:Nat->Nat->Prop) (w:World) (t:TV):Prop:=
 (∃ a,t.v=.slice a 0 0)\/
 ∃(e n:Nat) (xs:List Value),w.ownsRow E.N e t.sz t.v n xs/\∀ g,t.v.ownBlock=some g->∀ o,n*t.sz<=o->M g o
def live (σ:List AV) (d:Nat):Prop:=∃(i:Nat) (av:AV),σ[i]? = some av/\av.y1a d
structure RelI (E:Env) (τ:Nat->TV) (M:Nat->Nat->Prop) (σ:List AV) (a:Act) (w:World):Prop where
 hd:a.defers=E.ds
 hs:a.tmps.size=σ.length
 slot:∀(i:Nat) (av:AV),σ[i]? = some av->x5d M w τ a.tmps (a.tmps.getD i Go.undef) av
 m0:∀ b o,E.M b o->M b o
 mb:∀ b o,M b o->b<w.heap.size
 hold:∀(i:Nat) (av:AV),σ[i]? = some av->av.xeo=true->(∀ o,M (blk (a.tmps.getD i Go.undef)) o)/\(E.N<=blk (a.tmps.getD i Go.undef)\/E.X (blk (a.tmps.getD i Go.undef)))/\(av.fresh=true->E.N<=blk (a.tmps.getD i Go.undef))/\
  (av.fresh=false->a.tmps.getD i Go.undef=E.args.getD i Go.undef)
 inj:∀(i j:Nat) (avi avj:AV),σ[i]? = some avi->σ[j]? = some avj->avi.xeo=true->avj.xeo=true->blk (a.tmps.getD i Go.undef)=blk (a.tmps.getD j Go.undef)->i=j
 refs:∀(i:Nat) (av:AV) (s:Nat) (b:Bool),σ[i]? = some av->av.rf=some (s,b)->∃ hv:AV,σ[s]? = some hv/\hv.fits b=true
 toks:∀ d:Nat,live σ d->wyo E M w (τ d)
 tinj:∀(d d' g:Nat),live σ d->live σ d'->d≠d'->tokB (τ d).v=some g->tokB (τ d').v≠some g
 tbox:∀(d i:Nat) (av:AV),live σ d->σ[i]? = some av->av.xeo=true->tokB (τ d).v≠some (blk (a.tmps.getD i Go.undef))
 size:E.N<=w.heap.size
 os:w.os=E.w0.os
 tape:w.tape=E.w0.tape
 output:w.output=E.w0.output
 frame:∀ k,k<E.N->¬E.X k->w.heap[k]? = E.w0.heap[k]?
def Rel (E:Env) (σ:List AV) (a:Act) (w:World):Prop:=∃ τ M,RelI E τ M σ a w
theorem AV.vgj {b:Bool} {av:AV} (h:av.fits b=true):av.xeo=true:=by
 cases b<;>cases av<;>simp_all [AV.fits,AV.vb8,AV.y20,AV.xeo]
variable {E:Env} {τ:Nat->TV} {M:Nat->Nat->Prop} {σ:List AV} {a:Act}
theorem RelI.lt {w:World} (h:RelI E τ M σ a w) {i:Nat} {av:AV} (hi:σ[i]? = some av):i<a.tmps.size:=by
 have:=(List.getElem?_eq_some_iff.1 hi).1
 rw [h.hs];exact this
theorem xhx.below {M:Nat->Nat->Prop} {w w':World} (h:Below w.heap.size w w'):xhx M M w w':=fun b o u hm hc=>by
 refine ⟨hm,?_⟩;rw [h.cell (p:=⟨b,o,none⟩) (World.block_lt_of_cell? w _ hc)];exact hc
theorem getD_set_ne {tm:Array Value} {d s:Nat} (h:d≠s) (v:Value):(tm.setIfInBounds d v).getD s Go.undef=tm.getD s Go.undef:=by
 simp [h]
theorem x5d.keep {M M':Nat->Nat->Prop} {w w':World} {τ τ':Nat->TV} {tm tm':Array Value} (hk:xhx M M' w w') {v:Value} {av:AV} (ht:∀ d,av.y1a d->τ' d=τ d)
 (hr:∀ s b,av.rf=some (s,b)->tm'.getD s Go.undef=tm.getD s Go.undef)
 (hh:av.xeo=true->w'.heap[blk v]? = w.heap[blk v]?)
 (h:x5d M w τ tm v av):x5d M' w' τ' tm' v av:=by
 cases av with
 | tup l=>obtain ⟨vs,rfl,h⟩:=h;exact ⟨vs,rfl,h.keep hk⟩
 | box cs=>
  obtain ⟨b,vs,T,rfl,hb,h⟩:=h;exact ⟨b,vs,T,rfl,(hh rfl).trans hb,h.keep hk (fun d hd=>ht d (by simpa only [AV.y1a] using hd))⟩
 | ptr s off=>show _=_;rw [hr s _ rfl];exact h
 | elt cs=>
  obtain ⟨b,off,vs,rfl,hc,h⟩:=h;exact ⟨b,off,vs,rfl,fun j u hu=>hk _ _ _ (hc j u hu).1 (hc j u hu).2,h.keep hk⟩
 | obx cs=>obtain ⟨b,vs,T,rfl,hb,h⟩:=h;exact ⟨b,vs,T,rfl,(hh rfl).trans hb,h.keep hk ht⟩
 | arr pre c post=>obtain ⟨b,T,vs,q,cap,rfl,hb,h,hrest⟩:=h;exact ⟨b,T,vs,q,cap,rfl,(hh rfl).trans hb,h.keep hk,hrest⟩
 | asl s=>show _=_;rw [hr s _ rfl];exact h
 | awn s m lo n=>show ∃ _ _,_;rw [hr s _ rfl];exact h
 | pel s m i f=>show _=_;rw [hr s _ rfl];exact h
 | one c=>exact RdA.keep (av:=.one c) hk ht h
 | agg cs=>exact RdA.keep (av:=.agg cs) hk ht h
 | undef=>exact h
 | any=>exact h
theorem x5d.y87 {M:Nat->Nat->Prop} {w:World} {τ:Nat->TV} {tm:Array Value} {v:Value} {av:AV} (h:x5d M w τ tm v av) (hh:av.xeo=true):blk v<w.heap.size:=by
 cases av with
 | box cs=>obtain ⟨b,vs,T,rfl,hb,h⟩:=h;exact (Array.getElem?_eq_some_iff.1 hb).1
 | obx cs=>obtain ⟨b,vs,T,rfl,hb,h⟩:=h;exact (Array.getElem?_eq_some_iff.1 hb).1
 | arr pre c post=>obtain ⟨b,T,vs,q,cap,rfl,hb,_⟩:=h;exact (Array.getElem?_eq_some_iff.1 hb).1
 | _=>cases hh
theorem wyo.below {E:Env} {M:Nat->Nat->Prop} {w w':World} {v:TV} (hb:Below w.heap.size w w') (h:wyo E M w v):wyo E M w' v:=by
 rcases h with h | ⟨e,n,xs,ho,hm⟩
 . exact .inl h
 . refine .inr ⟨e,n,xs,⟨ho.1,?_⟩,hm⟩
   rcases ho.2 with h | ⟨g,cap,cur,hv,hg,hh,r⟩
   . exact .inl h
   . exact .inr ⟨g,cap,cur,hv,hg,(hb.block g (Array.getElem?_eq_some_iff.1 hh).1).trans hh,r⟩
theorem RelI.below {w w':World} (h:RelI E τ M σ a w) (hb:Below w.heap.size w w'):RelI E τ M σ a w' where
 hd:=h.hd
 hs:=h.hs
 slot:=fun i av hi=>(h.slot i av hi).keep (xhx.below hb) (fun _ _=>rfl) (fun _ _ _=>rfl) (fun hh=>hb.block _ ((h.slot i av hi).y87 hh))
 m0:=h.m0
 mb:=fun b o hm=>Nat.lt_of_lt_of_le (h.mb b o hm) hb.size
 hold:=h.hold
 inj:=h.inj
 refs:=h.refs
 toks:=fun d hd=>(h.toks d hd).below hb
 tinj:=h.tinj
 tbox:=h.tbox
 size:=Nat.le_trans h.size hb.size
 os:=hb.os.trans h.os
 tape:=hb.tape.trans h.tape
 output:=hb.output.trans h.output
 frame:=fun k hk hx=>(hb.block k (Nat.lt_of_lt_of_le hk h.size)).trans (h.frame k hk hx)
theorem getElem?_set_cases {α:Type} {l:List α} {d i:Nat} {x y:α} (h:(l.set d x)[i]? = some y):(i=d/\y=x)\/(i≠d/\l[i]? = some y):=by
 rw [List.getElem?_set] at h;split at h
 . rename_i hdi;split at h
   . simp at h;exact .inl ⟨hdi.symm,h.symm⟩
   . simp at h
 . rename_i hdi;exact .inr ⟨fun e=>hdi e.symm,h⟩
theorem RelI.put {w:World} (h:RelI E τ M σ a w) {d:Nat} {old:AV} (hd:σ[d]? = some old) (hnh:old.xeo=false) (v:Value) (av:AV) (hav:av.xeo=false)
 (hok:x5d M w τ a.tmps v av) (hrf:∀(s:Nat) (b:Bool),av.rf=some (s,b)->∃ hv:AV,σ[s]? = some hv/\hv.fits b=true) (htok:∀ t,av.y1a t->live σ t) :
 RelI E τ M (σ.set d av) (a.put (some d) v) w:=by
 have hlt:d<a.tmps.size:=h.lt hd
 have hns:∀(s:Nat) (b:Bool) (hv:AV),σ[s]? = some hv->hv.fits b=true->d≠s:=fun s b hv hs hf e=>by
  subst e;rw [hd] at hs;cases hs;have:=AV.vgj hf;rw [hnh] at this;cases this
 have hself:(a.tmps.setIfInBounds d v).getD d Go.undef=v:=by simp [hlt]
 have hlive:∀ t,live (σ.set d av) t->live σ t:=fun t ⟨i,x,hi,hx⟩=>by
  rcases getElem?_set_cases hi with ⟨_,rfl⟩ | ⟨_,hi⟩
  . exact htok t hx
  . exact ⟨i,x,hi,hx⟩
 refine RelI.mk h.hd (by simpa [Act.put] using h.hs) ?_ h.m0 h.mb ?_ ?_ ?_ ?_ ?_ ?_ h.size h.os h.tape h.output h.frame
 . intro i x hi;show x5d M w τ (a.tmps.setIfInBounds d v) ((a.tmps.setIfInBounds d v).getD i Go.undef) x
   rcases getElem?_set_cases hi with ⟨rfl,rfl⟩ | ⟨hne,hi⟩
   . rw [hself];exact hok.keep (fun _ _ _ h1 h2=>⟨h1,h2⟩) (fun _ _=>rfl) (fun s b hr=>by obtain ⟨hv,h1,h2⟩:=hrf s b hr;exact getD_set_ne (hns s b hv h1 h2) v) (fun _=>rfl)
   . rw [getD_set_ne (Ne.symm hne)];exact (h.slot i x hi).keep (fun _ _ _ h1 h2=>⟨h1,h2⟩) (fun _ _=>rfl) (fun s b hr=>by obtain ⟨hv,h1,h2⟩:=h.refs i x s b hi hr;exact getD_set_ne (hns s b hv h1 h2) v) (fun _=>rfl)
 . intro i x hi hh;show (∀ o,M (blk ((a.tmps.setIfInBounds d v).getD i Go.undef)) o)/\(_<=blk ((a.tmps.setIfInBounds d v).getD i Go.undef)\/E.X (blk ((a.tmps.setIfInBounds d v).getD i Go.undef)))/\(_->_<=blk ((a.tmps.setIfInBounds d v).getD i Go.undef))/\(_->(a.tmps.setIfInBounds d v).getD i Go.undef=_)
   rcases getElem?_set_cases hi with ⟨rfl,rfl⟩ | ⟨hne,hi⟩
   . rw [hav] at hh;cases hh
   . rw [getD_set_ne (Ne.symm hne)];exact h.hold i x hi hh
 . intro i j x y hi hj hx hy;show blk ((a.tmps.setIfInBounds d v).getD i Go.undef)=blk ((a.tmps.setIfInBounds d v).getD j Go.undef)->_
   rcases getElem?_set_cases hi with ⟨rfl,rfl⟩ | ⟨hne,hi⟩
   . rw [hav] at hx;cases hx
   . rcases getElem?_set_cases hj with ⟨rfl,rfl⟩ | ⟨hne',hj⟩
     . rw [hav] at hy;cases hy
     . rw [getD_set_ne (Ne.symm hne),getD_set_ne (Ne.symm hne')];exact h.inj i j x y hi hj hx hy
 . intro i x s b hi hr
   have:∃ hv:AV,σ[s]? = some hv/\hv.fits b=true:=by
    rcases getElem?_set_cases hi with ⟨rfl,rfl⟩ | ⟨hne,hi⟩
    . exact hrf s b hr
    . exact h.refs i x s b hi hr
   obtain ⟨hv,h1,h2⟩:=this;exact ⟨hv,by rw [List.getElem?_set_ne (hns s b hv h1 h2)];exact h1,h2⟩
 . exact fun t ht=>h.toks t (hlive t ht)
 . exact fun t t' g ht ht'=>h.tinj t t' g (hlive t ht) (hlive t' ht')
 . intro t i x ht hi hx;show _≠some (blk ((a.tmps.setIfInBounds d v).getD i Go.undef))
   rcases getElem?_set_cases hi with ⟨rfl,rfl⟩ | ⟨hne,hi⟩
   . rw [hav] at hx;cases hx
   . rw [getD_set_ne (Ne.symm hne)];exact h.tbox t i x (hlive t ht) hi hx
theorem zpr {E:Env} {M:Nat->Nat->Prop} {w:World} {v:TV} {g:Nat} (h:wyo E M w v) (hg:tokB v.v=some g):E.N<=g/\g<w.heap.size:=by
 rcases h with ⟨a,ha⟩ | ⟨e,n,xs,ho,_⟩
 . rw [ha] at hg;cases a<;>simp [tokB] at hg
 . refine ho.lt g ?_;unfold tokB at hg;split at hg
   . rename_i hv;simp at hg;simp [Value.ownBlock,hg,hv]
   . cases hg
theorem xhx.alloc {M:Nat->Nat->Prop} (w:World) (o:Obj):xhx M (fun b o=>M b o\/b=w.heap.size) w (w.alloc o):=fun b o' u hm hc=>by
 have hl:=World.block_lt_of_cell? w _ hc;exact ⟨fun hh=>hh.elim hm (fun e=>by simp only at hl;omega),(xhx.below ((Below.refl _ _).alloc (Nat.le_refl _) o) b o' u hm hc).2⟩
theorem RelI.alloc {w:World} (h:RelI E τ M σ a w) {d:Nat} {old:AV} (hd:σ[d]? = some old) (hnh:old.xeo=false) (o:Obj) (v:Value) (av:AV) (hav:av.xeo=true) (hfrs:av.fresh=true)
 (hv:blk v=w.heap.size)
 (hok:x5d (fun b o=>M b o\/b=w.heap.size) (w.alloc o) τ a.tmps v av) (htok:∀ t,av.y1a t->live σ t) :
 RelI E τ (fun b o=>M b o\/b=w.heap.size) (σ.set d av) (a.put (some d) v) (w.alloc o):=by
 have hlt:d<a.tmps.size:=h.lt hd
 have hns:∀(s:Nat) (b:Bool) (hv:AV),σ[s]? = some hv->hv.fits b=true->d≠s:=fun s b hv hs hf e=>by
  subst e;rw [hd] at hs;cases hs;have:=AV.vgj hf;rw [hnh] at this;cases this
 have hself:(a.tmps.setIfInBounds d v).getD d Go.undef=v:=by simp [hlt]
 have hlive:∀ t,live (σ.set d av) t->live σ t:=fun t ⟨i,x,hi,hx⟩=>by
  rcases getElem?_set_cases hi with ⟨_,rfl⟩ | ⟨_,hi⟩
  . exact htok t hx
  . exact ⟨i,x,hi,hx⟩
 have hb:Below w.heap.size w (w.alloc o):=(Below.refl _ _).alloc (Nat.le_refl _) o;have hk:=xhx.alloc (M:=M) w o
 have hmb:∀ b o',(M b o'\/b=w.heap.size)->b<(w.alloc o).heap.size:=by
  rintro b o' (hm | rfl)
  . exact Nat.lt_of_lt_of_le (h.mb b o' hm) hb.size
  . simp
 refine RelI.mk h.hd (by simpa [Act.put] using h.hs) ?_ (fun b o hm=>.inl (h.m0 b o hm)) hmb ?_ ?_ ?_ ?_ ?_ ?_ (Nat.le_trans h.size hb.size) h.os h.tape h.output
  (fun k hk hx=>(hb.block k (Nat.lt_of_lt_of_le hk h.size)).trans (h.frame k hk hx))
 . intro i x hi;show x5d _ (w.alloc o) τ (a.tmps.setIfInBounds d v) ((a.tmps.setIfInBounds d v).getD i Go.undef) x
   rcases getElem?_set_cases hi with ⟨rfl,rfl⟩ | ⟨hne,hi⟩
   . rw [hself];exact hok.keep (fun _ _ _ h1 h2=>⟨h1,h2⟩) (fun _ _=>rfl) (fun s b hr=>by cases x<;>simp [AV.rf,AV.xeo] at hr hav) (fun _=>rfl)
   . rw [getD_set_ne (Ne.symm hne)];exact (h.slot i x hi).keep hk (fun _ _=>rfl) (fun s b hr=>by obtain ⟨hv,h1,h2⟩:=h.refs i x s b hi hr;exact getD_set_ne (hns s b hv h1 h2) v) (fun hh=>hb.block _ ((h.slot i x hi).y87 hh))
 . intro i x hi hh;show (∀ o',M (blk ((a.tmps.setIfInBounds d v).getD i Go.undef)) o'\/blk ((a.tmps.setIfInBounds d v).getD i Go.undef)=_)/\(_<=blk ((a.tmps.setIfInBounds d v).getD i Go.undef)\/E.X (blk ((a.tmps.setIfInBounds d v).getD i Go.undef)))/\(_->_<=blk ((a.tmps.setIfInBounds d v).getD i Go.undef))/\(_->(a.tmps.setIfInBounds d v).getD i Go.undef=_)
   rcases getElem?_set_cases hi with ⟨rfl,rfl⟩ | ⟨hne,hi⟩
   . rw [hself];exact ⟨fun _=>.inr hv,.inl (by rw [hv];exact h.size),fun _=>by rw [hv];exact h.size,fun e=>by rw [hfrs] at e;cases e⟩
   . rw [getD_set_ne (Ne.symm hne)];exact ⟨fun o=>.inl ((h.hold i x hi hh).1 o),(h.hold i x hi hh).2⟩
 . intro i j x y hi hj hx hy;show blk ((a.tmps.setIfInBounds d v).getD i Go.undef)=blk ((a.tmps.setIfInBounds d v).getD j Go.undef)->_
   rcases getElem?_set_cases hi with ⟨rfl,rfl⟩ | ⟨hne,hi'⟩
   . rcases getElem?_set_cases hj with ⟨rfl,rfl⟩ | ⟨hne',hj⟩
     . exact fun _=>rfl
     . rw [hself,getD_set_ne (Ne.symm hne'),hv];intro e
       have:=(h.slot j y hj).y87 hy
       omega
   . rcases getElem?_set_cases hj with ⟨rfl,rfl⟩ | ⟨hne',hj⟩
     . rw [hself,getD_set_ne (Ne.symm hne),hv];intro e
       have:=(h.slot i x hi').y87 hx
       omega
     . rw [getD_set_ne (Ne.symm hne),getD_set_ne (Ne.symm hne')];exact h.inj i j x y hi' hj hx hy
 . intro i x s b hi hr
   have:∃ hv:AV,σ[s]? = some hv/\hv.fits b=true:=by
    rcases getElem?_set_cases hi with ⟨rfl,rfl⟩ | ⟨hne,hi⟩
    . cases x<;>simp [AV.rf,AV.xeo] at hr hav
    . exact h.refs i x s b hi hr
   obtain ⟨hv,h1,h2⟩:=this;exact ⟨hv,by rw [List.getElem?_set_ne (hns s b hv h1 h2)];exact h1,h2⟩
 . intro t ht
   rcases (h.toks t (hlive t ht)).below hb with h' | ⟨e,n,xs,ho,hm⟩
   . exact .inl h'
   . exact .inr ⟨e,n,xs,ho,fun g hg o ho=>.inl (hm g hg o ho)⟩
 . exact fun t t' g ht ht'=>h.tinj t t' g (hlive t ht) (hlive t' ht')
 . intro t i x ht hi hx;show _≠some (blk ((a.tmps.setIfInBounds d v).getD i Go.undef))
   rcases getElem?_set_cases hi with ⟨rfl,rfl⟩ | ⟨hne,hi⟩
   . rw [hself,hv];intro e
     have:=(zpr (h.toks t (hlive t ht)) e).2
     omega
   . rw [getD_set_ne (Ne.symm hne)];exact h.tbox t i x (hlive t ht) hi hx
theorem RelI.vfk {w w':World} (h:RelI E τ M σ a w) (hb:Below w.heap.size w w') {d:Nat} {old:AV} (hd:σ[d]? = some old) (hnh:old.xeo=false) (v:Value) (av:AV) (hav:av.xeo=true) (hfrs:av.fresh=true)
 (hv:w.heap.size<=blk v) (hvl:blk v<w'.heap.size)
 (hok:x5d (fun b o=>M b o\/b=blk v) w' τ a.tmps v av) (htok:∀ t,av.y1a t->live σ t) :
 RelI E τ (fun b o=>M b o\/b=blk v) (σ.set d av) (a.put (some d) v) w':=by
 have hlt:d<a.tmps.size:=h.lt hd
 have hns:∀(s:Nat) (b:Bool) (hv:AV),σ[s]? = some hv->hv.fits b=true->d≠s:=fun s b hv hs hf e=>by
  subst e;rw [hd] at hs;cases hs;have:=AV.vgj hf;rw [hnh] at this;cases this
 have hself:(a.tmps.setIfInBounds d v).getD d Go.undef=v:=by simp [hlt]
 have hlive:∀ t,live (σ.set d av) t->live σ t:=fun t ⟨i,x,hi,hx⟩=>by
  rcases getElem?_set_cases hi with ⟨_,rfl⟩ | ⟨_,hi⟩
  . exact htok t hx
  . exact ⟨i,x,hi,hx⟩
 have hk:xhx M (fun b o=>M b o\/b=blk v) w w':=fun b o' u hm hc=>by
  have hl:=World.block_lt_of_cell? w _ hc;exact ⟨fun hh=>hh.elim hm (fun e=>by simp only at hl;omega),(xhx.below hb b o' u hm hc).2⟩
 have hmb:∀ b o',(M b o'\/b=blk v)->b<w'.heap.size:=by
  rintro b o' (hm | rfl)
  . exact Nat.lt_of_lt_of_le (h.mb b o' hm) hb.size
  . exact hvl
 refine RelI.mk h.hd (by simpa [Act.put] using h.hs) ?_ (fun b o hm=>.inl (h.m0 b o hm)) hmb ?_ ?_ ?_ ?_ ?_ ?_ (Nat.le_trans h.size hb.size) (hb.os.trans h.os) (hb.tape.trans h.tape) (hb.output.trans h.output)
  (fun k hk hx=>(hb.block k (Nat.lt_of_lt_of_le hk h.size)).trans (h.frame k hk hx))
 . intro i x hi;show x5d _ w' τ (a.tmps.setIfInBounds d v) ((a.tmps.setIfInBounds d v).getD i Go.undef) x
   rcases getElem?_set_cases hi with ⟨rfl,rfl⟩ | ⟨hne,hi⟩
   . rw [hself];exact hok.keep (fun _ _ _ h1 h2=>⟨h1,h2⟩) (fun _ _=>rfl) (fun s b hr=>by cases x<;>simp [AV.rf,AV.xeo] at hr hav) (fun _=>rfl)
   . rw [getD_set_ne (Ne.symm hne)];exact (h.slot i x hi).keep hk (fun _ _=>rfl) (fun s b hr=>by obtain ⟨hv,h1,h2⟩:=h.refs i x s b hi hr;exact getD_set_ne (hns s b hv h1 h2) v) (fun hh=>hb.block _ ((h.slot i x hi).y87 hh))
 . intro i x hi hh;show (∀ o',M (blk ((a.tmps.setIfInBounds d v).getD i Go.undef)) o'\/blk ((a.tmps.setIfInBounds d v).getD i Go.undef)=_)/\(_<=blk ((a.tmps.setIfInBounds d v).getD i Go.undef)\/E.X (blk ((a.tmps.setIfInBounds d v).getD i Go.undef)))/\(_->_<=blk ((a.tmps.setIfInBounds d v).getD i Go.undef))/\(_->(a.tmps.setIfInBounds d v).getD i Go.undef=_)
   rcases getElem?_set_cases hi with ⟨rfl,rfl⟩ | ⟨hne,hi⟩
   . rw [hself];exact ⟨fun _=>.inr rfl,.inl (Nat.le_trans h.size hv),fun _=>Nat.le_trans h.size hv,fun e=>by rw [hfrs] at e;cases e⟩
   . rw [getD_set_ne (Ne.symm hne)];exact ⟨fun o=>.inl ((h.hold i x hi hh).1 o),(h.hold i x hi hh).2⟩
 . intro i j x y hi hj hx hy;show blk ((a.tmps.setIfInBounds d v).getD i Go.undef)=blk ((a.tmps.setIfInBounds d v).getD j Go.undef)->_
   rcases getElem?_set_cases hi with ⟨rfl,rfl⟩ | ⟨hne,hi'⟩
   . rcases getElem?_set_cases hj with ⟨rfl,rfl⟩ | ⟨hne',hj⟩
     . exact fun _=>rfl
     . rw [hself,getD_set_ne (Ne.symm hne')];intro e
       have:=(h.slot j y hj).y87 hy
       omega
   . rcases getElem?_set_cases hj with ⟨rfl,rfl⟩ | ⟨hne',hj⟩
     . rw [hself,getD_set_ne (Ne.symm hne)];intro e
       have:=(h.slot i x hi').y87 hx
       omega
     . rw [getD_set_ne (Ne.symm hne),getD_set_ne (Ne.symm hne')];exact h.inj i j x y hi' hj hx hy
 . intro i x s b hi hr
   have:∃ hv:AV,σ[s]? = some hv/\hv.fits b=true:=by
    rcases getElem?_set_cases hi with ⟨rfl,rfl⟩ | ⟨hne,hi⟩
    . cases x<;>simp [AV.rf,AV.xeo] at hr hav
    . exact h.refs i x s b hi hr
   obtain ⟨hv,h1,h2⟩:=this;exact ⟨hv,by rw [List.getElem?_set_ne (hns s b hv h1 h2)];exact h1,h2⟩
 . intro t ht
   rcases (h.toks t (hlive t ht)).below hb with h' | ⟨e,n,xs,ho,hm⟩
   . exact .inl h'
   . exact .inr ⟨e,n,xs,ho,fun g hg o ho=>.inl (hm g hg o ho)⟩
 . exact fun t t' g ht ht'=>h.tinj t t' g (hlive t ht) (hlive t' ht')
 . intro t i x ht hi hx;show _≠some (blk ((a.tmps.setIfInBounds d v).getD i Go.undef))
   rcases getElem?_set_cases hi with ⟨rfl,rfl⟩ | ⟨hne,hi⟩
   . rw [hself];intro e
     have:=(zpr (h.toks t (hlive t ht)) e).2
     omega
   . rw [getD_set_ne (Ne.symm hne)];exact h.tbox t i x (hlive t ht) hi hx
end Go.Slot
namespace Go.Slot
open Go Go.RowKit
variable {E:Env} {τ:Nat->TV} {M:Nat->Nat->Prop} {σ:List AV} {a:Act}
theorem RelI.rewrite {w:World} (h:RelI E τ M σ a w) {s:Nat} {old new:AV} (hs:σ[s]? = some old) (ho:old.xeo=true) (hn:new.xeo=true) (hf:∀ b,old.fits b=true->new.fits b=true) (hfr:new.fresh=old.fresh)
 (cur':Array Value) (hok:∀ vs T,w.heap[blk (a.tmps.getD s Go.undef)]? = some (.cells vs T (0,0))->x5d M (w.setRow (blk (a.tmps.getD s Go.undef)) cur') τ a.tmps (a.tmps.getD s Go.undef) new)
 (htok:∀ t,new.y1a t->live σ t):RelI E τ M (σ.set s new) a (w.setRow (blk (a.tmps.getD s Go.undef)) cur'):=by
 generalize hb:blk (a.tmps.getD s Go.undef)=b at *;have hM:∀ o,M b o:=hb▸(h.hold s old hs ho).1
 have hcells:∃ vs T,w.heap[b]? = some (.cells vs T (0,0)):=by
  have hsl:=h.slot s old hs
  cases old with
  | box cs=>obtain ⟨b',vs,T,e,hh,_⟩:=hsl;rw [e] at hb;exact ⟨_,T,by rw [<-hb];exact hh⟩
  | obx cs=>obtain ⟨b',vs,T,e,hh,_⟩:=hsl;rw [e] at hb;exact ⟨_,T,by rw [<-hb];exact hh⟩
  | arr pre c post=>obtain ⟨b',T,vs,q,cap,e,hh,_⟩:=hsl;rw [e] at hb;exact ⟨_,T,by rw [<-hb];exact hh⟩
  | _=>cases ho
 obtain ⟨vs0,T0,hheap⟩:=hcells
 have hk:xhx M M w (w.setRow b cur'):=fun b' o u hm hc=>⟨hm,by
  rw [cell_setRow_other]
  . exact hc
  . exact fun e=>hm (by rw [show b'=b from e];exact hM o)⟩
 have hlive:∀ t,live (σ.set s new) t->live σ t:=fun t ⟨i,x,hi,hx⟩=>by
  rcases getElem?_set_cases hi with ⟨_,rfl⟩ | ⟨_,hi⟩
  . exact htok t hx
  . exact ⟨i,x,hi,hx⟩
 refine RelI.mk h.hd (by simpa using h.hs) ?_ h.m0 (fun b o hm=>by rw [setRow_size];exact h.mb b o hm) ?_ ?_ ?_ ?_ ?_ ?_ (by rw [setRow_size];exact h.size) h.os h.tape h.output ?_
 . intro i x hi
   rcases getElem?_set_cases hi with ⟨rfl,rfl⟩ | ⟨hne,hi⟩
   . exact hok vs0 T0 hheap
   . refine (h.slot i x hi).keep hk (fun _ _=>rfl) (fun _ _ _=>rfl) (fun hh=>setRow_other w b _ cur' ?_)
     exact fun e=>hne (h.inj i s x old hi hs hh ho (e.trans hb.symm))
 . intro i x hi hh
   rcases getElem?_set_cases hi with ⟨rfl,rfl⟩ | ⟨hne,hi⟩
   . exact hfr▸h.hold i old hs ho
   . exact h.hold i x hi hh
 . intro i j x y hi hj hx hy
   have key:∀(i:Nat) (x:AV),(σ.set s new)[i]? = some x->x.xeo=true->∃ x':AV,σ[i]? = some x'/\x'.xeo=true:=fun i x hi hx=>by
    rcases getElem?_set_cases hi with ⟨rfl,rfl⟩ | ⟨hne,hi⟩
    . exact ⟨old,hs,ho⟩
    . exact ⟨x,hi,hx⟩
   obtain ⟨x',hi',hx'⟩:=key i x hi hx;obtain ⟨y',hj',hy'⟩:=key j y hj hy;exact h.inj i j x' y' hi' hj' hx' hy'
 . intro i x s' b' hi hr
   have:∃ hv:AV,σ[s']? = some hv/\hv.fits b'=true:=by
    rcases getElem?_set_cases hi with ⟨rfl,rfl⟩ | ⟨hne,hi⟩
    . cases x<;>simp [AV.rf,AV.xeo] at hr hn
    . exact h.refs i x s' b' hi hr
   obtain ⟨hv,h1,h2⟩:=this;by_cases e:s'=s
   . subst e;rw [hs] at h1;cases h1;have hl:s'<σ.length:=(List.getElem?_eq_some_iff.1 hs).1;exact ⟨new,by simp [hl],hf _ h2⟩
   . exact ⟨hv,by rw [List.getElem?_set_ne (Ne.symm e)];exact h1,h2⟩
 . intro t ht
   rcases h.toks t (hlive t ht) with h' | ⟨e,n,xs,hown,hm⟩
   . exact .inl h'
   . rcases hown.2 with ⟨h1,_⟩ | ⟨g,cap,cur,hv,hg,hh,hnc,r⟩
     . exact .inl ⟨none,h1⟩
     . cases cap with
       | zero=>exact .inl ⟨some ⟨g,0,none⟩,by rw [hv];simp at hnc;rw [hnc]⟩
       | succ cap=>
        refine .inr ⟨e,n,xs,⟨hown.1,.inr ⟨g,cap+1,cur,hv,hg,?_,hnc,r⟩⟩,hm⟩;rw [setRow_other]
        . exact hh
        . rintro rfl;exact h.tbox t s old (hlive t ht) hs ho (by rw [hv,hb];rfl)
 . exact fun t t' g ht ht'=>h.tinj t t' g (hlive t ht) (hlive t' ht')
 . intro t i x ht hi hx
   rcases getElem?_set_cases hi with ⟨rfl,rfl⟩ | ⟨hne,hi⟩
   . exact h.tbox t i old (hlive t ht) hs ho
   . exact h.tbox t i x (hlive t ht) hi hx
 . intro k hk' hx;rw [setRow_other]
   . exact h.frame k hk' hx
   . rintro rfl
     rcases (h.hold s old hs ho).2.1 with h1 | h1
     . rw [hb] at h1;omega
     . rw [hb] at h1;exact hx h1
inductive Cell.Le:Cell->Cell->Prop
 | refl (c:Cell):Cell.Le c c
 | yck (k:IntKind):Cell.Le (.raw (.slice none 0 0)) (.ints k [])
 | nilSl (n:Nat):Cell.Le (.raw (.slice none 0 0)) (.sl n [])
 | nilZc:Cell.Le (.raw (.slice none 0 0)) .zc
 | w04 (k:IntKind):Cell.Le .zc (.ints k [])
 | zcSl (n:Nat):Cell.Le .zc (.sl n [])
 | nnInts (b:Bool) (k:IntKind):Cell.Le (.nn b) (.ints k [])
 | nnSl (b:Bool) (n:Nat):Cell.Le (.nn b) (.sl n [])
 | untok (d:Nat) (c:Cell):Cell.Le (.tok d c) c
 | trans {a b c:Cell} (h:Cell.Le a b) (h':Cell.Le b c):Cell.Le a c
 | inTok (d:Nat) {c c':Cell} (h:Cell.Le c c') (he:c.esz=c'.esz):Cell.Le (.tok d c) (.tok d c')
theorem RdC.w04 {w:World} {ad:Option Addr} (k:IntKind):RdC M w (.slice ad 0 0) (.ints k []):=
 .ints 0 0 rfl (Nat.le_refl _) (fun h=>absurd rfl h) (fun i hi=>absurd hi (Nat.not_lt_zero i))
theorem RdC.zcSl {w:World} {ad:Option Addr} (n:Nat):RdC M w (.slice ad 0 0) (.sl n []):=
 .sl 0 0 (fun _ _=>Go.undef) rfl (Nat.le_refl _) (fun h=>absurd rfl h) (fun r hr=>by cases hr) (fun i hi=>absurd hi (Nat.not_lt_zero i)) (fun i hi=>absurd hi (Nat.not_lt_zero i))
theorem RdC.wbu {w:World} {v:Value} {d:Nat} {c:Cell} (h:RdC M w v (.tok d c)):False:=by cases h
theorem RdC.le {w:World} {v:Value} {c c':Cell} (hle:Cell.Le c c') (h:RdC M w v c):RdC M w v c':=by
 induction hle with
 | refl=>exact h
 | yck k=>cases h;exact RdC.w04 k
 | nilSl n=>cases h;exact RdC.zcSl n
 | nilZc=>cases h;exact RdC.zc
 | w04 k=>cases h;exact RdC.w04 k
 | zcSl n=>cases h;exact RdC.zcSl n
 | nnInts b k=>cases h;exact .ints 0 0 rfl (Nat.zero_le _) (fun h=>absurd rfl h) (fun i hi=>absurd hi (Nat.not_lt_zero i))
 | nnSl b n=>cases h;exact .sl 0 0 (fun _ _=>Go.undef) rfl (Nat.zero_le _) (fun h=>absurd rfl h) (fun r hr=>by cases hr) (fun i hi=>absurd hi (Nat.not_lt_zero i)) (fun i hi=>absurd hi (Nat.not_lt_zero i))
 | untok=>exact h.wbu.elim
 | inTok=>exact h.wbu.elim
 | trans _ _ ih1 ih2=>exact ih2 (ih1 h)
theorem RdT.of {w:World} {v:Value} {c:Cell} (h:RdC M w v c):RdT M w τ v c:=by
 cases c with
 | tok d c=>exact h.wbu.elim
 | _=>exact h
theorem RdT.le {w:World} {v:Value} {c c':Cell} (hle:Cell.Le c c') (h:RdT M w τ v c):RdT M w τ v c':=by
 induction hle with
 | refl=>exact h
 | yck k=>exact RdC.le (.yck k) h
 | nilSl n=>exact RdC.le (.nilSl n) h
 | nilZc=>exact RdC.le .nilZc h
 | w04 k=>exact RdC.le (.w04 k) h
 | zcSl n=>exact RdC.le (.zcSl n) h
 | nnInts b k=>exact RdC.le (.nnInts b k) h
 | nnSl b n=>exact RdC.le (.nnSl b n) h
 | untok d=>exact RdT.of h.2
 | inTok d hle he _=>exact ⟨he▸h.1,h.2.le hle⟩
 | trans _ _ ih1 ih2=>exact ih2 (ih1 h)
theorem Cell.Le.tok {c c':Cell} (h:Cell.Le c c') {d:Nat} (hd:c'.y1a d):c.y1a d:=by
 induction h with
 | refl=>exact hd
 | untok=>exact .inr hd
 | inTok d' _ _ ih=>exact hd.imp id ih
 | trans _ _ ih1 ih2=>exact ih1 (ih2 hd)
 | _=>cases hd
inductive LeL:List Cell->List Cell->Prop
 | nil:LeL [] []
 | cons {c c':Cell} {l l':List Cell} (h:Cell.Le c c') (t:LeL l l'):LeL (c::l) (c'::l')
theorem RdL.le {w:World}:∀{vs:List Value} {cs cs':List Cell},LeL cs cs'->RdL M w τ vs cs->RdL M w τ vs cs'
 | [],_,_,.nil,_=>trivial
 | _::_,_,_,.cons h t,⟨h1,h2⟩=>⟨h1.le h,RdL.le t h2⟩
 | [],_,_,.cons _ _,h=>h.elim
 | _::_,_,_,.nil,h=>h.elim
theorem LeL.tok:∀{cs cs':List Cell},LeL cs cs'->∀{d:Nat},wj1 d cs'->wj1 d cs
 | _,_,.nil,_,h=>h
 | _,_,.cons h t,_,hd=>hd.elim (fun x=>.inl (h.tok x)) (fun x=>.inr (LeL.tok t x))
inductive AV.Le:AV->AV->Prop
 | refl (x:AV):AV.Le x x
 | any (x:AV):AV.Le x .any
 | one {c c':Cell} (h:Cell.Le c c'):AV.Le (.one c) (.one c')
 | agg {c c':List Cell} (h:LeL c c'):AV.Le (.agg c) (.agg c')
 | box {c c':List Cell} (h:LeL c c'):AV.Le (.box c) (.box c')
 | obx {c c':List Cell} (h:LeL c c'):AV.Le (.obx c) (.obx c')
theorem AV.Le.tok {x y:AV} (h:AV.Le x y) {d:Nat} (hd:y.y1a d):x.y1a d:=by
 cases h with
 | refl=>exact hd
 | any=>cases x<;>simp [AV.y1a] at hd
 | one h=>simp only [AV.y1a] at hd ⊢;exact h.tok hd
 | agg h=>simp only [AV.y1a] at hd ⊢;exact h.tok hd
 | box h=>simp only [AV.y1a] at hd ⊢;exact h.tok hd
 | obx h=>simp only [AV.y1a] at hd ⊢;exact h.tok hd
theorem x5d.le {w:World} {tm:Array Value} {v:Value} {x y:AV} (h:AV.Le x y) (hs:x5d M w τ tm v x):x5d M w τ tm v y:=by
 cases h with
 | refl=>exact hs
 | any=>exact trivial
 | one h=>exact RdT.le h hs
 | agg h=>obtain ⟨vs,rfl,h'⟩:=hs;exact ⟨vs,rfl,h'.le h⟩
 | box h=>obtain ⟨b,vs,T,rfl,hb,h'⟩:=hs;exact ⟨b,vs,T,rfl,hb,h'.le h⟩
 | obx h=>obtain ⟨b,vs,T,rfl,hb,h'⟩:=hs;exact ⟨b,vs,T,rfl,hb,h'.le h⟩
theorem AV.Le.xeo {x y:AV} (h:AV.Le x y) (hy:y.xeo=true):x.xeo=true:=by
 cases h<;>first | exact hy | rfl | cases hy
inductive LeS:List AV->List AV->Prop
 | nil:LeS [] []
 | cons {c c':AV} {l l':List AV} (h:AV.Le c c') (t:LeS l l'):LeS (c::l) (c'::l')
theorem LeS.length:∀{l l':List AV},LeS l l'->l.length=l'.length
 | _,_,.nil=>rfl
 | _,_,.cons _ t=>by simp [t.length]
theorem LeS.get:∀{l l':List AV},LeS l l'->∀(i:Nat) (y:AV),l'[i]? = some y->∃ x,l[i]? = some x/\AV.Le x y
 | _,_,.nil,i,y,h=>by simp at h
 | _,_,.cons h _,0,y,hy=>by simp at hy;subst hy;exact ⟨_,by simp,h⟩
 | _,_,.cons _ t,i+1,y,hy=>by simpa using t.get i y (by simpa using hy)
def Cell.strip (d:Nat):Cell->Cell
 | .tok d' c=>if d'=d then c.strip d else .tok d' (c.strip d)
 | c=>c
def wkn (d:Nat):List Cell->List Cell
 | []=>[]
 | c::cs=>c.strip d::wkn d cs
def AV.strip (d:Nat):AV->AV
 | .one c=>.one (c.strip d)
 | .agg cs=>.agg (wkn d cs)
 | .box cs=>.box (wkn d cs)
 | .obx cs=>.obx (wkn d cs)
 | x=>x
def z2d (d:Nat):List AV->List AV
 | []=>[]
 | x::l=>x.strip d::z2d d l
def Cell.x6p (d:Nat):Cell->Bool
 | .tok d' c=>d' != d&&c.x6p d
 | _=>true
def xuu (d:Nat):List Cell->Bool
 | []=>true
 | c::cs=>c.x6p d&&xuu d cs
def AV.x6p (d:Nat):AV->Bool
 | .one c=>c.x6p d
 | .agg cs | .box cs | .obx cs=>xuu d cs
 | _=>true
theorem Cell.ydj {d:Nat}:∀{c:Cell},c.x6p d=true->¬c.y1a d
 | .tok d' c,h=>by
  simp only [Cell.x6p,Bool.and_eq_true,bne_iff_ne] at h;rintro (h' | h')
  . exact h.1 h'
  . exact Cell.ydj h.2 h'
 | .raw _,_ | .ints _ _,_ | .sl _ _,_ | .zc,_ | .nn _,_ | .fnp _,_=>fun h=>h
theorem vak {d:Nat}:∀{cs:List Cell},xuu d cs=true->¬wj1 d cs
 | [],_=>fun h=>h
 | c::cs,h=>by
  simp only [xuu,Bool.and_eq_true] at h;rintro (h' | h')
  . exact Cell.ydj h.1 h'
  . exact vak h.2 h'
theorem AV.ydj {d:Nat} {x:AV} (h:x.x6p d=true):¬x.y1a d:=by
 cases x with
 | one c=>exact Cell.ydj h
 | agg cs=>exact vak h
 | box cs=>exact vak h
 | obx cs=>exact vak h
 | _=>exact fun h=>h
theorem Cell.wqy (d:Nat):∀ c:Cell,(c.strip d).x6p d=true
 | .tok d' c=>by
  unfold Cell.strip
  split
  . exact Cell.wqy d c
  . rename_i hne;simp [Cell.x6p,Cell.wqy d c,hne]
 | .raw _ | .ints _ _ | .sl _ _ | .zc | .nn _ | .fnp _=>rfl
theorem yno (d:Nat):∀ cs:List Cell,xuu d (wkn d cs)=true
 | []=>rfl
 | c::cs=>by simp [xuu,wkn,Cell.wqy,yno d cs]
theorem AV.wqy (d:Nat) (x:AV):(x.strip d).x6p d=true:=by
 cases x with
 | one c=>exact Cell.wqy d c
 | agg cs=>exact yno d cs
 | box cs=>exact yno d cs
 | obx cs=>exact yno d cs
 | _=>rfl
theorem Cell.vlk (d:Nat):∀ c:Cell,(c.strip d).esz=c.esz
 | .tok d' c=>by
  unfold Cell.strip
  split
  . rw [Cell.vlk d c];rfl
  . simp [Cell.esz,Cell.vlk d c]
 | .raw _ | .ints _ _ | .sl _ _ | .zc | .nn _ | .fnp _=>rfl
theorem Cell.Le.strip (d:Nat):∀ c:Cell,Cell.Le c (c.strip d)
 | .tok d' c=>by
  unfold Cell.strip
  split
  . exact .trans (.untok d' c) (Cell.Le.strip d c)
  . exact .inTok d' (Cell.Le.strip d c) (Cell.vlk d c).symm
 | .raw _ | .ints _ _ | .sl _ _ | .zc | .nn _ | .fnp _=>.refl _
theorem LeL.strip (d:Nat):∀ cs:List Cell,LeL cs (wkn d cs)
 | []=>.nil
 | c::cs=>.cons (Cell.Le.strip d c) (LeL.strip d cs)
theorem AV.Le.strip (d:Nat) (x:AV):AV.Le x (x.strip d):=by
 cases x with
 | one c=>exact .one (Cell.Le.strip d c)
 | agg cs=>exact .agg (LeL.strip d cs)
 | box cs=>exact .box (LeL.strip d cs)
 | obx cs=>exact .obx (LeL.strip d cs)
 | _=>exact .refl _
theorem LeS.strip (d:Nat):∀ σ:List AV,LeS σ (z2d d σ)
 | []=>.nil
 | x::l=>.cons (AV.Le.strip d x) (LeS.strip d l)
theorem z0i (d:Nat):∀(σ:List AV) (i:Nat),(z2d d σ)[i]? = (σ[i]?).map (AV.strip d)
 | [],i=>by simp [z2d]
 | x::l,0=>by simp [z2d]
 | x::l,i+1=>by simpa [z2d] using z0i d l i
theorem AV.y5k (d:Nat) (x:AV):(x.strip d).rf=x.rf:=by cases x<;>rfl
theorem AV.wua (d:Nat) (x:AV) (b:Bool):(x.strip d).fits b=x.fits b:=by cases x<;>cases b<;>rfl
theorem AV.z7j (d:Nat) (x:AV):(x.strip d).fresh=x.fresh:=by cases x<;>rfl
theorem AV.vqf (d:Nat) (x:AV):(x.strip d).xeo=x.xeo:=by cases x<;>rfl
theorem RelI.strip {w:World} (h:RelI E τ M σ a w) (d:Nat):RelI E τ M (z2d d σ) a w:=by
 have hle:=LeS.strip d σ
 have hget:∀(i:Nat) (y:AV),(z2d d σ)[i]? = some y->∃ x,σ[i]? = some x/\y=x.strip d:=fun i y hi=>by
  rw [z0i] at hi
  cases hx:σ[i]? with
  | none=>rw [hx] at hi;cases hi
  | some x=>rw [hx] at hi;exact ⟨x,rfl,by simpa using hi.symm⟩
 have hlive:∀ t,live (z2d d σ) t->live σ t:=fun t ⟨i,y,hi,hy⟩=>by
  obtain ⟨x,hx,hxy⟩:=hle.get i y hi;exact ⟨i,x,hx,hxy.tok hy⟩
 refine RelI.mk h.hd (by rw [h.hs,hle.length]) ?_ h.m0 h.mb ?_ ?_ ?_ ?_ ?_ ?_ h.size h.os h.tape h.output h.frame
 . intro i y hi;obtain ⟨x,hx,hxy⟩:=hle.get i y hi;exact (h.slot i x hx).le hxy
 . intro i y hi hy;obtain ⟨x,hx,rfl⟩:=hget i y hi
   have:=h.hold i x hx (by rwa [AV.vqf] at hy)
   rw [AV.z7j];exact this
 . intro i j y z hi hj hy hz;obtain ⟨x,hx,rfl⟩:=hget i y hi;obtain ⟨x',hx',rfl⟩:=hget j z hj;exact h.inj i j x x' hx hx' (by rwa [AV.vqf] at hy) (by rwa [AV.vqf] at hz)
 . intro i y s b hi hr';obtain ⟨x,hx,rfl⟩:=hget i y hi;rw [AV.y5k] at hr';obtain ⟨hv,h1,h2⟩:=h.refs i x s b hx hr';exact ⟨hv.strip d,by rw [z0i,h1];rfl,by rwa [AV.wua]⟩
 . exact fun t ht=>h.toks t (hlive t ht)
 . exact fun t t' g ht ht'=>h.tinj t t' g (hlive t ht) (hlive t' ht')
 . intro t i y ht hi hy;obtain ⟨x,hx,rfl⟩:=hget i y hi;exact h.tbox t i x (hlive t ht) hx (by rwa [AV.vqf] at hy)
end Go.Slot
