import Derived.WalkKit
import Derived.WalkSpells
namespace Go.Slot
open Go Go.RowKit
variable {M M':Nat->Nat->Prop} {w w':World} {v:Value} {i:Nat} {tm:Array Value}
inductive Cell where
 | raw (v:Value)
 | ints (k:IntKind) (l:List Int)
 | sl (n:Nat) (rows:List (List Cell))
 | zc
 | nn (b:Bool)
 | fnp (p:(Nat->Nat->Prop)->World->Value->Prop)
 | tok (d:Nat) (c:Cell)
def wf2 (M M':Nat->Nat->Prop) (w w':World):Prop:=∀ b o u,¬M b o->w.cell? ⟨b,o,none⟩=some u->¬M' b o/\w'.cell? ⟨b,o,none⟩=some u
theorem wf2.trans {M'':Nat->Nat->Prop} {w'':World} (h:wf2 M M' w w') (h':wf2 M' M'' w' w''):wf2 M M'' w w'':=fun b o u hm hc=>h' b o u (h b o u hm hc).1 (h b o u hm hc).2
inductive RdC (M:Nat->Nat->Prop) (w:World):Value->Cell->Prop
 | raw {v:Value} (h:v.oneCell'=true):RdC M w v (.raw v)
 | zc {a:Option Addr}:RdC M w (.slice a 0 0) .zc
 | nn {a:Option Addr} {cap:Nat}:RdC M w (.slice a 0 cap) (.nn a.isNone)
 | fnp {v:Value} {p:(Nat->Nat->Prop)->World->Value->Prop} (h:v.oneCell'=true) (hp:∀ M' w',wf2 M M' w w'->p M' w' v):RdC M w v (.fnp p)
 | ints {a:Option Addr} {len cap:Nat} {k:IntKind} {l:List Int} (b off:Nat) (hl:len=l.length) (hc:len<=cap)
  (ha:l≠[]->a=some ⟨b,off,none⟩)
  (h:∀ i (hi:i<l.length),¬M b (off+i)/\w.cell? ⟨b,off+i,none⟩=some (.int k l[i])):RdC M w (.slice a len cap) (.ints k l)
 | sl {a:Option Addr} {len cap n:Nat} {rows:List (List Cell)} (b off:Nat) (u:Nat->Nat->Value) (hl:len=rows.length) (hc:len<=cap)
  (ha:rows≠[]->a=some ⟨b,off,none⟩) (hn:∀ r∈rows,r.length=n)
  (hm:∀ i,i<rows.length->∀ j,j<n->¬M b (off+i*n+j)/\w.cell? ⟨b,off+i*n+j,none⟩=some (u i j))
  (hr:∀ i (hi:i<rows.length) j (hj:j<rows[i].length),RdC M w (u i j) (rows[i][j])):RdC M w (.slice a len cap) (.sl n rows)
theorem RdC.one {c:Cell} (h:RdC M w v c):v.oneCell'=true:=by
 cases h<;>first | rfl | assumption
theorem RdC.keep (hk:wf2 M M' w w') {c:Cell} (h:RdC M w v c):RdC M' w' v c:=by
 induction h with
 | raw h=>exact .raw h
 | zc=>exact .zc
 | nn=>exact .nn
 | fnp h hp=>exact .fnp h (fun M'' w'' hk'=>hp M'' w'' (hk.trans hk'))
 | ints b off hl hc ha h=>exact .ints b off hl hc ha (fun i hi=>hk _ _ _ (h i hi).1 (h i hi).2)
 | sl b off u hl hc ha hn hm _ ih=>exact .sl b off u hl hc ha hn (fun i hi j hj=>hk _ _ _ (hm i hi j hj).1 (hm i hi j hj).2) ih
structure TV where
 v:Value
 sz:Nat
def Cell.esz:Cell->Nat
 | .ints _ _=>1
 | .sl n _=>n
 | .tok _ c=>c.esz
 | _=>0
def RdT (M:Nat->Nat->Prop) (w:World) (τ:Nat->TV) (v:Value):Cell->Prop
 | .tok d c=>(v=(τ d).v/\(τ d).sz=c.esz)/\RdC M w v c
 | c=>RdC M w v c
def RdL (M:Nat->Nat->Prop) (w:World) (τ:Nat->TV):List Value->List Cell->Prop
 | [],[]=>True
 | v::vs,c::cs=>RdT M w τ v c/\RdL M w τ vs cs
 | _,_=>False
def RdD (M:Nat->Nat->Prop) (w:World):List Value->List Cell->Prop
 | [],[]=>True
 | v::vs,c::cs=>RdC M w v c/\RdD M w vs cs
 | _,_=>False
theorem RdT.one {M:Nat->Nat->Prop} {w:World} {τ:Nat->TV} {v:Value} {c:Cell} (h:RdT M w τ v c):v.oneCell'=true:=by
 cases c<;>first | exact RdC.one h | exact h.2.one
def Cell.v7d (d:Nat):Cell->Prop
 | .tok d' c=>d'=d\/c.v7d d
 | _=>False
def w9q (d:Nat):List Cell->Prop
 | []=>False
 | c::cs=>c.v7d d\/w9q d cs
theorem RdT.keep {M M':Nat->Nat->Prop} {w w':World} {τ τ':Nat->TV} (hk:wf2 M M' w w') {v:Value} {c:Cell} (ht:∀ d,c.v7d d->τ' d=τ d)
 (h:RdT M w τ v c):RdT M' w' τ' v c:=by
 cases c with
 | tok d c=>exact ⟨by rw [ht d (.inl rfl)];exact h.1,h.2.keep hk⟩
 | _=>exact RdC.keep hk h
theorem RdL.keep {M M':Nat->Nat->Prop} {w w':World} {τ τ':Nat->TV} (hk:wf2 M M' w w'):∀{vs:List Value} {cs:List Cell},(∀ d,w9q d cs->τ' d=τ d)->
 RdL M w τ vs cs->RdL M' w' τ' vs cs
 | [],[],_,_=>trivial
 | _::_,_::_,ht,h=>⟨h.1.keep hk (fun d hd=>ht d (.inl hd)),h.2.keep hk (fun d hd=>ht d (.inr hd))⟩
theorem RdD.keep {M M':Nat->Nat->Prop} {w w':World} (hk:wf2 M M' w w'):∀{vs:List Value} {cs:List Cell},RdD M w vs cs->RdD M' w' vs cs
 | [],[],_=>trivial
 | _::_,_::_,h=>⟨h.1.keep hk,h.2.keep hk⟩
theorem RdL.length {M:Nat->Nat->Prop} {w:World} {τ:Nat->TV}:∀{vs:List Value} {cs:List Cell},RdL M w τ vs cs->vs.length=cs.length
 | [],[],_=>rfl
 | _::_,_::_,h=>by simp [h.2.length]
theorem RdD.length {M:Nat->Nat->Prop} {w:World}:∀{vs:List Value} {cs:List Cell},RdD M w vs cs->vs.length=cs.length
 | [],[],_=>rfl
 | _::_,_::_,h=>by simp [h.2.length]
theorem RdL.get {M:Nat->Nat->Prop} {w:World} {τ:Nat->TV}:∀{vs:List Value} {cs:List Cell},RdL M w τ vs cs->∀(j:Nat) (c:Cell),cs[j]? = some c->∃ v,vs[j]? = some v/\RdT M w τ v c
 | [],[],_,j,c,hc=>by simp at hc
 | v::vs,c'::cs,h,0,c,hc=>by simp at hc;subst hc;exact ⟨v,by simp,h.1⟩
 | v::vs,c'::cs,h,j+1,c,hc=>by simpa using h.2.get j c (by simpa using hc)
theorem RdL.drop {M:Nat->Nat->Prop} {w:World} {τ:Nat->TV}:∀(n:Nat) {vs:List Value} {cs:List Cell},RdL M w τ vs cs->RdL M w τ (vs.drop n) (cs.drop n)
 | 0,_,_,h=>by simpa using h
 | n+1,[],[],_=>trivial
 | n+1,_::_,_::_,h=>by simpa using h.2.drop n
theorem RdL.take {M:Nat->Nat->Prop} {w:World} {τ:Nat->TV}:∀(n:Nat) {vs:List Value} {cs:List Cell},RdL M w τ vs cs->RdL M w τ (vs.take n) (cs.take n)
 | 0,_,_,_=>trivial
 | _n+1,[],[],_=>trivial
 | n+1,_::_,_::_,h=>⟨h.1,h.2.take n⟩
theorem RdD.drop {M:Nat->Nat->Prop} {w:World}:∀(n:Nat) {vs:List Value} {cs:List Cell},RdD M w vs cs->RdD M w (vs.drop n) (cs.drop n)
 | 0,_,_,h=>by simpa using h
 | n+1,[],[],_=>trivial
 | n+1,_::_,_::_,h=>by simpa using h.2.drop n
theorem RdD.take {M:Nat->Nat->Prop} {w:World}:∀(n:Nat) {vs:List Value} {cs:List Cell},RdD M w vs cs->RdD M w (vs.take n) (cs.take n)
 | 0,_,_,_=>trivial
 | _n+1,[],[],_=>trivial
 | n+1,_::_,_::_,h=>⟨h.1,h.2.take n⟩
theorem RdL.append {M:Nat->Nat->Prop} {w:World} {τ:Nat->TV}:∀{vs:List Value} {cs:List Cell} {us:List Value} {ds:List Cell},RdL M w τ vs cs->RdL M w τ us ds->RdL M w τ (vs++us) (cs++ds)
 | [],[],_,_,_,h=>h
 | _::_,_::_,_,_,h,h'=>⟨h.1,h.2.append h'⟩
theorem RdD.append {M:Nat->Nat->Prop} {w:World}:∀{vs:List Value} {cs:List Cell} {us:List Value} {ds:List Cell},RdD M w vs cs->RdD M w us ds->RdD M w (vs++us) (cs++ds)
 | [],[],_,_,_,h=>h
 | _::_,_::_,_,_,h,h'=>⟨h.1,h.2.append h'⟩
theorem RdL.ones {M:Nat->Nat->Prop} {w:World} {τ:Nat->TV}:∀{vs:List Value} {cs:List Cell},RdL M w τ vs cs->∀ v∈vs,v.oneCell'=true
 | [],[],_,v,hv=>by simp at hv
 | u::vs,_::_,h,v,hv=>by
  rcases List.mem_cons.1 hv with rfl | hv
  . exact h.1.one
  . exact h.2.ones v hv
def Cell.bare:Cell->Cell
 | .tok _ c=>c
 | c=>c
theorem RdT.bare {M:Nat->Nat->Prop} {w:World} {τ:Nat->TV} {v:Value} {c:Cell} (h:RdT M w τ v c):RdC M w v c.bare:=by
 cases c<;>first | exact h | exact h.2
def vc2:List Cell->List Cell
 | []=>[]
 | c::cs=>c.bare::vc2 cs
theorem RdL.bare {M:Nat->Nat->Prop} {w:World} {τ:Nat->TV}:∀{vs:List Value} {cs:List Cell},RdL M w τ vs cs->RdD M w vs (vc2 cs)
 | [],[],_=>trivial
 | _::_,_::_,h=>⟨h.1.bare,h.2.bare⟩
inductive AV where
 | undef
 | any
 | one (c:Cell)
 | agg (cs:List Cell)
 | tup (l:List AV)
 | box (cs:List Cell)
 | ptr (s off:Nat)
 | obx (cs:List Cell)
 | elt (cs:List Cell)
 | arr (pre:List Value) (c:Cell) (post:Option (List Value))
 | asl (s:Nat)
 | awn (s m lo n:Nat)
 | pel (s m i f:Nat)
def gt (I:List AV) (i:Nat):AV:=(I[i]?).getD .any
def blk:Value->Nat
 | .pointer (some a)=>a.block
 | .slice (some a) _ _=>a.block
 | _=>0
def offV:Value->Nat
 | .pointer (some a)=>a.off
 | .slice (some a) _ _=>a.off
 | _=>0
def capV:Value->Nat
 | .slice _ _ c=>c
 | _=>0
def Cell.cnt:Cell->Nat
 | .ints _ l=>l.length
 | .sl _ rows=>rows.length
 | _=>0
def Cell.flat:Cell->List Cell
 | .ints k l=>l.map fun n=>.raw (.int k n)
 | .sl _ rows=>rows.flatten
 | _=>[]
def Cell.uni:Cell->Prop
 | .ints _ _=>True
 | .sl n rows=>∀ r∈rows,r.length=n
 | _=>False
def RdA (M:Nat->Nat->Prop) (w:World) (τ:Nat->TV) (v:Value):AV->Prop
 | .any=>True
 | .undef=>v=Go.undef
 | .one c=>RdT M w τ v c
 | .agg cs=>∃ vs:List Value,v=.agg vs.toArray/\RdL M w τ vs cs
 | _=>False
def RdB (M:Nat->Nat->Prop) (w:World) (v:Value):AV->Prop
 | .any=>True
 | .undef=>v=Go.undef
 | .one c=>RdC M w v c
 | .agg cs=>∃ vs:List Value,v=.agg vs.toArray/\RdD M w vs cs
 | .elt cs=>∃(b off:Nat) (vs:List Value),v=.pointer (some ⟨b,off,none⟩)/\(∀ j u,vs[j]? = some u->¬M b (off+j)/\w.cell? ⟨b,off+j,none⟩=some u)/\RdD M w vs cs
 | _=>False
def RdBL (M:Nat->Nat->Prop) (w:World):List Value->List AV->Prop
 | [],[]=>True
 | v::vs,c::cs=>RdB M w v c/\RdBL M w vs cs
 | _,_=>False
def xb1 (M:Nat->Nat->Prop) (w:World) (τ:Nat->TV) (tm:Array Value) (v:Value):AV->Prop
 | .tup l=>∃ vs:List Value,v=.tuple vs.toArray/\RdBL M w vs l
 | .box cs=>∃(b:Nat) (vs:List Value) (T:TypeId),v=.pointer (some ⟨b,0,none⟩)/\w.heap[b]? = some (.cells vs.toArray T (0,0))/\RdL M w τ vs cs
 | .ptr s off=>v=.pointer (some ⟨blk (tm.getD s Go.undef),off,none⟩)
 | .elt cs=>∃(b off:Nat) (vs:List Value),v=.pointer (some ⟨b,off,none⟩)/\(∀ j u,vs[j]? = some u->¬M b (off+j)/\w.cell? ⟨b,off+j,none⟩=some u)/\RdD M w vs cs
 | .obx cs=>∃(b:Nat) (vs:List Value) (T:TypeId),v=.pointer (some ⟨b,0,none⟩)/\w.heap[b]? = some (.cells vs.toArray T (0,0))/\RdL M w τ vs cs
 | .arr pre c post=>∃(b:Nat) (T:TypeId) (vs q:List Value) (cap:Nat),v=.slice (some ⟨b,pre.length,none⟩) c.cnt cap/\w.heap[b]? = some (.cells (pre++(vs++q)).toArray T (0,0))/\RdD M w vs c.flat/\
  (∀ p,post=some p->q=p)/\c.uni/\c.cnt<=cap/\cap*c.esz<=vs.length+q.length
 | .asl s=>v=tm.getD s Go.undef
 | .awn s m lo n=>∃ ad cap,v=.slice ad n cap/\(cap≠0\/lo=0->ad=some ⟨blk (tm.getD s Go.undef),offV (tm.getD s Go.undef)+lo*m,none⟩)/\n<=cap/\lo+cap<=capV (tm.getD s Go.undef)
 | .pel s m i f=>v=.pointer (some ⟨blk (tm.getD s Go.undef),offV (tm.getD s Go.undef)+i*m+f,none⟩)
 | av=>RdA M w τ v av
def AV.xeo:AV->Bool
 | .box _ | .obx _ | .arr _ _ _=>true
 | _=>false
def AV.w7h:AV->Bool
 | .box _ | .obx _=>true
 | _=>false
def AV.y10:AV->Bool
 | .arr _ _ _=>true
 | _=>false
def AV.fresh:AV->Bool
 | .box _=>true
 | .arr _ _ none=>true
 | _=>false
def AV.rf:AV->Option (Nat×Bool)
 | .ptr s _=>some (s,true)
 | .asl s | .awn s _ _ _ | .pel s _ _ _=>some (s,false)
 | _=>none
def AV.fits (b:Bool) (av:AV):Bool:=if b then av.w7h else av.y10
def AV.v7d (d:Nat):AV->Prop
 | .one c=>c.v7d d
 | .agg cs | .box cs | .obx cs=>w9q d cs
 | _=>False
theorem RdA.keep {M M':Nat->Nat->Prop} {w w':World} {τ τ':Nat->TV} (hk:wf2 M M' w w') {v:Value} {av:AV} (ht:∀ d,av.v7d d->τ' d=τ d)
 (h:RdA M w τ v av):RdA M' w' τ' v av:=by
 cases av with
 | one c=>exact RdT.keep hk ht h
 | agg cs=>obtain ⟨vs,rfl,h⟩:=h;exact ⟨vs,rfl,h.keep hk ht⟩
 | _=>exact h
theorem RdB.keep {M M':Nat->Nat->Prop} {w w':World} (hk:wf2 M M' w w') {v:Value} {av:AV} (h:RdB M w v av):RdB M' w' v av:=by
 cases av with
 | one c=>exact RdC.keep hk h
 | agg cs=>obtain ⟨vs,rfl,h⟩:=h;exact ⟨vs,rfl,h.keep hk⟩
 | elt cs=>obtain ⟨b,off,vs,rfl,hc,h⟩:=h;exact ⟨b,off,vs,rfl,fun j u hj=>hk _ _ _ (hc j u hj).1 (hc j u hj).2,h.keep hk⟩
 | _=>exact h
theorem RdBL.keep {M M':Nat->Nat->Prop} {w w':World} (hk:wf2 M M' w w'):∀{vs:List Value} {l:List AV},RdBL M w vs l->RdBL M' w' vs l
 | [],[],_=>trivial
 | _::_,_::_,h=>⟨h.1.keep hk,h.2.keep hk⟩
theorem RdBL.length {M:Nat->Nat->Prop} {w:World}:∀{vs:List Value} {cs:List AV},RdBL M w vs cs->vs.length=cs.length
 | [],[],_=>rfl
 | _::_,_::_,h=>by simp [h.2.length]
theorem RdBL.get {M:Nat->Nat->Prop} {w:World}:∀{vs:List Value} {cs:List AV},RdBL M w vs cs->∀(j:Nat) (c:AV),cs[j]? = some c->∃ v,vs[j]? = some v/\RdB M w v c
 | [],[],_,j,c,hc=>by simp at hc
 | v::vs,c'::cs,h,0,c,hc=>by simp at hc;subst hc;exact ⟨v,by simp,h.1⟩
 | v::vs,c'::cs,h,j+1,c,hc=>by simpa using h.2.get j c (by simpa using hc)
structure Env where
 w0:World
 M:Nat->Nat->Prop
 X:Nat->Prop
 args:Array Value
 hM:∀ b o,M b o->b<w0.heap.size
abbrev Env.N (E:Env):Nat:=E.w0.heap.size
def tokB:Value->Option Nat
 | .slice (some a) _ (_+1)=>some a.block
 | _=>none
def zal (E:Env) (M:Nat->Nat->Prop) (w:World) (t:TV):Prop:=
 (∃ a,t.v=.slice a 0 0)\/
 ∃(e n:Nat) (xs:List Value),w.ownsRow E.N e t.sz t.v n xs/\∀ g,t.v.ownBlock=some g->∀ o,n*t.sz<=o->M g o
def live (I:List AV) (d:Nat):Prop:=∃(i:Nat) (av:AV),I[i]? = some av/\av.v7d d
structure RelI (E:Env) (τ:Nat->TV) (M:Nat->Nat->Prop) (I:List AV) (a:Act) (w:World):Prop where
 hd:a.defers=[]
 hs:a.tmps.size=I.length
 slot:∀(i:Nat) (av:AV),I[i]? = some av->xb1 M w τ a.tmps (a.tmps.getD i Go.undef) av
 m0:∀ b o,E.M b o->M b o
 mb:∀ b o,M b o->b<w.heap.size
 hold:∀(i:Nat) (av:AV),I[i]? = some av->av.xeo=true->(∀ o,M (blk (a.tmps.getD i Go.undef)) o)/\(E.N<=blk (a.tmps.getD i Go.undef)\/E.X (blk (a.tmps.getD i Go.undef)))/\(av.fresh=true->E.N<=blk (a.tmps.getD i Go.undef))/\
  (av.fresh=false->a.tmps.getD i Go.undef=E.args.getD i Go.undef)
 inj:∀(i j:Nat) (avi avj:AV),I[i]? = some avi->I[j]? = some avj->avi.xeo=true->avj.xeo=true->blk (a.tmps.getD i Go.undef)=blk (a.tmps.getD j Go.undef)->i=j
 refs:∀(i:Nat) (av:AV) (s:Nat) (b:Bool),I[i]? = some av->av.rf=some (s,b)->∃ hv:AV,I[s]? = some hv/\hv.fits b=true
 toks:∀ d:Nat,live I d->zal E M w (τ d)
 tinj:∀(d d' g:Nat),live I d->live I d'->d≠d'->tokB (τ d).v=some g->tokB (τ d').v≠some g
 tbox:∀(d i:Nat) (av:AV),live I d->I[i]? = some av->av.xeo=true->tokB (τ d).v≠some (blk (a.tmps.getD i Go.undef))
 size:E.N<=w.heap.size
 os:w.os=E.w0.os
 tape:w.tape=E.w0.tape
 output:w.output=E.w0.output
 frame:∀ k,k<E.N->¬E.X k->w.heap[k]? = E.w0.heap[k]?
def Rel (E:Env) (I:List AV) (a:Act) (w:World):Prop:=∃ τ M,RelI E τ M I a w
theorem AV.x61 {b:Bool} {av:AV} (h:av.fits b=true):av.xeo=true:=by
 cases b<;>cases av<;>simp_all [AV.fits,AV.w7h,AV.y10,AV.xeo]
variable {E:Env} {τ:Nat->TV} {M:Nat->Nat->Prop} {I:List AV} {a:Act}
theorem RelI.lt (h:RelI E τ M I a w) {av:AV} (hi:I[i]? = some av):i<a.tmps.size:=by
 have:=(List.getElem?_eq_some_iff.1 hi).1
 rw [h.hs];exact this
theorem wf2.below (h:Below w.heap.size w w'):wf2 M M w w':=fun b o u hm hc=>by
 refine ⟨hm,?_⟩;rw [h.cell (p:=⟨b,o,none⟩) (World.block_lt_of_cell? w _ hc)];exact hc
theorem getD_set_ne {d s:Nat} (h:d≠s) (v:Value):(tm.setIfInBounds d v).getD s Go.undef=tm.getD s Go.undef:=by
 simp [h]
theorem xb1.keep {M M':Nat->Nat->Prop} {w w':World} {τ τ':Nat->TV} {tm tm':Array Value} (hk:wf2 M M' w w') {v:Value} {av:AV} (ht:∀ d,av.v7d d->τ' d=τ d)
 (hr:∀ s b,av.rf=some (s,b)->tm'.getD s Go.undef=tm.getD s Go.undef)
 (hh:av.xeo=true->w'.heap[blk v]? = w.heap[blk v]?)
 (h:xb1 M w τ tm v av):xb1 M' w' τ' tm' v av:=by
 cases av with
 | tup l=>obtain ⟨vs,rfl,h⟩:=h;exact ⟨vs,rfl,h.keep hk⟩
 | box cs=>
  obtain ⟨b,vs,T,rfl,hb,h⟩:=h;exact ⟨b,vs,T,rfl,(hh rfl).trans hb,h.keep hk (fun d hd=>ht d (by simpa only [AV.v7d] using hd))⟩
 | ptr s off=>show _=_;rw [hr s _ rfl];exact h
 | elt cs=>
  obtain ⟨b,off,vs,rfl,hc,h⟩:=h;exact ⟨b,off,vs,rfl,fun j u hu=>hk _ _ _ (hc j u hu).1 (hc j u hu).2,h.keep hk⟩
 | obx cs=>obtain ⟨b,vs,T,rfl,hb,h⟩:=h;exact ⟨b,vs,T,rfl,(hh rfl).trans hb,h.keep hk ht⟩
 | arr pre c post=>obtain ⟨b,T,vs,q,cap,rfl,hb,h,hrest⟩:=h;exact ⟨b,T,vs,q,cap,rfl,(hh rfl).trans hb,h.keep hk,hrest⟩
 | asl s=>show _=_;rw [hr s _ rfl];exact h
 | awn s m lo n=>show ∃ _ _,_;rw [hr s _ rfl];exact h
 | pel s m i f=>show _=_;rw [hr s _ rfl];exact h
 | one c=>exact RdA.keep (av:=.one c) hk ht h
 | agg cs=>exact RdA.keep (av:=.agg cs) hk ht h
 | undef=>exact h
 | any=>exact h
theorem xb1.whw {τ:Nat->TV} {av:AV} (h:xb1 M w τ tm v av) (hh:av.xeo=true):blk v<w.heap.size:=by
 cases av with
 | box cs=>obtain ⟨b,vs,T,rfl,hb,h⟩:=h;exact (Array.getElem?_eq_some_iff.1 hb).1
 | obx cs=>obtain ⟨b,vs,T,rfl,hb,h⟩:=h;exact (Array.getElem?_eq_some_iff.1 hb).1
 | arr pre c post=>obtain ⟨b,T,vs,q,cap,rfl,hb,_⟩:=h;exact (Array.getElem?_eq_some_iff.1 hb).1
 | _=>cases hh
theorem zal.below {E:Env} {v:TV} (hb:Below w.heap.size w w') (h:zal E M w v):zal E M w' v:=by
 rcases h with h | ⟨e,n,xs,ho,hm⟩
 . exact .inl h
 . refine .inr ⟨e,n,xs,⟨ho.1,?_⟩,hm⟩
   rcases ho.2 with h | ⟨g,cap,cur,hv,hg,hh,r⟩
   . exact .inl h
   . exact .inr ⟨g,cap,cur,hv,hg,(hb.block g (Array.getElem?_eq_some_iff.1 hh).1).trans hh,r⟩
theorem RelI.below {w w':World} (h:RelI E τ M I a w) (hb:Below w.heap.size w w'):RelI E τ M I a w' where
 hd:=h.hd
 hs:=h.hs
 slot:=fun i av hi=>(h.slot i av hi).keep (wf2.below hb) (fun _ _=>rfl) (fun _ _ _=>rfl) (fun hh=>hb.block _ ((h.slot i av hi).whw hh))
 m0:=h.m0
 mb:=fun b o hm=>Nat.lt_of_lt_of_le (h.mb b o hm) hb.size
 hold:=h.hold
 inj:=h.inj
 refs:=h.refs
 toks:=fun d hd=>(h.toks d hd).below hb
 tinj:=h.tinj
 tbox:=h.tbox
 size:=Nat.le_trans h.size hb.size
 os:=hb.os.trans h.os
 tape:=hb.tape.trans h.tape
 output:=hb.output.trans h.output
 frame:=fun k hk hx=>(hb.block k (Nat.lt_of_lt_of_le hk h.size)).trans (h.frame k hk hx)
theorem Rel.below {w w':World} (h:Rel E I a w) (hb:Below w.heap.size w w'):Rel E I a w':=let ⟨τ,M,h⟩:=h;⟨τ,M,h.below hb⟩
theorem getElem?_set_cases {α:Type} {l:List α} {d:Nat} {x y:α} (h:(l.set d x)[i]? = some y):(i=d/\y=x)\/(i≠d/\l[i]? = some y):=by
 rw [List.getElem?_set] at h;split at h
 . rename_i hdi;split at h
   . simp at h;exact .inl ⟨hdi.symm,h.symm⟩
   . simp at h
 . rename_i hdi;exact .inr ⟨fun e=>hdi e.symm,h⟩
theorem RelI.put {w:World} (h:RelI E τ M I a w) {d:Nat} {old:AV} (hd:I[d]? = some old) (hnh:old.xeo=false) (v:Value) (av:AV) (hav:av.xeo=false)
 (hok:xb1 M w τ a.tmps v av) (hrf:∀(s:Nat) (b:Bool),av.rf=some (s,b)->∃ hv:AV,I[s]? = some hv/\hv.fits b=true) (htok:∀ t,av.v7d t->live I t) :
 RelI E τ M (I.set d av) (a.put (some d) v) w:=by
 have hlt:d<a.tmps.size:=h.lt hd
 have hns:∀(s:Nat) (b:Bool) (hv:AV),I[s]? = some hv->hv.fits b=true->d≠s:=fun s b hv hs hf e=>by
  subst e;rw [hd] at hs;cases hs;have:=AV.x61 hf;rw [hnh] at this;cases this
 have hself:(a.tmps.setIfInBounds d v).getD d Go.undef=v:=by simp [hlt]
 have hlive:∀ t,live (I.set d av) t->live I t:=fun t ⟨i,x,hi,hx⟩=>by
  rcases getElem?_set_cases hi with ⟨_,rfl⟩ | ⟨_,hi⟩
  . exact htok t hx
  . exact ⟨i,x,hi,hx⟩
 refine RelI.mk h.hd (by simpa [Act.put] using h.hs) ?_ h.m0 h.mb ?_ ?_ ?_ ?_ ?_ ?_ h.size h.os h.tape h.output h.frame
 . intro i x hi;show xb1 M w τ (a.tmps.setIfInBounds d v) ((a.tmps.setIfInBounds d v).getD i Go.undef) x
   rcases getElem?_set_cases hi with ⟨rfl,rfl⟩ | ⟨hne,hi⟩
   . rw [hself];exact hok.keep (fun _ _ _ h1 h2=>⟨h1,h2⟩) (fun _ _=>rfl) (fun s b hr=>by obtain ⟨hv,h1,h2⟩:=hrf s b hr;exact getD_set_ne (hns s b hv h1 h2) v) (fun _=>rfl)
   . rw [getD_set_ne (Ne.symm hne)];exact (h.slot i x hi).keep (fun _ _ _ h1 h2=>⟨h1,h2⟩) (fun _ _=>rfl) (fun s b hr=>by obtain ⟨hv,h1,h2⟩:=h.refs i x s b hi hr;exact getD_set_ne (hns s b hv h1 h2) v) (fun _=>rfl)
 . intro i x hi hh;show (∀ o,M (blk ((a.tmps.setIfInBounds d v).getD i Go.undef)) o)/\(_<=blk ((a.tmps.setIfInBounds d v).getD i Go.undef)\/E.X (blk ((a.tmps.setIfInBounds d v).getD i Go.undef)))/\(_->_<=blk ((a.tmps.setIfInBounds d v).getD i Go.undef))/\(_->(a.tmps.setIfInBounds d v).getD i Go.undef=_)
   rcases getElem?_set_cases hi with ⟨rfl,rfl⟩ | ⟨hne,hi⟩
   . rw [hav] at hh;cases hh
   . rw [getD_set_ne (Ne.symm hne)];exact h.hold i x hi hh
 . intro i j x y hi hj hx hy;show blk ((a.tmps.setIfInBounds d v).getD i Go.undef)=blk ((a.tmps.setIfInBounds d v).getD j Go.undef)->_
   rcases getElem?_set_cases hi with ⟨rfl,rfl⟩ | ⟨hne,hi⟩
   . rw [hav] at hx;cases hx
   . rcases getElem?_set_cases hj with ⟨rfl,rfl⟩ | ⟨hne',hj⟩
     . rw [hav] at hy;cases hy
     . rw [getD_set_ne (Ne.symm hne),getD_set_ne (Ne.symm hne')];exact h.inj i j x y hi hj hx hy
 . intro i x s b hi hr
   have:∃ hv:AV,I[s]? = some hv/\hv.fits b=true:=by
    rcases getElem?_set_cases hi with ⟨rfl,rfl⟩ | ⟨hne,hi⟩
    . exact hrf s b hr
    . exact h.refs i x s b hi hr
   obtain ⟨hv,h1,h2⟩:=this;exact ⟨hv,by rw [List.getElem?_set_ne (hns s b hv h1 h2)];exact h1,h2⟩
 . exact fun t ht=>h.toks t (hlive t ht)
 . exact fun t t' g ht ht'=>h.tinj t t' g (hlive t ht) (hlive t' ht')
 . intro t i x ht hi hx;show _≠some (blk ((a.tmps.setIfInBounds d v).getD i Go.undef))
   rcases getElem?_set_cases hi with ⟨rfl,rfl⟩ | ⟨hne,hi⟩
   . rw [hav] at hx;cases hx
   . rw [getD_set_ne (Ne.symm hne)];exact h.tbox t i x (hlive t ht) hi hx
theorem vv5 {E:Env} {v:TV} {g:Nat} (h:zal E M w v) (hg:tokB v.v=some g):E.N<=g/\g<w.heap.size:=by
 rcases h with ⟨a,ha⟩ | ⟨e,n,xs,ho,_⟩
 . rw [ha] at hg;cases a<;>simp [tokB] at hg
 . refine ho.lt g ?_;unfold tokB at hg;split at hg
   . rename_i hv;simp at hg;simp [Value.ownBlock,hg,hv]
   . cases hg
theorem wf2.alloc {M:Nat->Nat->Prop} (w:World) (o:Obj):wf2 M (fun b o=>M b o\/b=w.heap.size) w (w.alloc o):=fun b o' u hm hc=>by
 have hl:=World.block_lt_of_cell? w _ hc;exact ⟨fun hh=>hh.elim hm (fun e=>by simp only at hl;omega),(wf2.below ((Below.refl _ _).alloc (Nat.le_refl _) o) b o' u hm hc).2⟩
theorem RelI.alloc {w:World} (h:RelI E τ M I a w) {d:Nat} {old:AV} (hd:I[d]? = some old) (hnh:old.xeo=false) (o:Obj) (v:Value) (av:AV) (hav:av.xeo=true) (hfrs:av.fresh=true)
 (hv:blk v=w.heap.size)
 (hok:xb1 (fun b o=>M b o\/b=w.heap.size) (w.alloc o) τ a.tmps v av) (htok:∀ t,av.v7d t->live I t) :
 RelI E τ (fun b o=>M b o\/b=w.heap.size) (I.set d av) (a.put (some d) v) (w.alloc o):=by
 have hlt:d<a.tmps.size:=h.lt hd
 have hns:∀(s:Nat) (b:Bool) (hv:AV),I[s]? = some hv->hv.fits b=true->d≠s:=fun s b hv hs hf e=>by
  subst e;rw [hd] at hs;cases hs;have:=AV.x61 hf;rw [hnh] at this;cases this
 have hself:(a.tmps.setIfInBounds d v).getD d Go.undef=v:=by simp [hlt]
 have hlive:∀ t,live (I.set d av) t->live I t:=fun t ⟨i,x,hi,hx⟩=>by
  rcases getElem?_set_cases hi with ⟨_,rfl⟩ | ⟨_,hi⟩
  . exact htok t hx
  . exact ⟨i,x,hi,hx⟩
 have hb:Below w.heap.size w (w.alloc o):=(Below.refl _ _).alloc (Nat.le_refl _) o;have hk:=wf2.alloc (M:=M) w o
 have hmb:∀ b o',(M b o'\/b=w.heap.size)->b<(w.alloc o).heap.size:=by
  rintro b o' (hm | rfl)
  . exact Nat.lt_of_lt_of_le (h.mb b o' hm) hb.size
  . simp
 refine RelI.mk h.hd (by simpa [Act.put] using h.hs) ?_ (fun b o hm=>.inl (h.m0 b o hm)) hmb ?_ ?_ ?_ ?_ ?_ ?_ (Nat.le_trans h.size hb.size) h.os h.tape h.output
  (fun k hk hx=>(hb.block k (Nat.lt_of_lt_of_le hk h.size)).trans (h.frame k hk hx))
 . intro i x hi;show xb1 _ (w.alloc o) τ (a.tmps.setIfInBounds d v) ((a.tmps.setIfInBounds d v).getD i Go.undef) x
   rcases getElem?_set_cases hi with ⟨rfl,rfl⟩ | ⟨hne,hi⟩
   . rw [hself];exact hok.keep (fun _ _ _ h1 h2=>⟨h1,h2⟩) (fun _ _=>rfl) (fun s b hr=>by cases x<;>simp [AV.rf,AV.xeo] at hr hav) (fun _=>rfl)
   . rw [getD_set_ne (Ne.symm hne)];exact (h.slot i x hi).keep hk (fun _ _=>rfl) (fun s b hr=>by obtain ⟨hv,h1,h2⟩:=h.refs i x s b hi hr;exact getD_set_ne (hns s b hv h1 h2) v) (fun hh=>hb.block _ ((h.slot i x hi).whw hh))
 . intro i x hi hh;show (∀ o',M (blk ((a.tmps.setIfInBounds d v).getD i Go.undef)) o'\/blk ((a.tmps.setIfInBounds d v).getD i Go.undef)=_)/\(_<=blk ((a.tmps.setIfInBounds d v).getD i Go.undef)\/E.X (blk ((a.tmps.setIfInBounds d v).getD i Go.undef)))/\(_->_<=blk ((a.tmps.setIfInBounds d v).getD i Go.undef))/\(_->(a.tmps.setIfInBounds d v).getD i Go.undef=_)
   rcases getElem?_set_cases hi with ⟨rfl,rfl⟩ | ⟨hne,hi⟩
   . rw [hself];exact ⟨fun _=>.inr hv,.inl (by rw [hv];exact h.size),fun _=>by rw [hv];exact h.size,fun e=>by rw [hfrs] at e;cases e⟩
   . rw [getD_set_ne (Ne.symm hne)];exact ⟨fun o=>.inl ((h.hold i x hi hh).1 o),(h.hold i x hi hh).2⟩
 . intro i j x y hi hj hx hy;show blk ((a.tmps.setIfInBounds d v).getD i Go.undef)=blk ((a.tmps.setIfInBounds d v).getD j Go.undef)->_
   rcases getElem?_set_cases hi with ⟨rfl,rfl⟩ | ⟨hne,hi'⟩
   . rcases getElem?_set_cases hj with ⟨rfl,rfl⟩ | ⟨hne',hj⟩
     . exact fun _=>rfl
     . rw [hself,getD_set_ne (Ne.symm hne'),hv];intro e
       have:=(h.slot j y hj).whw hy
       omega
   . rcases getElem?_set_cases hj with ⟨rfl,rfl⟩ | ⟨hne',hj⟩
     . rw [hself,getD_set_ne (Ne.symm hne),hv];intro e
       have:=(h.slot i x hi').whw hx
       omega
     . rw [getD_set_ne (Ne.symm hne),getD_set_ne (Ne.symm hne')];exact h.inj i j x y hi' hj hx hy
 . intro i x s b hi hr
   have:∃ hv:AV,I[s]? = some hv/\hv.fits b=true:=by
    rcases getElem?_set_cases hi with ⟨rfl,rfl⟩ | ⟨hne,hi⟩
    . cases x<;>simp [AV.rf,AV.xeo] at hr hav
    . exact h.refs i x s b hi hr
   obtain ⟨hv,h1,h2⟩:=this;exact ⟨hv,by rw [List.getElem?_set_ne (hns s b hv h1 h2)];exact h1,h2⟩
 . intro t ht
   rcases (h.toks t (hlive t ht)).below hb with h' | ⟨e,n,xs,ho,hm⟩
   . exact .inl h'
   . exact .inr ⟨e,n,xs,ho,fun g hg o ho=>.inl (hm g hg o ho)⟩
 . exact fun t t' g ht ht'=>h.tinj t t' g (hlive t ht) (hlive t' ht')
 . intro t i x ht hi hx;show _≠some (blk ((a.tmps.setIfInBounds d v).getD i Go.undef))
   rcases getElem?_set_cases hi with ⟨rfl,rfl⟩ | ⟨hne,hi⟩
   . rw [hself,hv];intro e
     have:=(vv5 (h.toks t (hlive t ht)) e).2
     omega
   . rw [getD_set_ne (Ne.symm hne)];exact h.tbox t i x (hlive t ht) hi hx
theorem RelI.ylj (h:RelI E τ M I a w) (hb:Below w.heap.size w w') {d:Nat} {old:AV} (hd:I[d]? = some old) (hnh:old.xeo=false) (v:Value) (av:AV) (hav:av.xeo=true) (hfrs:av.fresh=true)
 (hv:w.heap.size<=blk v) (hvl:blk v<w'.heap.size)
 (hok:xb1 (fun b o=>M b o\/b=blk v) w' τ a.tmps v av) (htok:∀ t,av.v7d t->live I t) :
 RelI E τ (fun b o=>M b o\/b=blk v) (I.set d av) (a.put (some d) v) w':=by
 have hlt:d<a.tmps.size:=h.lt hd
 have hns:∀(s:Nat) (b:Bool) (hv:AV),I[s]? = some hv->hv.fits b=true->d≠s:=fun s b hv hs hf e=>by
  subst e;rw [hd] at hs;cases hs;have:=AV.x61 hf;rw [hnh] at this;cases this
 have hself:(a.tmps.setIfInBounds d v).getD d Go.undef=v:=by simp [hlt]
 have hlive:∀ t,live (I.set d av) t->live I t:=fun t ⟨i,x,hi,hx⟩=>by
  rcases getElem?_set_cases hi with ⟨_,rfl⟩ | ⟨_,hi⟩
  . exact htok t hx
  . exact ⟨i,x,hi,hx⟩
 have hk:wf2 M (fun b o=>M b o\/b=blk v) w w':=fun b o' u hm hc=>by
  have hl:=World.block_lt_of_cell? w _ hc;exact ⟨fun hh=>hh.elim hm (fun e=>by simp only at hl;omega),(wf2.below hb b o' u hm hc).2⟩
 have hmb:∀ b o',(M b o'\/b=blk v)->b<w'.heap.size:=by
  rintro b o' (hm | rfl)
  . exact Nat.lt_of_lt_of_le (h.mb b o' hm) hb.size
  . exact hvl
 refine RelI.mk h.hd (by simpa [Act.put] using h.hs) ?_ (fun b o hm=>.inl (h.m0 b o hm)) hmb ?_ ?_ ?_ ?_ ?_ ?_ (Nat.le_trans h.size hb.size) (hb.os.trans h.os) (hb.tape.trans h.tape) (hb.output.trans h.output)
  (fun k hk hx=>(hb.block k (Nat.lt_of_lt_of_le hk h.size)).trans (h.frame k hk hx))
 . intro i x hi;show xb1 _ w' τ (a.tmps.setIfInBounds d v) ((a.tmps.setIfInBounds d v).getD i Go.undef) x
   rcases getElem?_set_cases hi with ⟨rfl,rfl⟩ | ⟨hne,hi⟩
   . rw [hself];exact hok.keep (fun _ _ _ h1 h2=>⟨h1,h2⟩) (fun _ _=>rfl) (fun s b hr=>by cases x<;>simp [AV.rf,AV.xeo] at hr hav) (fun _=>rfl)
   . rw [getD_set_ne (Ne.symm hne)];exact (h.slot i x hi).keep hk (fun _ _=>rfl) (fun s b hr=>by obtain ⟨hv,h1,h2⟩:=h.refs i x s b hi hr;exact getD_set_ne (hns s b hv h1 h2) v) (fun hh=>hb.block _ ((h.slot i x hi).whw hh))
 . intro i x hi hh;show (∀ o',M (blk ((a.tmps.setIfInBounds d v).getD i Go.undef)) o'\/blk ((a.tmps.setIfInBounds d v).getD i Go.undef)=_)/\(_<=blk ((a.tmps.setIfInBounds d v).getD i Go.undef)\/E.X (blk ((a.tmps.setIfInBounds d v).getD i Go.undef)))/\(_->_<=blk ((a.tmps.setIfInBounds d v).getD i Go.undef))/\(_->(a.tmps.setIfInBounds d v).getD i Go.undef=_)
   rcases getElem?_set_cases hi with ⟨rfl,rfl⟩ | ⟨hne,hi⟩
   . rw [hself];exact ⟨fun _=>.inr rfl,.inl (Nat.le_trans h.size hv),fun _=>Nat.le_trans h.size hv,fun e=>by rw [hfrs] at e;cases e⟩
   . rw [getD_set_ne (Ne.symm hne)];exact ⟨fun o=>.inl ((h.hold i x hi hh).1 o),(h.hold i x hi hh).2⟩
 . intro i j x y hi hj hx hy;show blk ((a.tmps.setIfInBounds d v).getD i Go.undef)=blk ((a.tmps.setIfInBounds d v).getD j Go.undef)->_
   rcases getElem?_set_cases hi with ⟨rfl,rfl⟩ | ⟨hne,hi'⟩
   . rcases getElem?_set_cases hj with ⟨rfl,rfl⟩ | ⟨hne',hj⟩
     . exact fun _=>rfl
     . rw [hself,getD_set_ne (Ne.symm hne')];intro e
       have:=(h.slot j y hj).whw hy
       omega
   . rcases getElem?_set_cases hj with ⟨rfl,rfl⟩ | ⟨hne',hj⟩
     . rw [hself,getD_set_ne (Ne.symm hne)];intro e
       have:=(h.slot i x hi').whw hx
       omega
     . rw [getD_set_ne (Ne.symm hne),getD_set_ne (Ne.symm hne')];exact h.inj i j x y hi' hj hx hy
 . intro i x s b hi hr
   have:∃ hv:AV,I[s]? = some hv/\hv.fits b=true:=by
    rcases getElem?_set_cases hi with ⟨rfl,rfl⟩ | ⟨hne,hi⟩
    . cases x<;>simp [AV.rf,AV.xeo] at hr hav
    . exact h.refs i x s b hi hr
   obtain ⟨hv,h1,h2⟩:=this;exact ⟨hv,by rw [List.getElem?_set_ne (hns s b hv h1 h2)];exact h1,h2⟩
 . intro t ht
   rcases (h.toks t (hlive t ht)).below hb with h' | ⟨e,n,xs,ho,hm⟩
   . exact .inl h'
   . exact .inr ⟨e,n,xs,ho,fun g hg o ho=>.inl (hm g hg o ho)⟩
 . exact fun t t' g ht ht'=>h.tinj t t' g (hlive t ht) (hlive t' ht')
 . intro t i x ht hi hx;show _≠some (blk ((a.tmps.setIfInBounds d v).getD i Go.undef))
   rcases getElem?_set_cases hi with ⟨rfl,rfl⟩ | ⟨hne,hi⟩
   . rw [hself];intro e
     have:=(vv5 (h.toks t (hlive t ht)) e).2
     omega
   . rw [getD_set_ne (Ne.symm hne)];exact h.tbox t i x (hlive t ht) hi hx
end Go.Slot
namespace Go.Slot
open Go Go.RowKit
variable {E:Env} {τ:Nat->TV} {M:Nat->Nat->Prop} {I:List AV} {a:Act}
variable {w:World} {ad:Option Addr} {v:Value}
theorem RelI.rewrite (h:RelI E τ M I a w) {s:Nat} {old new:AV} (hs:I[s]? = some old) (ho:old.xeo=true) (hn:new.xeo=true) (hf:∀ b,old.fits b=true->new.fits b=true) (hfr:new.fresh=old.fresh)
 (cur':Array Value) (hok:∀ vs T,w.heap[blk (a.tmps.getD s Go.undef)]? = some (.cells vs T (0,0))->xb1 M (w.setRow (blk (a.tmps.getD s Go.undef)) cur') τ a.tmps (a.tmps.getD s Go.undef) new)
 (htok:∀ t,new.v7d t->live I t):RelI E τ M (I.set s new) a (w.setRow (blk (a.tmps.getD s Go.undef)) cur'):=by
 generalize hb:blk (a.tmps.getD s Go.undef)=b at *;have hM:∀ o,M b o:=hb▸(h.hold s old hs ho).1
 have hcells:∃ vs T,w.heap[b]? = some (.cells vs T (0,0)):=by
  have hsl:=h.slot s old hs
  cases old with
  | box cs=>obtain ⟨b',vs,T,e,hh,_⟩:=hsl;rw [e] at hb;exact ⟨_,T,by rw [<-hb];exact hh⟩
  | obx cs=>obtain ⟨b',vs,T,e,hh,_⟩:=hsl;rw [e] at hb;exact ⟨_,T,by rw [<-hb];exact hh⟩
  | arr pre c post=>obtain ⟨b',T,vs,q,cap,e,hh,_⟩:=hsl;rw [e] at hb;exact ⟨_,T,by rw [<-hb];exact hh⟩
  | _=>cases ho
 obtain ⟨vs0,T0,hheap⟩:=hcells
 have hk:wf2 M M w (w.setRow b cur'):=fun b' o u hm hc=>⟨hm,by
  rw [cell_setRow_other]
  . exact hc
  . exact fun e=>hm (by rw [show b'=b from e];exact hM o)⟩
 have hlive:∀ t,live (I.set s new) t->live I t:=fun t ⟨i,x,hi,hx⟩=>by
  rcases getElem?_set_cases hi with ⟨_,rfl⟩ | ⟨_,hi⟩
  . exact htok t hx
  . exact ⟨i,x,hi,hx⟩
 refine RelI.mk h.hd (by simpa using h.hs) ?_ h.m0 (fun b o hm=>by rw [setRow_size];exact h.mb b o hm) ?_ ?_ ?_ ?_ ?_ ?_ (by rw [setRow_size];exact h.size) h.os h.tape h.output ?_
 . intro i x hi
   rcases getElem?_set_cases hi with ⟨rfl,rfl⟩ | ⟨hne,hi⟩
   . exact hok vs0 T0 hheap
   . refine (h.slot i x hi).keep hk (fun _ _=>rfl) (fun _ _ _=>rfl) (fun hh=>setRow_other w b _ cur' ?_)
     exact fun e=>hne (h.inj i s x old hi hs hh ho (e.trans hb.symm))
 . intro i x hi hh
   rcases getElem?_set_cases hi with ⟨rfl,rfl⟩ | ⟨hne,hi⟩
   . exact hfr▸h.hold i old hs ho
   . exact h.hold i x hi hh
 . intro i j x y hi hj hx hy
   have key:∀(i:Nat) (x:AV),(I.set s new)[i]? = some x->x.xeo=true->∃ x':AV,I[i]? = some x'/\x'.xeo=true:=fun i x hi hx=>by
    rcases getElem?_set_cases hi with ⟨rfl,rfl⟩ | ⟨hne,hi⟩
    . exact ⟨old,hs,ho⟩
    . exact ⟨x,hi,hx⟩
   obtain ⟨x',hi',hx'⟩:=key i x hi hx;obtain ⟨y',hj',hy'⟩:=key j y hj hy;exact h.inj i j x' y' hi' hj' hx' hy'
 . intro i x s' b' hi hr
   have:∃ hv:AV,I[s']? = some hv/\hv.fits b'=true:=by
    rcases getElem?_set_cases hi with ⟨rfl,rfl⟩ | ⟨hne,hi⟩
    . cases x<;>simp [AV.rf,AV.xeo] at hr hn
    . exact h.refs i x s' b' hi hr
   obtain ⟨hv,h1,h2⟩:=this;by_cases e:s'=s
   . subst e;rw [hs] at h1;cases h1;have hl:s'<I.length:=(List.getElem?_eq_some_iff.1 hs).1;exact ⟨new,by simp [hl],hf _ h2⟩
   . exact ⟨hv,by rw [List.getElem?_set_ne (Ne.symm e)];exact h1,h2⟩
 . intro t ht
   rcases h.toks t (hlive t ht) with h' | ⟨e,n,xs,hown,hm⟩
   . exact .inl h'
   . rcases hown.2 with ⟨h1,_⟩ | ⟨g,cap,cur,hv,hg,hh,hnc,r⟩
     . exact .inl ⟨none,h1⟩
     . cases cap with
       | zero=>exact .inl ⟨some ⟨g,0,none⟩,by rw [hv];simp at hnc;rw [hnc]⟩
       | succ cap=>
        refine .inr ⟨e,n,xs,⟨hown.1,.inr ⟨g,cap+1,cur,hv,hg,?_,hnc,r⟩⟩,hm⟩;rw [setRow_other]
        . exact hh
        . rintro rfl;exact h.tbox t s old (hlive t ht) hs ho (by rw [hv,hb];rfl)
 . exact fun t t' g ht ht'=>h.tinj t t' g (hlive t ht) (hlive t' ht')
 . intro t i x ht hi hx
   rcases getElem?_set_cases hi with ⟨rfl,rfl⟩ | ⟨hne,hi⟩
   . exact h.tbox t i old (hlive t ht) hs ho
   . exact h.tbox t i x (hlive t ht) hi hx
 . intro k hk' hx;rw [setRow_other]
   . exact h.frame k hk' hx
   . rintro rfl
     rcases (h.hold s old hs ho).2.1 with h1 | h1
     . rw [hb] at h1;omega
     . rw [hb] at h1;exact hx h1
inductive Cell.Le:Cell->Cell->Prop
 | refl (c:Cell):Cell.Le c c
 | w5j (k:IntKind):Cell.Le (.raw (.slice none 0 0)) (.ints k [])
 | nilSl (n:Nat):Cell.Le (.raw (.slice none 0 0)) (.sl n [])
 | nilZc:Cell.Le (.raw (.slice none 0 0)) .zc
 | zuc (k:IntKind):Cell.Le .zc (.ints k [])
 | zcSl (n:Nat):Cell.Le .zc (.sl n [])
 | nnInts (b:Bool) (k:IntKind):Cell.Le (.nn b) (.ints k [])
 | nnSl (b:Bool) (n:Nat):Cell.Le (.nn b) (.sl n [])
 | untok (d:Nat) (c:Cell):Cell.Le (.tok d c) c
 | trans {a b c:Cell} (h:Cell.Le a b) (h':Cell.Le b c):Cell.Le a c
 | inTok (d:Nat) {c c':Cell} (h:Cell.Le c c') (he:c.esz=c'.esz):Cell.Le (.tok d c) (.tok d c')
variable {c c':Cell}
theorem RdC.zuc (k:IntKind):RdC M w (.slice ad 0 0) (.ints k []):=
 .ints 0 0 rfl (Nat.le_refl _) (fun h=>absurd rfl h) (fun i hi=>absurd hi (Nat.not_lt_zero i))
theorem RdC.zcSl (n:Nat):RdC M w (.slice ad 0 0) (.sl n []):=
 .sl 0 0 (fun _ _=>Go.undef) rfl (Nat.le_refl _) (fun h=>absurd rfl h) (fun r hr=>by cases hr) (fun i hi=>absurd hi (Nat.not_lt_zero i)) (fun i hi=>absurd hi (Nat.not_lt_zero i))
theorem RdC.xxy {d:Nat} (h:RdC M w v (.tok d c)):False:=by cases h
theorem RdC.le (hle:Cell.Le c c') (h:RdC M w v c):RdC M w v c':=by
 induction hle with
 | refl=>exact h
 | w5j k=>cases h;exact RdC.zuc k
 | nilSl n=>cases h;exact RdC.zcSl n
 | nilZc=>cases h;exact RdC.zc
 | zuc k=>cases h;exact RdC.zuc k
 | zcSl n=>cases h;exact RdC.zcSl n
 | nnInts b k=>cases h;exact .ints 0 0 rfl (Nat.zero_le _) (fun h=>absurd rfl h) (fun i hi=>absurd hi (Nat.not_lt_zero i))
 | nnSl b n=>cases h;exact .sl 0 0 (fun _ _=>Go.undef) rfl (Nat.zero_le _) (fun h=>absurd rfl h) (fun r hr=>by cases hr) (fun i hi=>absurd hi (Nat.not_lt_zero i)) (fun i hi=>absurd hi (Nat.not_lt_zero i))
 | untok=>exact h.xxy.elim
 | inTok=>exact h.xxy.elim
 | trans _ _ ih1 ih2=>exact ih2 (ih1 h)
theorem RdT.of (h:RdC M w v c):RdT M w τ v c:=by
 cases c with
 | tok d c=>exact h.xxy.elim
 | _=>exact h
theorem RdT.le {w:World} {v:Value} {c c':Cell} (hle:Cell.Le c c') (h:RdT M w τ v c):RdT M w τ v c':=by
 induction hle with
 | refl=>exact h
 | w5j k=>exact RdC.le (.w5j k) h
 | nilSl n=>exact RdC.le (.nilSl n) h
 | nilZc=>exact RdC.le .nilZc h
 | zuc k=>exact RdC.le (.zuc k) h
 | zcSl n=>exact RdC.le (.zcSl n) h
 | nnInts b k=>exact RdC.le (.nnInts b k) h
 | nnSl b n=>exact RdC.le (.nnSl b n) h
 | untok d=>exact RdT.of h.2
 | inTok d hle he _=>exact ⟨he▸h.1,h.2.le hle⟩
 | trans _ _ ih1 ih2=>exact ih2 (ih1 h)
theorem Cell.Le.tok (h:Cell.Le c c') {d:Nat} (hd:c'.v7d d):c.v7d d:=by
 induction h with
 | refl=>exact hd
 | untok=>exact .inr hd
 | inTok d' _ _ ih=>exact hd.imp id ih
 | trans _ _ ih1 ih2=>exact ih1 (ih2 hd)
 | _=>cases hd
inductive LeL:List Cell->List Cell->Prop
 | nil:LeL [] []
 | cons {c c':Cell} {l l':List Cell} (h:Cell.Le c c') (t:LeL l l'):LeL (c::l) (c'::l')
theorem LeL.refl:∀ l:List Cell,LeL l l
 | []=>.nil
 | c::l=>.cons (.refl c) (LeL.refl l)
theorem RdL.le {w:World}:∀{vs:List Value} {cs cs':List Cell},LeL cs cs'->RdL M w τ vs cs->RdL M w τ vs cs'
 | [],_,_,.nil,_=>trivial
 | _::_,_,_,.cons h t,⟨h1,h2⟩=>⟨h1.le h,RdL.le t h2⟩
 | [],_,_,.cons _ _,h=>h.elim
 | _::_,_,_,.nil,h=>h.elim
theorem LeL.tok:∀{cs cs':List Cell},LeL cs cs'->∀{d:Nat},w9q d cs'->w9q d cs
 | _,_,.nil,_,h=>h
 | _,_,.cons h t,_,hd=>hd.elim (fun x=>.inl (h.tok x)) (fun x=>.inr (LeL.tok t x))
inductive AV.Le:AV->AV->Prop
 | refl (x:AV):AV.Le x x
 | any (x:AV):AV.Le x .any
 | one {c c':Cell} (h:Cell.Le c c'):AV.Le (.one c) (.one c')
 | agg {c c':List Cell} (h:LeL c c'):AV.Le (.agg c) (.agg c')
 | box {c c':List Cell} (h:LeL c c'):AV.Le (.box c) (.box c')
 | obx {c c':List Cell} (h:LeL c c'):AV.Le (.obx c) (.obx c')
theorem AV.Le.tok {x y:AV} (h:AV.Le x y) {d:Nat} (hd:y.v7d d):x.v7d d:=by
 cases h with
 | refl=>exact hd
 | any=>cases x<;>simp [AV.v7d] at hd
 | one h=>simp only [AV.v7d] at hd ⊢;exact h.tok hd
 | agg h=>simp only [AV.v7d] at hd ⊢;exact h.tok hd
 | box h=>simp only [AV.v7d] at hd ⊢;exact h.tok hd
 | obx h=>simp only [AV.v7d] at hd ⊢;exact h.tok hd
theorem xb1.le {w:World} {tm:Array Value} {v:Value} {x y:AV} (h:AV.Le x y) (hs:xb1 M w τ tm v x):xb1 M w τ tm v y:=by
 cases h with
 | refl=>exact hs
 | any=>exact trivial
 | one h=>exact RdT.le h hs
 | agg h=>obtain ⟨vs,rfl,h'⟩:=hs;exact ⟨vs,rfl,h'.le h⟩
 | box h=>obtain ⟨b,vs,T,rfl,hb,h'⟩:=hs;exact ⟨b,vs,T,rfl,hb,h'.le h⟩
 | obx h=>obtain ⟨b,vs,T,rfl,hb,h'⟩:=hs;exact ⟨b,vs,T,rfl,hb,h'.le h⟩
theorem AV.Le.fresh {x y:AV} (h:AV.Le x y) (hy:y.xeo=true):x.fresh=y.fresh:=by
 cases h<;>first | rfl | cases hy
theorem AV.Le.xeo {x y:AV} (h:AV.Le x y) (hy:y.xeo=true):x.xeo=true:=by
 cases h<;>first | exact hy | rfl | cases hy
inductive LeS:List AV->List AV->Prop
 | nil:LeS [] []
 | cons {c c':AV} {l l':List AV} (h:AV.Le c c') (t:LeS l l'):LeS (c::l) (c'::l')
theorem LeS.refl:∀ l:List AV,LeS l l
 | []=>.nil
 | c::l=>.cons (.refl c) (LeS.refl l)
theorem LeS.length:∀{l l':List AV},LeS l l'->l.length=l'.length
 | _,_,.nil=>rfl
 | _,_,.cons _ t=>by simp [t.length]
theorem LeS.get:∀{l l':List AV},LeS l l'->∀(i:Nat) (y:AV),l'[i]? = some y->∃ x,l[i]? = some x/\AV.Le x y
 | _,_,.nil,i,y,h=>by simp at h
 | _,_,.cons h _,0,y,hy=>by simp at hy;subst hy;exact ⟨_,by simp,h⟩
 | _,_,.cons _ t,i+1,y,hy=>by simpa using t.get i y (by simpa using hy)
def xqc (I:List AV):Bool:=I.all fun av=>match av.rf with
 | none=>true
 | some (s,b)=>match I[s]? with
  | some hv=>hv.fits b
  | none=>false
theorem xqc.spec {I:List AV} (h:xqc I=true) {i:Nat} {av:AV} {s:Nat} {b:Bool} (hi:I[i]? = some av) (hr:av.rf=some (s,b)):∃ hv:AV,I[s]? = some hv/\hv.fits b=true:=by
 have hm:av∈I:=List.mem_of_getElem? hi
 have:=(List.all_eq_true.1 h) av hm
 simp only [hr] at this;split at this
 . rename_i hv hs;exact ⟨hv,hs,this⟩
 . cases this
def Cell.strip (d:Nat):Cell->Cell
 | .tok d' c=>if d'=d then c.strip d else .tok d' (c.strip d)
 | c=>c
def yvb (d:Nat):List Cell->List Cell
 | []=>[]
 | c::cs=>c.strip d::yvb d cs
def AV.strip (d:Nat):AV->AV
 | .one c=>.one (c.strip d)
 | .agg cs=>.agg (yvb d cs)
 | .box cs=>.box (yvb d cs)
 | .obx cs=>.obx (yvb d cs)
 | x=>x
def x7y (d:Nat):List AV->List AV
 | []=>[]
 | x::l=>x.strip d::x7y d l
def Cell.wi1 (d:Nat):Cell->Bool
 | .tok d' c=>d' != d&&c.wi1 d
 | _=>true
def z3p (d:Nat):List Cell->Bool
 | []=>true
 | c::cs=>c.wi1 d&&z3p d cs
def AV.wi1 (d:Nat):AV->Bool
 | .one c=>c.wi1 d
 | .agg cs | .box cs | .obx cs=>z3p d cs
 | _=>true
theorem Cell.z1t {d:Nat}:∀{c:Cell},c.wi1 d=true->¬c.v7d d
 | .tok d' c,h=>by
  simp only [Cell.wi1,Bool.and_eq_true,bne_iff_ne] at h;rintro (h' | h')
  . exact h.1 h'
  . exact Cell.z1t h.2 h'
 | .raw _,_ | .ints _ _,_ | .sl _ _,_ | .zc,_ | .nn _,_ | .fnp _,_=>fun h=>h
theorem wwc {d:Nat}:∀{cs:List Cell},z3p d cs=true->¬w9q d cs
 | [],_=>fun h=>h
 | c::cs,h=>by
  simp only [z3p,Bool.and_eq_true] at h;rintro (h' | h')
  . exact Cell.z1t h.1 h'
  . exact wwc h.2 h'
theorem AV.z1t {d:Nat} {x:AV} (h:x.wi1 d=true):¬x.v7d d:=by
 cases x with
 | one c=>exact Cell.z1t h
 | agg cs=>exact wwc h
 | box cs=>exact wwc h
 | obx cs=>exact wwc h
 | _=>exact fun h=>h
theorem Cell.yrf (d:Nat):∀ c:Cell,(c.strip d).wi1 d=true
 | .tok d' c=>by
  unfold Cell.strip
  split
  . exact Cell.yrf d c
  . rename_i hne;simp [Cell.wi1,Cell.yrf d c,hne]
 | .raw _ | .ints _ _ | .sl _ _ | .zc | .nn _ | .fnp _=>rfl
theorem x28 (d:Nat):∀ cs:List Cell,z3p d (yvb d cs)=true
 | []=>rfl
 | c::cs=>by simp [z3p,yvb,Cell.yrf,x28 d cs]
theorem AV.yrf (d:Nat) (x:AV):(x.strip d).wi1 d=true:=by
 cases x with
 | one c=>exact Cell.yrf d c
 | agg cs=>exact x28 d cs
 | box cs=>exact x28 d cs
 | obx cs=>exact x28 d cs
 | _=>rfl
theorem Cell.zd5 (d:Nat):∀ c:Cell,(c.strip d).esz=c.esz
 | .tok d' c=>by
  unfold Cell.strip
  split
  . rw [Cell.zd5 d c];rfl
  . simp [Cell.esz,Cell.zd5 d c]
 | .raw _ | .ints _ _ | .sl _ _ | .zc | .nn _ | .fnp _=>rfl
theorem Cell.Le.strip (d:Nat):∀ c:Cell,Cell.Le c (c.strip d)
 | .tok d' c=>by
  unfold Cell.strip
  split
  . exact .trans (.untok d' c) (Cell.Le.strip d c)
  . exact .inTok d' (Cell.Le.strip d c) (Cell.zd5 d c).symm
 | .raw _ | .ints _ _ | .sl _ _ | .zc | .nn _ | .fnp _=>.refl _
theorem LeL.strip (d:Nat):∀ cs:List Cell,LeL cs (yvb d cs)
 | []=>.nil
 | c::cs=>.cons (Cell.Le.strip d c) (LeL.strip d cs)
theorem AV.Le.strip (d:Nat) (x:AV):AV.Le x (x.strip d):=by
 cases x with
 | one c=>exact .one (Cell.Le.strip d c)
 | agg cs=>exact .agg (LeL.strip d cs)
 | box cs=>exact .box (LeL.strip d cs)
 | obx cs=>exact .obx (LeL.strip d cs)
 | _=>exact .refl _
theorem LeS.strip (d:Nat):∀ I:List AV,LeS I (x7y d I)
 | []=>.nil
 | x::l=>.cons (AV.Le.strip d x) (LeS.strip d l)
theorem vbc (d:Nat):∀(I:List AV) (i:Nat),(x7y d I)[i]? = (I[i]?).map (AV.strip d)
 | [],i=>by simp [x7y]
 | x::l,0=>by simp [x7y]
 | x::l,i+1=>by simpa [x7y] using vbc d l i
theorem AV.ysk (d:Nat) (x:AV):(x.strip d).rf=x.rf:=by cases x<;>rfl
theorem AV.vt6 (d:Nat) (x:AV) (b:Bool):(x.strip d).fits b=x.fits b:=by cases x<;>cases b<;>rfl
theorem AV.zpz (d:Nat) (x:AV):(x.strip d).fresh=x.fresh:=by cases x<;>rfl
theorem AV.vl0 (d:Nat) (x:AV):(x.strip d).xeo=x.xeo:=by cases x<;>rfl
theorem RelI.strip {w:World} (h:RelI E τ M I a w) (d:Nat):RelI E τ M (x7y d I) a w:=by
 have hle:=LeS.strip d I
 have hget:∀(i:Nat) (y:AV),(x7y d I)[i]? = some y->∃ x,I[i]? = some x/\y=x.strip d:=fun i y hi=>by
  rw [vbc] at hi
  cases hx:I[i]? with
  | none=>rw [hx] at hi;cases hi
  | some x=>rw [hx] at hi;exact ⟨x,rfl,by simpa using hi.symm⟩
 have hlive:∀ t,live (x7y d I) t->live I t:=fun t ⟨i,y,hi,hy⟩=>by
  obtain ⟨x,hx,hxy⟩:=hle.get i y hi;exact ⟨i,x,hx,hxy.tok hy⟩
 refine RelI.mk h.hd (by rw [h.hs,hle.length]) ?_ h.m0 h.mb ?_ ?_ ?_ ?_ ?_ ?_ h.size h.os h.tape h.output h.frame
 . intro i y hi;obtain ⟨x,hx,hxy⟩:=hle.get i y hi;exact (h.slot i x hx).le hxy
 . intro i y hi hy;obtain ⟨x,hx,rfl⟩:=hget i y hi
   have:=h.hold i x hx (by rwa [AV.vl0] at hy)
   rw [AV.zpz];exact this
 . intro i j y z hi hj hy hz;obtain ⟨x,hx,rfl⟩:=hget i y hi;obtain ⟨x',hx',rfl⟩:=hget j z hj;exact h.inj i j x x' hx hx' (by rwa [AV.vl0] at hy) (by rwa [AV.vl0] at hz)
 . intro i y s b hi hr';obtain ⟨x,hx,rfl⟩:=hget i y hi;rw [AV.ysk] at hr';obtain ⟨hv,h1,h2⟩:=h.refs i x s b hx hr';exact ⟨hv.strip d,by rw [vbc,h1];rfl,by rwa [AV.vt6]⟩
 . exact fun t ht=>h.toks t (hlive t ht)
 . exact fun t t' g ht ht'=>h.tinj t t' g (hlive t ht) (hlive t' ht')
 . intro t i y ht hi hy;obtain ⟨x,hx,rfl⟩:=hget i y hi;exact h.tbox t i x (hlive t ht) hx (by rwa [AV.vl0] at hy)
end Go.Slot
namespace Go.Slot
open Go Go.RowKit
variable {P:Program} {t:TypeId} {i:TypeInfo} {M:Nat->Nat->Prop} {w:World} {τ:Nat->TV} {av:AV} {I:List AV} {o:Oper} {rd:List Nat}
inductive Sh where
 | int (k:IntKind)
 | bool
 | string
 | struct (fs:List (Nat×Nat×TypeId))
 | array (n e es:Nat)
 | slice (e es eb:Nat) (ik:Option IntKind)
 | map (k e:TypeId)
 | cell
 | other
structure TI where
 size:Nat
 bytes:Nat
 zc:List Cell
 sh:Sh
def zm7:Value->Cell
 | .slice none 0 0=>.zc
 | v=>.raw v
def shOf (P:Program):TypeDesc->Sh
 | .int k=>.int k
 | .bool=>.bool
 | .string=>.string
 | .struct fs=>if (fs.toList.all fun f=>P.cellsOf f.type != 0) then .struct (fs.toList.map fun f=>(f.offset,P.cellsOf f.type,f.type)) else .other
 | .array n e=>.array n e (P.cellsOf e)
 | .slice e=>match P.info? e with
  | some i=>match i.zero with
   | some z=>if i.size != 0&&z.cells.size==i.size then .slice e i.size i.bytes (match P.underlying e with | some (.int k)=>some k | _=>none) else .other
   | none=>.other
  | none=>.other
 | .map k e=>.map k e
 | .pointer _=>.cell
 | .func _ _ _=>.cell
 | .interface _=>.cell
 | .unsafePointer=>.cell
 | _=>.other
def mkTI (P:Program) (t:TypeId):Option TI:=
 match P.underlying t,P.info? t with
 | some d,some i=>match i.zero with
  | some z=>if z.cells.toList.all (·.oneCell')&&z.cells.size==i.size then some ⟨i.size,i.bytes,z.cells.toList.map zm7,shOf P d⟩ else none
  | none=>none
 | _,_=>none
structure TIok (P:Program) (t:TypeId) (ti:TI):Prop where
 ex:∃(d:TypeDesc) (i:TypeInfo) (z:Value),P.underlying t=some d/\P.info? t=some i/\i.zero=some z/\i.size=ti.size/\i.bytes=ti.bytes/\
  z.cells.size=ti.size/\(∀ v∈z.cells.toList,v.oneCell'=true)/\ti.zc=z.cells.toList.map zm7/\ti.sh=shOf P d
theorem wgk {ti : TI} (h : mkTI P t = some ti) : TIok P t ti := by
 unfold mkTI at h;split at h
 . rename_i d i hd hi;split at h
   . rename_i z hz;split at h
     . rename_i hc;simp only [Bool.and_eq_true,List.all_eq_true,beq_iff_eq] at hc
       cases h;exact ⟨d,i,z,hd,hi,hz,rfl,rfl,hc.2,hc.1,rfl,rfl⟩
     . cases h
   . cases h
 . cases h
def Sh.agg:Sh->Bool
 | .struct _ | .array _ _ _=>true
 | _=>false
def Sh.plain:Sh->Bool
 | .int _ | .bool | .string | .slice _ _ _ _ | .map _ _ | .cell=>true
 | _=>false
def TI.many (ti:TI):Option Bool:=if ti.sh.agg then some true else if ti.sh.plain then some false else none
section
variable {P:Program} {w:World}
theorem w9c {d:TypeDesc} (h:P.underlying t=some d):(underlying t).run P w=.ok d w:=run_underlying h w
theorem yyt (h:P.info? t=some i):(sizeOf t).run P w=.ok i.size w:=by simp [sizeOf,typeInfo,h]
theorem wx4 {z:Value} (h:P.info? t=some i) (hz:i.zero=some z):(zeroValue t).run P w=.ok z w:=by simp [zeroValue,typeInfo,h,hz]
theorem zc8 {d:TypeDesc} (h:(shOf P d).agg=true):(∃ fs,d=.struct fs)\/∃ n e,d=.array n e:=by
 cases d with
 | struct fs=>exact .inl ⟨fs,rfl⟩
 | array n e=>exact .inr ⟨n,e,rfl⟩
 | slice e=>
  exfalso;revert h;unfold shOf;dsimp only
  split
  . split
    . split<;>simp [Sh.agg]
    . simp [Sh.agg]
  . simp [Sh.agg]
 | _=>simp [shOf,Sh.agg] at h
theorem ztj {d:TypeDesc} (h:(shOf P d).plain=true):(∀ fs,d≠.struct fs)/\∀ n e,d≠.array n e:=by
 cases d with
 | struct fs=>
  exfalso;revert h;unfold shOf;dsimp only
  split<;>simp [Sh.plain]
 | array n e=>simp [shOf,Sh.plain] at h
 | _=>simp
theorem TIok.vkb {ti:TI} (h:TIok P t ti) {b:Bool} (hb:ti.many=some b):(isAgg t).run P w=.ok b w:=by
 obtain ⟨d,i,z,hd,hi,hz,_,_,_,_,_,hsh⟩:=h.ex;unfold TI.many at hb;rw [hsh] at hb;unfold isAgg;simp only [Sem.run_bind,w9c hd,Result.andThen_ok];split at hb
 . rename_i ha
   cases hb
   rcases zc8 ha with ⟨fs,rfl⟩ | ⟨n,e,rfl⟩<;>rfl
 . split at hb
   . rename_i hp
     cases hb
     have:=ztj hp
     cases d<;>first | rfl | exact absurd rfl (this.1 _) | exact absurd rfl (this.2 _ _)
   . cases hb
end
def z1h:Value->AV
 | .agg vs=>if vs.toList.all (·.oneCell') then .agg (vs.toList.map .raw) else .any
 | .tuple _=>.any
 | v=>.one (.raw v)
def opd (I:List AV):Operand->AV
 | .tmp t=>gt I t
 | .const v=>z1h v
 | .func f=>.one (.raw (.func (.func f) #[] #[]))
 | .global _=>.any
def orr:Operand->List Nat
 | .tmp t=>[t]
 | _=>[]
def x2j (rd:List Nat) (I I':List AV):Prop:=I'.length=I.length/\∀ r∈rd,gt I' r=gt I r
theorem x2j.opd {rd:List Nat} {I I':List AV} (h:x2j rd I I') {x:Operand} (hx:∀ t∈orr x,t∈rd):opd I' x=opd I x:=by
 cases x with
 | tmp t=>exact h.2 t (hx t (by simp [orr]))
 | _=>rfl
theorem RdL.raws {M:Nat->Nat->Prop} {w:World} {τ:Nat->TV}:∀{vs:List Value},(∀ v∈vs,v.oneCell'=true)->RdL M w τ vs (vs.map .raw)
 | [],_=>trivial
 | v::vs,h=>⟨RdC.raw (h v (by simp)),RdL.raws (fun u hu=>h u (by simp [hu]))⟩
theorem ywq (v:Value):RdA M w τ v (z1h v):=by
 unfold z1h
 split
 . rename_i vs
   split
   . rename_i h;exact ⟨vs.toList,by simp,RdL.raws (fun v hv=>(List.all_eq_true.1 h) v hv)⟩
   . trivial
 . trivial
 . rename_i h1 h2;exact RdC.raw (by cases v<;>simp_all [Value.oneCell'])
theorem RdA.slot {tm:Array Value} {v:Value} (h:RdA M w τ v av):xb1 M w τ tm v av:=by
 cases av<;>first | exact h | exact h.elim
section
variable {E:Env} {τ:Nat->TV} {M:Nat->Nat->Prop} {I:List AV} {a:Act} {w:World}
theorem RelI.gt (h:RelI E τ M I a w) (t:Nat):xb1 M w τ a.tmps (a.tmps.getD t Go.undef) (gt I t):=by
 unfold Slot.gt
 cases ht:I[t]? with
 | none=>exact trivial
 | some av=>exact h.slot t av ht
theorem RelI.opd (h:RelI E τ M I a w) (x:Operand):xb1 M w τ a.tmps (a.eval x) (opd I x):=by
 cases x with
 | tmp t=>exact h.gt t
 | const v=>exact (ywq v).slot
 | func f=>exact RdC.raw rfl
 | global g=>exact trivial
theorem y94 {t:Nat} (h:gt I t=av) (hne:av≠.any):I[t]? = some av:=by
 unfold gt at h
 cases ht:I[t]? with
 | none=>rw [ht] at h;exact absurd h.symm hne
 | some x=>rw [ht] at h;simp at h;rw [h]
theorem y29 {x:Operand} {t:Nat} (ht:(Slot.opd I x).v7d t):live I t:=by
 cases x with
 | tmp s=>
  refine ⟨s,Slot.gt I s,y94 rfl (fun e=>?_),ht⟩;simp only [Slot.opd] at ht;rw [e] at ht;exact ht
 | const v=>
  simp only [Slot.opd,z1h] at ht;split at ht
  . split at ht
    . exfalso;rename_i vs _;simp only [AV.v7d] at ht;generalize vs.toList=l at ht
      induction l with
      | nil=>exact ht
      | cons c l ih=>exact ht.elim (fun h=>h) ih
    . exact ht.elim
  . exact ht.elim
  . exact ht.elim
 | func f=>exact ht.elim
 | global g=>exact ht.elim
end
def app:List (Nat×AV)->List AV->List AV
 | [],I=>I
 | (s,v)::r,I=>app r (I.set s v)
def vni (P:Program) (o:Oper) (I:List AV) (rd tk:List Nat) (eff:List (Nat×AV)):Prop:=
 ∀(E:Env) (I':List AV) (a:Act) (w:World),x2j rd I I'->(∀ t∈tk,∀ i,(gt I' i).v7d t->i∈rd)->Rel E I' a w->∀(K:Act->World->Prop) (Q:Exit->Act->World->Prop),
  (∀ a' w',Rel E (app eff I') a' w'->K a' w')->o.wp P a w K Q
def nh (I:List AV) (d:Nat):Bool:=match I[d]? with
 | some av=>!av.xeo
 | none=>false
theorem xd0 {d:Nat} (h:nh I d=true):∃ old,I[d]? = some old/\old.xeo=false:=by
 unfold nh at h;split at h
 . rename_i av hav;exact ⟨av,hav,by simpa using h⟩
 . cases h
theorem x2j.nh {rd:List Nat} {I I':List AV} (h:x2j rd I I') {d:Nat} (hd:d∈rd) (hn:nh I d=true):nh I' d=true:=by
 obtain ⟨old,h1,h2⟩:=xd0 hn
 have hlt:d<I'.length:=by rw [h.1];exact (List.getElem?_eq_some_iff.1 h1).1
 have:=h.2 d hd
 unfold Slot.gt at this;rw [h1,List.getElem?_eq_getElem hlt] at this;simp at this;unfold Slot.nh;rw [List.getElem?_eq_getElem hlt];simp [this,h2]
theorem vni.val {d:Nat} (hdst:o.dst=some d) (hd:d∈rd) (hn:nh I d=true) (hav:av.xeo=false)
 (hrun:∀(E:Env) (τ:Nat->TV) (M:Nat->Nat->Prop) (I':List AV) (a:Act) (w:World),x2j rd I I'->RelI E τ M I' a w->
   ∃ v w',(execOp a.eval o).run P w=.ok (.value v) w'/\Below w.heap.size w w'/\xb1 M w' τ a.tmps v av/\(∀ t,av.v7d t->live I' t)/\
    (∀(s:Nat) (b:Bool),av.rf=some (s,b)->∃ hv:AV,I'[s]? = some hv/\hv.fits b=true)):vni P o I rd [] [(d,av)]:=by
 intro E I' a w hag _ ⟨τ,M,h⟩ K Q hK;obtain ⟨v,w',hr,hb,hok,htok,hrf⟩:=hrun E τ M I' a w hag h;obtain ⟨old,h1,h2⟩:=xd0 (hag.nh hd hn);unfold Oper.wp;rw [hr];show K (a.put o.dst v) w';rw [hdst];exact hK _ _ ⟨τ,M,(h.below hb).put h1 h2 v av hav hok hrf htok⟩
theorem vni.new {d:Nat} (hdst:o.dst=some d) (hd:d∈rd) (hn:nh I d=true) (hav:av.xeo=true) (hfrs:av.fresh=true)
 (hrun:∀(E:Env) (τ:Nat->TV) (M:Nat->Nat->Prop) (I':List AV) (a:Act) (w:World),x2j rd I I'->RelI E τ M I' a w->
   ∃ v ob,(execOp a.eval o).run P w=.ok (.value v) (w.alloc ob)/\blk v=w.heap.size/\xb1 (fun b o=>M b o\/b=w.heap.size) (w.alloc ob) τ a.tmps v av/\(∀ t,av.v7d t->live I' t)) :
 vni P o I rd [] [(d,av)]:=by
 intro E I' a w hag _ ⟨τ,M,h⟩ K Q hK;obtain ⟨v,ob,hr,hb,hok,htok⟩:=hrun E τ M I' a w hag h;obtain ⟨old,h1,h2⟩:=xd0 (hag.nh hd hn);unfold Oper.wp;rw [hr];show K (a.put o.dst v) _;rw [hdst];exact hK _ _ ⟨τ,_,h.alloc h1 h2 ob v av hav hfrs hb hok htok⟩
end Go.Slot
namespace Go.Slot
open Go Go.RowKit
variable {P:Program}
variable {o:Oper} {rd:List Nat} {x:Operand} {M:Nat->Nat->Prop} {w:World} {v:Value} {T:TypeId} {ti:TI} {τ:Nat->TV} {tm:Array Value} {t i f b:Nat} {vs:List Value}
def val (I:List AV) (o:Oper) (rd:List Nat) (av:AV):Option (List Nat×List (Nat×AV)):=
 match o.dst with
 | some d=>if nh I d then some (d::rd,[(d,av)]) else none
 | none=>none
theorem y56 {I:List AV} {av:AV} {r:List Nat×List (Nat×AV)} (h:val I o rd av=some r) :
 ∃ d,o.dst=some d/\nh I d=true/\r=(d::rd,[(d,av)]):=by
 unfold val at h;split at h
 . rename_i d hd;split at h
   . rename_i hn;cases h;exact ⟨d,hd,hn,rfl⟩
   . cases h
 . cases h
theorem vpa (w:World):Below w.heap.size w w:=Below.refl _ _
def cpy (x:Operand):AV->AV
 | .box _=>match x with
  | .tmp t=>.ptr t 0
  | _=>.any
 | .obx _=>match x with
  | .tmp t=>.ptr t 0
  | _=>.any
 | .arr _ _ _=>match x with
  | .tmp t=>.asl t
  | _=>.any
 | av=>av
theorem yq7 {I:List AV} (ho:o.op=.move x\/o.op=.assign x) {r:List Nat×List (Nat×AV)}
 (h:val I o (orr x) (cpy x (opd I x))=some r):vni P o I r.1 [] r.2:=by
 obtain ⟨d,hdst,hn,rfl⟩:=y56 h;refine vni.val hdst (by simp) hn (by cases opd I x<;>cases x<;>rfl) (fun E τ M I' a w hag hI=>?_);have hop:opd I' x=opd I x:=hag.opd (fun t ht=>by simp [ht])
 have hrun:(execOp a.eval o).run P w=.ok (.value (a.eval x)) w:=by
  rcases ho with ho | ho<;>simp [execOp,ho]
 have hs:=hI.opd x;refine ⟨a.eval x,w,hrun,vpa w,?_,?_,?_⟩
 . rw [← hop]
   cases hx:opd I' x with
   | box cs=>
    rw [hx] at hs
    cases x with
    | tmp t=>
     obtain ⟨b,vs,T,e,_,_⟩:=hs;show _=Value.pointer (some ⟨blk (a.eval (.tmp t)),0,none⟩);rw [e];rfl
    | _=>exact trivial
   | obx cs=>
    rw [hx] at hs
    cases x with
    | tmp t=>
     obtain ⟨b,vs,T,e,_,_⟩:=hs;show _=Value.pointer (some ⟨blk (a.eval (.tmp t)),0,none⟩);rw [e];rfl
    | _=>exact trivial
   | arr pre c post=>
    cases x with
    | tmp t=>exact rfl
    | _=>exact trivial
   | _=>rw [hx] at hs;exact hs
 . intro t ht;rw [<-hop] at ht;refine y29 (x:=x) ?_
   cases hx:opd I' x<;>rw [hx] at ht<;>first | exact ht | (cases x<;>exact ht.elim)
 . intro s b hr;rw [<-hop] at hr
   cases hx:opd I' x<;>rw [hx] at hr
   case box cs=>
    cases x with
    | tmp t=>simp [cpy,AV.rf] at hr;obtain ⟨rfl,rfl⟩:=hr;exact ⟨_,y94 hx (by simp),rfl⟩
    | _=>simp [cpy,AV.rf] at hr
   case obx cs=>
    cases x with
    | tmp t=>simp [cpy,AV.rf] at hr;obtain ⟨rfl,rfl⟩:=hr;exact ⟨_,y94 hx (by simp),rfl⟩
    | _=>simp [cpy,AV.rf] at hr
   case arr pre c post=>
    cases x with
    | tmp t=>simp [cpy,AV.rf] at hr;obtain ⟨rfl,rfl⟩:=hr;exact ⟨_,y94 hx (by simp),rfl⟩
    | _=>simp [cpy,AV.rf] at hr
   case any=>exfalso;cases x<;>simp [cpy,AV.rf] at hr
   all_goals
    cases x with
    | tmp t=>
     exact hI.refs t _ s b (y94 hx (by simp)) hr
    | const v=>
     exfalso;simp only [opd,z1h] at hx;split at hx
     . split at hx<;>(cases hx;try simp [cpy,AV.rf] at hr)
     . cases hx;try simp [cpy,AV.rf] at hr
     . cases hx;try simp [cpy,AV.rf] at hr
    | func f=>simp only [opd] at hx;cases hx<;>simp [cpy,AV.rf] at hr
    | global g=>simp only [opd] at hx;cases hx<;>simp [cpy,AV.rf] at hr
theorem RdC.x18 {u:Value} (h:RdC M w v (.raw u)):v=u:=by cases h;rfl
def zlz (I:List AV) (c x y:Operand):Option AV:=
 match opd I c with
 | .one (.raw (.bool b))=>match opd I x,opd I y with
  | .one (.raw (.bool p)),.one (.raw (.bool q))=>some (.one (.raw (.bool (bif b then p else q))))
  | .one (.raw u),.undef=>if b=true then some (.one (.raw u)) else none
  | .undef,.one (.raw v)=>if b=false then some (.one (.raw v)) else none
  | _,_=>none
 | _=>none
theorem zy1 {I:List AV} {c y:Operand} (ho:o.op=.pick c x y) {av:AV} (hp:zlz I c x y=some av) {r:List Nat×List (Nat×AV)}
 (h:val I o (orr c++orr x++orr y) av=some r):vni P o I r.1 [] r.2:=by
 obtain ⟨d,hdst,hn,rfl⟩:=y56 h
 have hraw:∃ u,av=.one (.raw u)/\u.oneCell'=true\/av=.one (.raw u):=by
  unfold zlz at hp
  repeat' split at hp
  all_goals first | (cases hp;exact ⟨_,.inr rfl⟩) | cases hp
 have hnh:av.xeo=false:=by obtain ⟨u,h | h⟩:=hraw<;>simp_all [AV.xeo]
 have hrf0:av.rf=none:=by obtain ⟨u,h | h⟩:=hraw<;>simp_all [AV.rf]
 have htk:∀ t,¬av.v7d t:=by obtain ⟨u,h | h⟩:=hraw<;>simp_all [AV.v7d,Cell.v7d]
 refine vni.val hdst (by simp) hn hnh (fun E τ M I' a w hag hI=>?_);have hc:opd I' c=opd I c:=hag.opd (fun t ht=>by simp [ht]);have hx:opd I' x=opd I x:=hag.opd (fun t ht=>by simp [ht]);have hy:opd I' y=opd I y:=hag.opd (fun t ht=>by simp [ht]);have sc:=hI.opd c;have sx:=hI.opd x;have sy:=hI.opd y;rw [hc] at sc;rw [hx] at sx;rw [hy] at sy
 have key:∃ b:Bool,a.eval c=.bool b/\xb1 M w τ a.tmps (if b then a.eval x else a.eval y) av:=by
  unfold zlz at hp;split at hp
  . rename_i b hcb;rw [hcb] at sc;have hbv:a.eval c=.bool b:=RdC.x18 sc;refine ⟨b,hbv,?_⟩;split at hp
    . rename_i p q hxp hyq;rw [hxp] at sx;rw [hyq] at sy
      cases hp;have e1:a.eval x=.bool p:=RdC.x18 sx;have e2:a.eval y=.bool q:=RdC.x18 sy;rw [e1,e2]
      cases b<;>exact RdC.raw rfl
    . rename_i u hxu hyu;rw [hxu] at sx;split at hp
      . rename_i hb;cases hp;simp only [hb,if_true];exact sx
      . cases hp
    . rename_i v hxu hyu;rw [hyu] at sy;split at hp
      . rename_i hb;cases hp;simp only [hb];exact sy
      . cases hp
    . cases hp
  . cases hp
 obtain ⟨b,hb,hs⟩:=key;refine ⟨if b then a.eval x else a.eval y,w,?_,vpa w,hs,fun t ht=>absurd ht (htk t),fun s b' hr=>by rw [hrf0] at hr;cases hr⟩;simp [execOp,ho,hb,asBool]
theorem vo6 (h:v.oneCell'=true):RdC M w v (zm7 v):=by
 unfold zm7
 split
 . exact RdC.zc
 . exact RdC.raw h
theorem zs3 {M:Nat->Nat->Prop} {w:World} {τ:Nat->TV}:∀{l:List Value},(∀ v∈l,v.oneCell'=true)->RdL M w τ l (l.map zm7)
 | [],_=>trivial
 | v::l,h=>⟨RdT.of (vo6 (h v (by simp))),zs3 (fun u hu=>h u (by simp [hu]))⟩
theorem xa4 {t:Nat}:∀ l:List Value,¬w9q t (l.map zm7)
 | []=>fun h=>h
 | v::l=>fun h=>h.elim (fun h=>by unfold zm7 at h;split at h<;>exact h) (xa4 l)
theorem xp1 (w:World) (o:Obj):(w.alloc o).heap[w.heap.size]? = some o:=heap_alloc_new w o
theorem whs {I:List AV} (ho:o.op=.alloc T) (hti:mkTI P T=some ti) {r:List Nat×List (Nat×AV)}
 (h:val I o [] (.box ti.zc)=some r):vni P o I r.1 [] r.2:=by
 obtain ⟨d,hdst,hn,rfl⟩:=y56 h;refine vni.new hdst (by simp) hn rfl rfl (fun E τ M I' a w hag hI=>?_);obtain ⟨ds,i,z,hd,hi,hz,hsz,hby,hzs,hone,hzc,hsh⟩:=(wgk hti).ex;refine ⟨.pointer (some ⟨w.heap.size,0,none⟩),.cells z.cells T,?_,rfl,⟨w.heap.size,z.cells.toList,T,rfl,by rw [Array.toArray_toList];exact xp1 w _,?_⟩,?_⟩
 . simp [execOp,ho,Instr.alloc,wx4 hi hz,newVar,newRow]
 . rw [hzc];exact zs3 hone
 . intro t ht;rw [hzc] at ht;exact absurd ht (xa4 _)
def xwy:AV->Option (List Cell)
 | .one c=>some [c]
 | .agg cs=>some cs
 | _=>none
theorem vur {av:AV} {cs:List Cell} (hc:xwy av=some cs) (h:xb1 M w τ tm v av) :
 RdL M w τ v.cells.toList cs:=by
 cases av with
 | one c=>
  cases hc
  have h1:v.cells=#[v]:=by
   have:=RdT.one h
   cases v<;>first | rfl | cases this
  rw [h1];exact ⟨h,trivial⟩
 | agg cs'=>
  cases hc;obtain ⟨vs,rfl,h⟩:=h;simpa [Value.cells] using h
 | _=>cases hc
theorem x2v {av:AV} {cs:List Cell} (hc:xwy av=some cs) (h:w9q t cs):av.v7d t:=by
 cases av with
 | one c=>cases hc;exact h.elim id (fun h=>h.elim)
 | agg cs'=>cases hc;exact h
 | _=>cases hc
theorem vj8 {I:List AV} (ho:o.op=.box T x) {cs:List Cell} (hcs:xwy (opd I x)=some cs) {r:List Nat×List (Nat×AV)}
 (h:val I o (orr x) (.box cs)=some r):vni P o I r.1 [] r.2:=by
 obtain ⟨d,hdst,hn,rfl⟩:=y56 h;refine vni.new hdst (by simp) hn rfl rfl (fun E τ M I' a w hag hI=>?_);have hop:opd I' x=opd I x:=hag.opd (fun t ht=>by simp [ht]);have hs:=hI.opd x;rw [hop] at hs;have hr:=vur hcs hs;refine ⟨.pointer (some ⟨w.heap.size,0,none⟩),.cells (a.eval x).cells T,?_,rfl,⟨w.heap.size,(a.eval x).cells.toList,T,rfl,by rw [Array.toArray_toList];exact xp1 w _,hr.keep (wf2.alloc w _) (fun _ _=>rfl)⟩,?_⟩
 . simp [execOp,ho,Instr.box,newVar,newRow]
 . intro t ht
   have:=x2v hcs ht
   rw [<-hop] at this;exact y29 this
def AV.vwb:AV->Option (List Cell)
 | .box cs=>some cs
 | .obx cs=>some cs
 | _=>none
variable {av:AV}
def AV.xuy:AV->List Cell->AV
 | .obx _,cs=>.obx cs
 | _,cs=>.box cs
theorem wtd {cs:List Cell} (h:xb1 M w τ tm v av) (hb:av.vwb=some cs) :
 ∃(b:Nat) (vs:List Value) (T:TypeId),v=.pointer (some ⟨b,0,none⟩)/\w.heap[b]? = some (.cells vs.toArray T (0,0))/\RdL M w τ vs cs:=by
 cases av with
 | box cs'=>cases hb;exact h
 | obx cs'=>cases hb;exact h
 | _=>cases hb
theorem yhs {cs:List Cell} (hb:av.vwb=some cs):av.xeo=true/\av.fits true=true/\av≠.any:=by
 cases av<;>first | (cases hb;exact ⟨rfl,rfl,by simp⟩) | cases hb
theorem yuw {cs:List Cell} (hb:av.vwb=some cs) (t:Nat):av.v7d t↔w9q t cs:=by
 cases av<;>first | (cases hb;exact Iff.rfl) | cases hb
def Cell.at (c:Cell) (i f:Nat):Option (List Cell):=match c with
 | .ints k l=>if i<l.length/\f=0 then some [.raw (.int k (l.getD i 0))] else none
 | .sl _ rows=>if i<rows.length then some ((rows.getD i []).drop f) else none
 | _=>none
variable {c:Cell}
def Cell.upd (c:Cell) (i f:Nat) (us:List Cell):Option Cell:=match c with
 | .ints k l=>match us with
  | [.raw (.int k' n)]=>if k=k'/\i<l.length/\f=0 then some (.ints k (l.set i n)) else none
  | _=>none
 | .sl m rows=>if i<rows.length/\f+us.length<=m then some (.sl m (rows.set i ((rows.getD i []).take f++us++(rows.getD i []).drop (f+us.length)))) else none
 | _=>none
theorem vh1 {α:Type} {m:Nat}:∀(rows:List (List α)) (i:Nat),(∀ r∈rows,r.length=m)->rows.flatten.drop (i*m)=(rows.drop i).flatten
 | rows,0,_=>by simp
 | [],i+1,_=>by simp
 | r::rows,i+1,h=>by
  have hr:=h r (by simp);rw [List.flatten_cons,List.drop_succ_cons,<-vh1 rows i (fun r hr=>h r (by simp [hr])),Nat.succ_mul,Nat.add_comm,<-List.drop_drop,<-hr,List.drop_left]
theorem ybp {α:Type} {m:Nat}:∀(rows:List (List α)) (i:Nat),(∀ r∈rows,r.length=m)->rows.flatten.take (i*m)=(rows.take i).flatten
 | rows,0,_=>by simp
 | [],i+1,_=>by simp
 | r::rows,i+1,h=>by
  have hr:=h r (by simp);rw [List.flatten_cons,List.take_succ_cons,List.flatten_cons,<-ybp rows i (fun r hr=>h r (by simp [hr])),Nat.succ_mul,Nat.add_comm,<-hr,List.take_length_add_append]
theorem yno {α:Type} {m:Nat}:∀(rows:List (List α)),(∀ r∈rows,r.length=m)->rows.flatten.length=rows.length*m
 | [],_=>by simp
 | r::rows,h=>by
  rw [List.flatten_cons,List.length_append,yno rows (fun r hr=>h r (by simp [hr])),h r (by simp),List.length_cons,Nat.succ_mul];omega
theorem Cell.wg8 (h:c.uni):c.flat.length=c.cnt*c.esz:=by
 cases c with
 | ints k l=>simp [Cell.flat,Cell.cnt,Cell.esz]
 | sl n rows=>exact yno rows h
 | _=>exact h.elim
theorem Cell.zgr (hu:c.uni) {cs:List Cell} (h:c.at i f=some cs):i<c.cnt/\∃ r,c.flat.drop (i*c.esz+f)=cs++r:=by
 cases c with
 | ints k l=>
  simp only [Cell.at] at h;split at h
  . rename_i hc;obtain ⟨hi,rfl⟩:=hc
    cases h;refine ⟨hi,(l.drop (i+1)).map fun n=>.raw (.int k n),?_⟩;simp only [Cell.flat,Cell.esz,Nat.mul_one,Nat.add_zero];rw [List.drop_eq_getElem_cons (by simpa using hi)];simp [hi]
  . cases h
 | sl m rows=>
  simp only [Cell.at] at h;split at h
  . rename_i hi
    cases h;refine ⟨hi,((rows.drop (i+1)).flatten.drop (f-m)),?_⟩;have hu:∀ r∈rows,r.length=m:=hu;simp only [Cell.flat,Cell.esz];rw [<-List.drop_drop,vh1 rows i hu,List.drop_eq_getElem_cons hi,List.flatten_cons,List.drop_append,hu _ (List.getElem_mem hi)];simp [hi]
  . cases h
 | _=>cases h
theorem Cell.zmp {c':Cell} (hu : c.uni) {us : List Cell} (h : c.upd i f us = some c') :
 c'.uni/\c'.cnt=c.cnt/\c'.esz=c.esz/\i*c.esz+f+us.length<=c.flat.length/\c'.flat=c.flat.take (i*c.esz+f)++us++c.flat.drop (i*c.esz+f+us.length):=by
 cases c with
 | ints k l=>
  simp only [Cell.upd] at h;split at h
  . split at h
    . rename_i hc;obtain ⟨rfl,hi,rfl⟩:=hc
      cases h;refine ⟨trivial,by simp [Cell.cnt],rfl,by simp [Cell.esz,Cell.flat];omega,?_⟩;simp only [Cell.flat,Cell.esz,Nat.mul_one,Nat.add_zero,<-List.map_drop,<-List.map_take,List.length_cons,List.length_nil];rw [List.set_eq_take_append_cons_drop,if_pos hi];simp
    . cases h
  . cases h
 | sl m rows=>
  simp only [Cell.upd] at h;split at h
  . rename_i hc;obtain ⟨hi,hf⟩:=hc
    cases h;have hu:∀ r∈rows,r.length=m:=hu;have hrl:=hu _ (List.getElem_mem hi)
    have hge:rows.getD i []=rows[i]:=by simp [hi]
    rw [hge]
    have hnew:(rows[i].take f++us++rows[i].drop (f+us.length)).length=m:=by simp [hrl];omega
    refine ⟨fun r hr=>?_,by simp [Cell.cnt],rfl,?_,?_⟩
    . rcases List.mem_or_eq_of_mem_set hr with h | h
      . exact hu r h
      . rw [h];exact hnew
    . simp only [Cell.esz,Cell.flat];rw [yno rows hu]
      have:(i+1)*m<=rows.length*m:=Nat.mul_le_mul_right _ hi
      rw [Nat.succ_mul] at this;omega
    . simp only [Cell.esz,Cell.flat];rw [List.set_eq_take_append_cons_drop,if_pos hi,List.flatten_append,List.flatten_cons]
      have e1:rows.flatten.take (i*m+f)=(rows.take i).flatten++rows[i].take f:=by
       rw [List.take_add,ybp rows i hu,vh1 rows i hu,List.drop_eq_getElem_cons hi,List.flatten_cons,List.take_append_of_le_length (by rw [hrl];omega)]
      have e2:rows.flatten.drop (i*m+f+us.length)=rows[i].drop (f+us.length)++(rows.drop (i+1)).flatten:=by
       rw [Nat.add_assoc,<-List.drop_drop,vh1 rows i hu,List.drop_eq_getElem_cons hi,List.flatten_cons,List.drop_append_of_le_length (by rw [hrl];omega)]
      rw [e1,e2];simp
  . cases h
 | _=>cases h
def v72 (ti:TI) (cs:List Cell):Option AV:=
 match ti.many with
 | some true=>if ti.size<=cs.length then some (.agg (cs.take ti.size)) else none
 | some false=>match cs with
  | c::_=>some (.one c)
  | []=>none
 | none=>none
def wjl (I:List AV) (ti:TI) (x:Operand):Option (List Nat×AV):=
 match opd I x with
 | .box cs=>(v72 ti cs).map fun v=>(orr x,v)
 | .obx cs=>(v72 ti cs).map fun v=>(orr x,v)
 | .ptr s off=>match (gt I s).vwb with
  | some cs=>(v72 ti (cs.drop off)).map fun v=>(s::orr x,v)
  | none=>none
 | .elt cs=>(v72 ti cs).map fun v=>(orr x,v)
 | .pel s m i f=>match gt I s with
  | .arr _ c _=>if c.esz=m then match c.at i f with
   | some cs=>(v72 ti cs).map fun v=>(s::orr x,v)
   | none=>none
   else none
  | _=>none
 | _=>none
theorem xij (hti:TIok P T ti) {off:Nat} {cs:List Cell}
 (hc:∀ j u,vs[j]? = some u->w.cell? ⟨b,off+j,none⟩=some u) (hr:RdL M w τ vs cs) (hl:v72 ti cs=some av) :
 ∃ v,(loadVar T ⟨b,off,none⟩).run P w=.ok v w/\RdA M w τ v av:=by
 unfold v72 at hl
 have hadd:∀ j,(⟨b,off,none⟩:Addr).add j=⟨b,off+j,none⟩:=fun j=>by unfold Addr.add;split<;>simp_all
 split at hl
 . rename_i hm;split at hl
   . rename_i hle
     cases hl;obtain ⟨d,i,z,hd,hi,hz,hsz,hby,hzs,hone,hzc,hsh⟩:=hti.ex;have hlen:=hr.length;refine ⟨.agg (vs.take ti.size).toArray,?_,⟨vs.take ti.size,rfl,hr.take _⟩⟩
     have hld:=run_loadCells_list (P:=P) w ⟨b,off,none⟩ (vs.take ti.size) (fun j u hj=>by
      rw [hadd];refine hc j u ?_;rw [List.getElem?_take] at hj;split at hj
      . exact hj
      . cases hj)
     have hlt:(vs.take ti.size).length=ti.size:=by rw [List.length_take];omega
     rw [hlt] at hld;unfold loadVar;simp only [Sem.run_bind,hti.vkb hm,Result.andThen_ok,if_true,yyt hi,hsz,hld,Sem.run_pure]
   . cases hl
 . rename_i hm;split at hl
   . rename_i c cs'
     cases hl
     cases vs with
     | nil=>exact hr.elim
     | cons v vs=>
      refine ⟨v,?_,hr.1⟩
      have:=hc 0 v rfl
      unfold loadVar;simp only [Sem.run_bind,hti.vkb hm,Result.andThen_ok,Bool.false_eq_true,if_false];simp only [Nat.add_zero] at this;simp [load,Sem.run,this]
   . cases hl
 . cases hl
theorem yxa {cs:List Cell} (h:v72 ti cs=some av):av.xeo=false/\av.rf=none:=by
 unfold v72 at h
 repeat' split at h
 all_goals first | (cases h;exact ⟨rfl,rfl⟩) | cases h
theorem vb0 {t:Nat}:∀{n:Nat} {cs:List Cell},w9q t (cs.take n)->w9q t cs
 | 0,cs,h=>by simp [w9q] at h
 | n+1,[],h=>h
 | n+1,c::cs,h=>h.imp id vb0
theorem yd1 {t:Nat}:∀{n:Nat} {cs:List Cell},w9q t (cs.drop n)->w9q t cs
 | 0,cs,h=>by simpa using h
 | n+1,[],h=>h
 | n+1,c::cs,h=>.inr (yd1 (by simpa using h))
theorem yqu {t:Nat}:∀{cs ds:List Cell},w9q t (cs++ds)->w9q t cs\/w9q t ds
 | [],_,h=>.inr h
 | c::cs,ds,h=>by
  rcases h with h | h
  . exact .inl (.inl h)
  . exact (yqu h).imp .inr id
theorem woq {cs:List Cell} (h:v72 ti cs=some av) (ht:av.v7d t):w9q t cs:=by
 unfold v72 at h
 repeat' split at h
 all_goals first | (cases h;first | exact vb0 ht | exact .inl ht) | cases h
theorem xk2 (h:w.heap[b]? = some (.cells vs.toArray T (0,0))) (off:Nat) :
 ∀ j u,(vs.drop off)[j]? = some u->w.cell? ⟨b,off+j,none⟩=some u:=fun j u hj=>by
 rw [List.getElem?_drop] at hj;simp [World.cell?,h,hj]
theorem RdD.zml {M:Nat->Nat->Prop} {w:World} {τ:Nat->TV}:∀{vs:List Value} {cs:List Cell},RdD M w vs cs->RdL M w τ vs cs
 | [],[],_=>trivial
 | _::_,_::_,h=>⟨RdT.of h.1,h.2.zml⟩
theorem RdD.wi1 {M:Nat->Nat->Prop} {w:World} {t:Nat}:∀{vs:List Value} {cs:List Cell},RdD M w vs cs->¬w9q t cs
 | [],[],_=>fun h=>h
 | _::_,c::_,h=>fun ht=>ht.elim (fun h'=>by cases c<;>first | exact h'.elim | exact h.1.xxy) h.2.wi1
theorem z3d {I:List AV} (ho:o.op=.load T x) (hti:mkTI P T=some ti) (hl:wjl I ti x=some (rd,av))
 {r:List Nat×List (Nat×AV)} (h:val I o rd av=some r):vni P o I r.1 [] r.2:=by
 obtain ⟨d,hdst,hn,rfl⟩:=y56 h;have hok:=wgk hti
 have hprops:av.xeo=false/\av.rf=none/\∀ t∈orr x,t∈rd:=by
  unfold wjl at hl
  repeat' split at hl
  all_goals first
   | (simp only [Option.map_eq_some_iff,Prod.mk.injEq] at hl
      obtain ⟨_,h1,rfl,rfl⟩:=hl
      exact ⟨(yxa h1).1,(yxa h1).2,fun t ht=>by simp [ht]⟩)
   | cases hl
 refine vni.val hdst (by simp) hn hprops.1 (fun E τ M I' a w hag hI=>?_);have hop:opd I' x=opd I x:=hag.opd (fun t ht=>by simp [hprops.2.2 t ht]);have hs:=hI.opd x;rw [hop] at hs
 suffices hkey:∃(ad:Addr) (v:Value),a.eval x=.pointer (some ad)/\(loadVar T ad).run P w=.ok v w/\xb1 M w τ a.tmps v av/\∀ t,av.v7d t->live I' t by
  obtain ⟨ad,v,he,hrun,hsl,htk⟩:=hkey;refine ⟨v,w,?_,vpa w,hsl,htk,fun s b' hr=>by rw [hprops.2.1] at hr;cases hr⟩;simp [execOp,ho,Instr.loadAt,he,Instr.sureAddr,hrun]
 unfold wjl at hl;split at hl
 . rename_i cs hx;simp only [Option.map_eq_some_iff,Prod.mk.injEq] at hl;obtain ⟨_,h1,rfl,rfl⟩:=hl;rw [hx] at hs;obtain ⟨b,vs,T',e,hb,hr⟩:=hs;obtain ⟨v,hrun,hrd⟩:=xij hok (b:=b) (off:=0) (vs:=vs) (fun j u hj=>by simpa using xk2 hb 0 j u (by simpa using hj)) hr h1;exact ⟨_,v,e,hrun,hrd.slot,fun t ht=>y29 (x:=x) (by rw [hop,hx];exact woq h1 ht)⟩
 . rename_i cs hx;simp only [Option.map_eq_some_iff,Prod.mk.injEq] at hl;obtain ⟨_,h1,rfl,rfl⟩:=hl;rw [hx] at hs;obtain ⟨b,vs,T',e,hb,hr⟩:=hs;obtain ⟨v,hrun,hrd⟩:=xij hok (b:=b) (off:=0) (vs:=vs) (fun j u hj=>by simpa using xk2 hb 0 j u (by simpa using hj)) hr h1;exact ⟨_,v,e,hrun,hrd.slot,fun t ht=>y29 (x:=x) (by rw [hop,hx];exact woq h1 ht)⟩
 . rename_i s off hx;split at hl
   . rename_i cs hg;simp only [Option.map_eq_some_iff,Prod.mk.injEq] at hl;obtain ⟨_,h1,rfl,rfl⟩:=hl;rw [hx] at hs
     have hg':(gt I' s).vwb=some cs:=by rw [hag.2 s (by simp)];exact hg
     obtain ⟨b,vs,T',e,hb,hr⟩:=wtd (hI.gt s) hg';have hs:a.eval x=.pointer (some ⟨blk (a.tmps.getD s Go.undef),off,none⟩):=hs;rw [e] at hs;obtain ⟨v,hrun,hrd⟩:=xij hok (b:=b) (off:=off) (vs:=vs.drop off) (fun j u hj=>xk2 hb off j u hj) (hr.drop off) h1;exact ⟨_,v,hs,hrun,hrd.slot,fun t ht=>⟨s,_,y94 rfl (yhs hg').2.2,(yuw hg' t).2 (yd1 (woq h1 ht))⟩⟩
   . cases hl
 . rename_i cs hx;simp only [Option.map_eq_some_iff,Prod.mk.injEq] at hl;obtain ⟨_,h1,rfl,rfl⟩:=hl;rw [hx] at hs;obtain ⟨b,off,vs,e,hcl,hr⟩:=hs;obtain ⟨v,hrun,hrd⟩:=xij hok (τ:=τ) (b:=b) (off:=off) (vs:=vs) (fun j u hj=>(hcl j u hj).2) hr.zml h1;exact ⟨_,v,e,hrun,hrd.slot,fun t ht=>absurd (woq h1 ht) hr.wi1⟩
 . rename_i s m i f hx;split at hl
   . rename_i pre c post hg;split at hl
     . rename_i hm;split at hl
       . rename_i cs hat;simp only [Option.map_eq_some_iff,Prod.mk.injEq] at hl;obtain ⟨_,h1,rfl,rfl⟩:=hl;rw [hx] at hs
         have hg':gt I' s=.arr pre c post:=by rw [hag.2 s (by simp)];exact hg
         have hss:=hI.gt s;rw [hg'] at hss;obtain ⟨b,T',vs,q,cap,e,hb,hrd,_,hu,_⟩:=hss;have hs:a.eval x=.pointer (some ⟨blk (a.tmps.getD s Go.undef),offV (a.tmps.getD s Go.undef)+i*m+f,none⟩):=hs;rw [e] at hs;obtain ⟨hi,r,hdrop⟩:=Cell.zgr hu hat;subst hm;have hfull:RdD M w (vs.drop (i*c.esz+f)) (cs++r):=hdrop▸hrd.drop _
         have hrd':RdD M w ((vs.drop (i*c.esz+f)).take cs.length) cs:=by
          have:=hfull.take cs.length
          rwa [List.take_left] at this
         obtain ⟨v,hrun,hrdv⟩:=xij hok (τ:=τ) (b:=b) (off:=pre.length+i*c.esz+f) (vs:=(vs.drop (i*c.esz+f)).take cs.length) (fun j u hj=>by
          rw [List.getElem?_take] at hj;split at hj
          . rw [List.getElem?_drop] at hj;have hlt:i*c.esz+f+j<vs.length:=(List.getElem?_eq_some_iff.1 hj).1;simp only [World.cell?,hb];simp only [List.getElem?_toArray];rw [List.getElem?_append_right (by omega),List.getElem?_append_left (by omega)];rw [show pre.length+i*c.esz+f+j-pre.length=i*c.esz+f+j by omega];exact hj
          . cases hj) hrd'.zml h1
         exact ⟨_,v,hs,hrun,hrdv.slot,fun t ht=>absurd (woq h1 ht) hrd'.wi1⟩
       . cases hl
     . cases hl
   . cases hl
 . cases hl
theorem RdD.get {M:Nat->Nat->Prop} {w:World}:∀{vs:List Value} {cs:List Cell},RdD M w vs cs->∀(j:Nat) (c:Cell),cs[j]? = some c->∃ v,vs[j]? = some v/\RdC M w v c
 | [],[],_,j,c,hc=>by simp at hc
 | v::vs,c'::cs,h,0,c,hc=>by simp at hc;subst hc;exact ⟨v,by simp,h.1⟩
 | v::vs,c'::cs,h,j+1,c,hc=>by simpa using h.2.get j c (by simpa using hc)
theorem xsd {α:Type} {m:Nat}:∀(rows:List (List α)) (i j:Nat),(∀ r∈rows,r.length=m)->i<rows.length->j<m->rows.flatten[i*m+j]? = (rows.getD i [])[j]?
 | rows,i,j,h,hi,hj=>by
  have hri:=h _ (List.getElem_mem hi);rw [<-List.getElem?_drop,vh1 rows i h,List.drop_eq_getElem_cons hi,List.flatten_cons,List.getElem?_append_left (by omega)];simp [hi]
theorem viy {cap:Nat} {pre q:List Value} (hb:w.heap[b]? = some (.cells (pre++(vs++q)).toArray T (0,0))) (hr:RdD M w vs c.flat) (hu:c.uni)
 (hcap:c.cnt<=cap) (hM:∀ o,¬M b o):RdC M w (.slice (some ⟨b,pre.length,none⟩) c.cnt cap) c:=by
 have hcell:∀ i u,vs[i]? = some u->w.cell? ⟨b,pre.length+i,none⟩=some u:=fun i u hi=>by
  have hlt:i<vs.length:=(List.getElem?_eq_some_iff.1 hi).1;simp only [World.cell?,hb];simp only [List.getElem?_toArray];rw [List.getElem?_append_right (by omega),List.getElem?_append_left (by omega)];rw [show pre.length+i-pre.length=i by omega];exact hi
 cases c with
 | ints k l=>
  refine .ints b pre.length rfl hcap (fun _=>rfl) (fun i hi=>⟨hM _,?_⟩);obtain ⟨v,hv,hrv⟩:=hr.get i (.raw (.int k l[i])) (by simp [Cell.flat,hi]);rw [RdC.x18 hrv] at hv;exact hcell i _ hv
 | sl n rows=>
  have hu:∀ r∈rows,r.length=n:=hu
  have key:∀ i (hi:i<rows.length) j,j<n->∃ v,vs[i*n+j]? = some v/\∀ hj':j<rows[i].length,RdC M w v (rows[i][j]'hj'):=fun i hi j hj=>by
   have hlen:=hu _ (List.getElem_mem hi)
   obtain ⟨v,hv,hrv⟩:=hr.get (i*n+j) (rows[i][j]'(by omega)) (by
    simp only [Cell.flat];rw [xsd rows i j hu hi hj]
    have:rows.getD i []=rows[i]:=by simp [hi]
    rw [this]
    simp [hlen,hj])
   exact ⟨v,hv,fun _=>hrv⟩
  refine .sl b pre.length (fun i j=>(vs[i*n+j]?).getD Go.undef) rfl hcap (fun _=>rfl) hu (fun i hi j hj=>⟨hM _,?_⟩) (fun i hi j hj=>?_)
  . obtain ⟨v,hv,_⟩:=key i hi j hj
    have:=hcell (i*n+j) v hv
    rw [hv,Nat.add_assoc];exact this
  . have hlen:=hu _ (List.getElem_mem hi);obtain ⟨v,hv,hrv⟩:=key i hi j (by omega);rw [hv];exact hrv hj
 | _=>exact hu.elim
def Cell.sub (c:Cell) (lo n:Nat):Cell:=match c with
 | .ints k l=>.ints k ((l.drop lo).take n)
 | .sl m rows=>.sl m ((rows.drop lo).take n)
 | c=>c
theorem RdC.sub {M:Nat->Nat->Prop} {w:World} {b off len cap:Nat} {c:Cell} (hr:RdC M w (.slice (some ⟨b,off,none⟩) len cap) c) (hu:c.uni) {lo n cap':Nat} {ad:Option Addr} (hfit:lo+n<=c.cnt)
 (had:cap'≠0->ad=some ⟨b,off+lo*c.esz,none⟩) (hn:n<=cap'):RdC M w (.slice ad n cap') (c.sub lo n):=by
 cases hr with
 | raw h=>exact hu.elim
 | zc=>exact hu.elim
 | nn=>exact hu.elim
 | fnp=>exact hu.elim
 | @ints _ _ _ k l b' off' hl hc ha h=>
  simp only [Cell.cnt] at hfit;refine .ints b (off+lo) (by simp;omega) hn (fun hne=>?_) (fun i hi=>?_)
  . have:n≠0:=fun e=>hne (by simp [e])
    rw [had (by omega)];simp [Cell.esz]
  . simp only [List.length_take,List.length_drop] at hi
    have hne:l≠[]:=fun e=>by rw [e] at hfit;simp at hfit;omega
    have hh:=h (lo+i) (by omega)
    have:=ha hne
    simp only [Option.some.injEq,Addr.mk.injEq,and_true] at this;obtain ⟨rfl,rfl⟩:=this;rw [Nat.add_assoc];simpa using hh
 | @sl _ _ _ m rows b' off' u hl hc ha hn' hm hrr=>
  simp only [Cell.cnt] at hfit;refine .sl b (off+lo*m) (fun i j=>u (lo+i) j) (by simp;omega) hn (fun hne=>?_) (fun r hr'=>hn' r (List.mem_of_mem_drop (List.mem_of_mem_take hr'))) (fun i hi j hj=>?_) (fun i hi j hj=>?_)
  . have:n≠0:=fun e=>hne (by simp [e])
    rw [had (by omega)];simp [Cell.esz]
  . simp only [List.length_take,List.length_drop] at hi
    have hne:rows≠[]:=fun e=>by rw [e] at hfit;simp at hfit;omega
    have hh:=hm (lo+i) (by omega) j hj
    have:=ha hne
    simp only [Option.some.injEq,Addr.mk.injEq,and_true] at this;obtain ⟨rfl,rfl⟩:=this;rw [Nat.add_mul] at hh;rw [show off+lo*m+i*m+j=off+(lo*m+i*m)+j by omega];exact hh
  . simp only [List.length_take,List.length_drop] at hi
    have hlen:lo+i<rows.length:=by omega
    have hj':j<rows[lo+i].length:=by simpa using hj
    have:=hrr (lo+i) hlen j hj'
    simpa using this
theorem RdC.wi1 (h:RdC M w v c) (t:Nat):¬c.v7d t:=fun ht=>by
 cases c with
 | tok d c=>exact h.xxy
 | _=>exact ht
theorem yot (n:Nat):∀ cs:List Cell,vc2 (cs.drop n)=(vc2 cs).drop n:=by
 induction n with
 | zero=>intro cs;simp
 | succ n ih=>
  intro cs
  cases cs with
  | nil=>simp [vc2]
  | cons c cs=>simpa [vc2] using ih cs
end Go.Slot
namespace Go.Slot
open Go Go.RowKit
variable {P:Program}
variable {T S:TypeId} {ti:TI} {w:World} {off f e es eb:Nat} {v:Value} {I:List AV} {o:Oper} {x y:Operand} {rd:List Nat} {av:AV} {fs:List (Nat×Nat×TypeId)} {r:List Nat×List (Nat×AV)} {ik:Option IntKind}
def ywr (I:List AV) (ti:TI) (x y:Operand):Option (List Nat×Nat×AV):=
 match xwy (opd I y) with
 | none=>none
 | some cs=>
  if cs.length=ti.size then
   match opd I x with
   | .box old=>match x with
    | .tmp s=>if ti.size<=old.length then some (s::orr y,s,.box (cs++old.drop ti.size)) else none
    | _=>none
   | .obx old=>match x with
    | .tmp s=>if ti.size<=old.length then some (s::orr y,s,.obx (cs++old.drop ti.size)) else none
    | _=>none
   | .ptr s off=>match (gt I s).vwb with
    | some old=>if off+ti.size<=old.length then some (s::(orr x++orr y),s,(gt I s).xuy (old.take off++cs++old.drop (off+ti.size))) else none
    | none=>none
   | .pel s m i f=>match gt I s with
    | .arr pre c post=>if c.esz=m then match c.upd i f (vc2 cs) with
     | some c'=>some (s::(orr x++orr y),s,.arr pre c' post)
     | none=>none
     else none
    | _=>none
   | _=>none
  else none
theorem znu (hti:TIok P T ti) {b:Nat} {vs:List Value} {Tb:TypeId} (hb:w.heap[b]? = some (.cells vs.toArray Tb (0,0)))
 (hsz:v.cells.size=ti.size) (h1:∀ u∈v.cells.toList,u.oneCell'=true) (hfit:off+ti.size<=vs.length) :
 (storeVar T ⟨b,off,none⟩ v).run P w=.ok () (w.setRow b (vs.take off++v.cells.toList++vs.drop (off+ti.size)).toArray):=by
 obtain ⟨d,i,z,hd,hi,hz,hsz',hby,hzs,hone,hzc,hsh⟩:=hti.ex;have hst:=run_storeCells_at P b off Tb v.cells.toList 0 vs.toArray w hb (by simp [hsz];omega) h1;unfold storeVar;simp only [Sem.run_bind,yyt hi,Result.andThen_ok];rw [hsz,hsz'];simp only [ne_eq,not_true_eq_false,if_false];simpa [hsz] using hst
theorem vue {α:Type} (l:List α) (i:Nat) (x:α) (h:i<l.length):l.set i x=l.take i++[x]++l.drop (i+1):=by
 rw [List.set_eq_take_append_cons_drop,if_pos h];simp
theorem ysy (ho:o.op=.store T x y) (hdst:o.dst=none) (hti:mkTI P T=some ti) {s:Nat}
 (hst:ywr I ti x y=some (rd,s,av)):vni P o I rd [] [(s,av)]:=by
 have hok:=wgk hti;intro E I' a w hag _ ⟨τ,M,hI⟩ K Q hK;unfold ywr at hst;split at hst
 . cases hst
 rename_i cs hcs;split at hst
 . rename_i hlen
   have common:(∀ t∈orr y,t∈rd)->RdL M w τ (a.eval y).cells.toList cs/\(a.eval y).cells.size=ti.size/\(∀ u∈(a.eval y).cells.toList,u.oneCell'=true)/\∀ t,w9q t cs->live I' t:=fun hy=>by
    have hoy:opd I' y=opd I y:=hag.opd hy;have hs:=hI.opd y;rw [hoy] at hs;have hr:=vur hcs hs;refine ⟨hr,?_,hr.ones,fun t ht=>?_⟩
    . rw [<-hlen,<-hr.length];simp
    . have:=x2v hcs ht
      rw [<-hoy] at this;exact y29 this
   have boxcase:∀(off:Nat) (old:List Cell),(gt I' s).vwb=some old->a.eval x=.pointer (some ⟨blk (a.tmps.getD s Go.undef),off,none⟩)->off+ti.size<=old.length->(∀ t∈orr y,t∈rd)->
    av=(gt I' s).xuy (old.take off++cs++old.drop (off+ti.size))->o.wp P a w K Q:=fun off old hg hx hfit hy hav=>by
    obtain ⟨hr,hsz,hone,htok⟩:=common hy;obtain ⟨b,vs,Tb,e,hb,hrb⟩:=wtd (hI.gt s) hg;have hvl:=hrb.length
    have hbb:blk (a.tmps.getD s Go.undef)=b:=by rw [e];rfl
    rw [hbb] at hx;have hrun:=znu hok hb hsz hone (off:=off) (by omega);unfold Oper.wp;simp only [execOp,ho,Instr.storeAt,hx,Instr.sureAddr,Sem.run_bind,Sem.run_pure,Result.andThen_ok,hrun];show K (a.put o.dst Go.undef) _;rw [hdst];refine hK _ _ ⟨τ,M,?_⟩;have hgs:=y94 (av:=gt I' s) rfl (yhs hg).2.2
    have hav':av.vwb=some (old.take off++cs++old.drop (off+ti.size))/\av.fits true=true/\av.fits false=false/\av.xeo=true/\av.fresh=(gt I' s).fresh:=by
     rw [hav];generalize gt I' s=g at hg
     cases g<;>first | exact ⟨rfl,rfl,rfl,rfl,rfl⟩ | cases hg
    have hrw:=hI.rewrite (new:=av) hgs (yhs hg).1 hav'.2.2.2.1 (by
     intro b' hf
     cases b' with
     | true=>exact hav'.2.1
     | false=>
      exfalso;generalize gt I' s=g at hg hf
      cases g<;>simp [AV.fits,AV.y10,AV.vwb] at hf hg) hav'.2.2.2.2
     (vs.take off++(a.eval y).cells.toList++vs.drop (off+ti.size)).toArray ?_ ?_
    . rw [hbb] at hrw;exact hrw
    . intro vs1 T1 _;rw [hbb];have hM:∀ o,M b o:=hbb▸(hI.hold s _ hgs (yhs hg).1).1
      have hk:wf2 M M w (w.setRow b (vs.take off++(a.eval y).cells.toList++vs.drop (off+ti.size)).toArray):=fun b' o u hm hc=>⟨hm,by
       rw [cell_setRow_other]
       . exact hc
       . exact fun e'=>hm (by rw [show b'=b from e'];exact hM o)⟩
      have hnew:=(((hrb.take off).append hr).append (hrb.drop (off+ti.size))).keep hk (fun _ _=>rfl);have hex:∃(b_1:Nat) (vs_1:List Value) (T:TypeId),a.tmps.getD s Go.undef=.pointer (some ⟨b_1,0,none⟩)/\(w.setRow b (vs.take off++(a.eval y).cells.toList++vs.drop (off+ti.size)).toArray).heap[b_1]? = some (.cells vs_1.toArray T (0,0))/\
       RdL M (w.setRow b (vs.take off++(a.eval y).cells.toList++vs.drop (off+ti.size)).toArray) τ vs_1 (old.take off++cs++old.drop (off+ti.size)):=⟨b,_,Tb,e,setRow_heap w b _ _ Tb (0,0) hb,hnew⟩
      have hbo:=hav'.1
      cases av<;>first | (cases hbo;exact hex) | cases hbo
    . intro t ht;rw [yuw hav'.1] at ht
      have hold:∀ t,w9q t old->live I' t:=fun t ht=>⟨s,_,hgs,(yuw hg t).2 ht⟩
      rcases yqu ht with ht | ht
      . rcases yqu ht with ht | ht
        . exact hold t (vb0 ht)
        . exact htok t ht
      . exact hold t (yd1 ht)
   split at hst
   . rename_i old hx;split at hst
     . rename_i s';split at hst
       . rename_i hfit
         cases hst
         have hg:gt I' s=.box old:=by rw [hag.2 s (by simp)];exact hx
         have hs:=hI.gt s;rw [hg] at hs;obtain ⟨b,vs,Tb,e,hb,hrb⟩:=hs;refine boxcase 0 old (by rw [hg];rfl) ?_ (by omega) (fun t ht=>by simp [ht]) (by rw [hg];simp [AV.xuy]);show a.tmps.getD s Go.undef=_;rw [e];rfl
       . cases hst
     . cases hst
   . rename_i old hx;split at hst
     . rename_i s';split at hst
       . rename_i hfit
         cases hst
         have hg:gt I' s=.obx old:=by rw [hag.2 s (by simp)];exact hx
         have hs:=hI.gt s;rw [hg] at hs;obtain ⟨b,vs,Tb,e,hb,hrb⟩:=hs;refine boxcase 0 old (by rw [hg];rfl) ?_ (by omega) (fun t ht=>by simp [ht]) (by rw [hg];simp [AV.xuy]);show a.tmps.getD s Go.undef=_;rw [e];rfl
       . cases hst
     . cases hst
   . rename_i s' off hx;split at hst
     . rename_i old hg0;split at hst
       . rename_i hfit
         cases hst;have hgg:gt I' s=gt I s:=hag.2 s (by simp);have hox:opd I' x=opd I x:=hag.opd (fun t ht=>by simp [ht]);have hs:=hI.opd x;rw [hox,hx] at hs;exact boxcase off old (by rw [hgg];exact hg0) hs hfit (fun t ht=>by simp [ht]) (by rw [hgg])
       . cases hst
     . cases hst
   . rename_i s' m i f hx;split at hst
     . rename_i pre c post hg0;split at hst
       . rename_i hm;split at hst
         . rename_i c' hupd
           cases hst;subst hm
           have hg:gt I' s=.arr pre c post:=by rw [hag.2 s (by simp)];exact hg0
           have hox:opd I' x=opd I x:=hag.opd (fun t ht=>by simp [ht]);have hs:=hI.opd x;rw [hox,hx] at hs;have hs:a.eval x=.pointer (some ⟨blk (a.tmps.getD s Go.undef),offV (a.tmps.getD s Go.undef)+i*c.esz+f,none⟩):=hs;obtain ⟨hr,hsz,hone,htok⟩:=common (fun t ht=>by simp [ht]);have hss:=hI.gt s;rw [hg] at hss;obtain ⟨b,Tb,vs,q,cap,e,hb,hrd,hpost,hu,hcap,hcap'⟩:=hss;obtain ⟨hu',hcnt,hesz,hfit,hflat⟩:=Cell.zmp hu hupd
           have hbb:blk (a.tmps.getD s Go.undef)=b:=by rw [e];rfl
           rw [hbb] at hs
           have hoff:offV (a.tmps.getD s Go.undef)=pre.length:=by rw [e];rfl
           rw [hoff] at hs;have hvl:=hrd.length
           have hbl:(vc2 cs).length=cs.length:=by rw [<-hr.bare.length,hr.length]
           have hul:(a.eval y).cells.toList.length=(vc2 cs).length:=hr.bare.length
           have hsz':ti.size=(vc2 cs).length:=by rw [<-hlen,hbl]
           have hrun:=znu hok hb hsz hone (off:=pre.length+i*c.esz+f) (by simp;omega);have hnew:(pre++(vs++q)).take (pre.length+i*c.esz+f)++(a.eval y).cells.toList++(pre++(vs++q)).drop (pre.length+i*c.esz+f+ti.size) =
            pre++((vs.take (i*c.esz+f)++(a.eval y).cells.toList++vs.drop (i*c.esz+f+(vc2 cs).length))++q):=by
            rw [List.take_append,List.drop_append,List.take_of_length_le (by omega),List.drop_eq_nil_of_le (by omega),hsz'];rw [show pre.length+i*c.esz+f-pre.length=i*c.esz+f by omega,show pre.length+i*c.esz+f+(vc2 cs).length-pre.length=i*c.esz+f+(vc2 cs).length by omega];rw [List.take_append_of_le_length (by omega),List.drop_append_of_le_length (by omega)];simp
           rw [hnew] at hrun;unfold Oper.wp;simp only [execOp,ho,Instr.storeAt,hs,Instr.sureAddr,Sem.run_bind,Sem.run_pure,Result.andThen_ok,hrun];show K (a.put o.dst Go.undef) _;rw [hdst];refine hK _ _ ⟨τ,M,?_⟩;have hgs:=y94 hg (by simp);have hrw:=hI.rewrite (new:=.arr pre c' post) hgs rfl rfl (by intro b' hf;cases b'<;>simp_all [AV.fits,AV.w7h,AV.y10]) (by cases post<;>rfl)
            (pre++((vs.take (i*c.esz+f)++(a.eval y).cells.toList++vs.drop (i*c.esz+f+(vc2 cs).length))++q)).toArray ?_ (fun t ht=>ht.elim)
           . rw [hbb] at hrw;exact hrw
           . intro vs1 T1 _;rw [hbb];have hM:∀ o,M b o:=hbb▸(hI.hold s _ hgs rfl).1
             have hk:wf2 M M w (w.setRow b (pre++((vs.take (i*c.esz+f)++(a.eval y).cells.toList++vs.drop (i*c.esz+f+(vc2 cs).length))++q)).toArray):=fun b' o u hm hc=>⟨hm,by
              rw [cell_setRow_other]
              . exact hc
              . exact fun e'=>hm (by rw [show b'=b from e'];exact hM o)⟩
             refine ⟨b,Tb,vs.take (i*c.esz+f)++(a.eval y).cells.toList++vs.drop (i*c.esz+f+(vc2 cs).length),q,cap,by rw [e,hcnt],setRow_heap w b _ _ Tb (0,0) hb,?_,hpost,hu',by rw [hcnt];exact hcap,?_⟩
             . rw [hflat];exact (((hrd.take _).append hr.bare).append (hrd.drop _)).keep hk
             . rw [hesz];simp only [List.length_append,List.length_take,List.length_drop,hul];omega
         . cases hst
       . cases hst
     . cases hst
   . cases hst
 . cases hst
theorem xzn {d:TypeDesc} (h:shOf P d=.struct fs):∃ fl,d=.struct fl/\fs=fl.toList.map (fun f=>(f.offset,P.cellsOf f.type,f.type))/\∀ f∈fl.toList,P.cellsOf f.type≠0:=by
 cases d with
 | struct fl=>
  unfold shOf at h;dsimp only at h;split at h
  . rename_i hc
    cases h;exact ⟨fl,rfl,rfl,fun f hf=>by simpa using (List.all_eq_true.1 hc) f hf⟩
  . cases h
 | slice e=>
  exfalso;revert h;unfold shOf;dsimp only
  split
  . split
    . split<;>simp
    . simp
  . simp
 | _=>simp [shOf] at h
def xjw (I:List AV) (ti:TI) (x:Operand) (f:Nat):Option AV:=
 match ti.sh with
 | .struct fs=>match fs[f]? with
  | some (off,_,_)=>match opd I x with
   | .box _=>match x with
    | .tmp t=>some (.ptr t off)
    | _=>none
   | .obx _=>match x with
    | .tmp t=>some (.ptr t off)
    | _=>none
   | .ptr s o=>some (.ptr s (o+off))
   | .pel s m i f=>some (.pel s m i (f+off))
   | .elt cs=>some (.elt (cs.drop off))
   | _=>none
  | none=>none
 | _=>none
theorem vpg {t:TypeId} (h:P.cellsOf t≠0):∃ i,P.info? t=some i/\i.size=P.cellsOf t:=by
 unfold Program.cellsOf at *
 cases hi:P.info? t with
 | none=>simp [hi] at h
 | some i=>exact ⟨i,rfl,by simp⟩
theorem v4h (b off n:Nat):(⟨b,off,none⟩:Addr).add n=⟨b,off+n,none⟩:=by unfold Addr.add;split<;>simp_all
theorem wnh (hti:TIok P S ti) (hs:ti.sh=.struct fs) {sz:Nat} {ft:TypeId} (hf:fs[f]? = some (off,sz,ft)) (w:World) (b o:Nat) :
 (Instr.fieldAt S (.pointer (some ⟨b,o,none⟩)) f).run P w=.ok (.pointer (some ⟨b,o+off,none⟩)) w:=by
 obtain ⟨d,i,z,hd,hi,hz,hsz',hby,hzs,hone,hzc,hsh⟩:=hti.ex;obtain ⟨fl,rfl,rfl,hne⟩:=xzn (hsh.symm.trans hs);simp only [List.getElem?_map,Option.map_eq_some_iff,Prod.mk.injEq] at hf;obtain ⟨fd,hfd,rfl,rfl,rfl⟩:=hf
 have hfd':fl[f]? = some fd:=by simpa using hfd
 have hm:fd∈fl.toList:=List.mem_of_getElem? hfd;obtain ⟨j,hj,hjs⟩:=vpg (hne fd hm)
 have hj0:j.size≠0:=by rw [hjs];exact hne fd hm
 unfold Instr.fieldAt;simp only [Sem.run_bind,w9c hd,Result.andThen_ok,hfd',Instr.sureAddr,Sem.run_pure,fieldPlace,yyt hj,hj0,if_false,v4h]
theorem vt5 (ho:o.op=.fieldAddr S x f) (hti:mkTI P S=some ti) (hfa:xjw I ti x f=some av)
 (h:val I o (orr x) av=some r):vni P o I r.1 [] r.2:=by
 obtain ⟨d,hdst,hn,rfl⟩:=y56 h;have hok:=wgk hti
 have hnh:av.xeo=false/\∀ t,¬av.v7d t:=by
  unfold xjw at hfa
  repeat' split at hfa
  all_goals first | (cases hfa;exact ⟨rfl,fun t h=>h⟩) | cases hfa
 refine vni.val hdst (by simp) hn hnh.1 (fun E τ M I' a w hag hI=>?_);have hop:opd I' x=opd I x:=hag.opd (fun t ht=>by simp [ht]);have hs:=hI.opd x;rw [hop] at hs;unfold xjw at hfa;split at hfa
 . rename_i fs hsh;split at hfa
   . rename_i off sz ft hff;have fin:∀(b o':Nat),a.eval x=.pointer (some ⟨b,o',none⟩)->xb1 M w τ a.tmps (.pointer (some ⟨b,o'+off,none⟩)) av->
      (∀(s:Nat) (b:Bool),av.rf=some (s,b)->∃ hv:AV,I'[s]? = some hv/\hv.fits b=true)->
      ∃ v w',(execOp a.eval o).run P w=.ok (.value v) w'/\Below w.heap.size w w'/\xb1 M w' τ a.tmps v av/\(∀ t,av.v7d t->live I' t)/\
      (∀(s:Nat) (b:Bool),av.rf=some (s,b)->∃ hv:AV,I'[s]? = some hv/\hv.fits b=true):=fun b o' hx hsl hrf=>
      ⟨_,w,by simp [execOp,ho,hx,wnh hok hsh hff w b o'],vpa w,hsl,fun t ht=>absurd ht (hnh.2 t),hrf⟩
     split at hfa
     . rename_i cs hx;split at hfa
       . rename_i t
         cases hfa;rw [hx] at hs;obtain ⟨b,vs,Tb,e,hb,hr⟩:=hs;refine fin b 0 e ?_ (fun s b' hr'=>?_)
         . show _=Value.pointer (some ⟨blk (a.eval (.tmp t)),off,none⟩);rw [e];simp [blk]
         . simp only [AV.rf,Option.some.injEq,Prod.mk.injEq] at hr';obtain ⟨rfl,rfl⟩:=hr';exact ⟨_,y94 (hop.trans hx) (by simp),rfl⟩
       . cases hfa
     . rename_i cs hx;split at hfa
       . rename_i t
         cases hfa;rw [hx] at hs;obtain ⟨b,vs,Tb,e,hb,hr⟩:=hs;refine fin b 0 e ?_ (fun s b' hr'=>?_)
         . show _=Value.pointer (some ⟨blk (a.eval (.tmp t)),off,none⟩);rw [e];simp [blk]
         . simp only [AV.rf,Option.some.injEq,Prod.mk.injEq] at hr';obtain ⟨rfl,rfl⟩:=hr';exact ⟨_,y94 (hop.trans hx) (by simp),rfl⟩
       . cases hfa
     . rename_i s o' hx
       cases hfa;rw [hx] at hs;refine fin _ o' hs rfl (fun s' b' hr'=>?_)
       cases x with
       | tmp t=>exact hI.refs t _ s' b' (y94 (hop.trans hx) (by simp)) (by simpa [AV.rf] using hr')
       | const v=>
        exfalso;simp only [opd,z1h] at hx;split at hx
        . split at hx<;>cases hx
        . cases hx
        . cases hx
       | func f=>cases hx
       | global g=>cases hx
     . rename_i s m i f' hx
       cases hfa;rw [hx] at hs;refine fin _ _ hs (by show _=Value.pointer _;rw [Nat.add_assoc]) (fun s' b' hr'=>?_)
       cases x with
       | tmp t=>exact hI.refs t _ s' b' (y94 (hop.trans hx) (by simp)) (by simpa [AV.rf] using hr')
       | const v=>
        exfalso;simp only [opd,z1h] at hx;split at hx
        . split at hx<;>cases hx
        . cases hx
        . cases hx
       | func f=>cases hx
       | global g=>cases hx
     . rename_i cs hx
       cases hfa;rw [hx] at hs;obtain ⟨b,o',vs,e,hc,hr⟩:=hs;refine fin b o' e ⟨b,o'+off,vs.drop off,rfl,fun j u hj=>?_,hr.drop off⟩ (fun s b hr=>by cases hr);rw [List.getElem?_drop] at hj
       have:=hc (off+j) u hj
       rwa [<-Nat.add_assoc] at this
     . cases hfa
   . cases hfa
 . cases hfa
def vz9 (I:List AV) (x:Operand) (n:Nat):Option AV:=
 match opd I x with
 | .tup l=>match l[n]? with
  | some (.one c)=>some (.one c)
  | some (.agg cs)=>some (.agg cs)
  | some .any=>some .any
  | _=>none
 | _=>none
theorem RdB.slot {M:Nat->Nat->Prop} {τ:Nat->TV} {tm:Array Value} (h:RdB M w v av):xb1 M w τ tm v av/\∀ t,¬av.v7d t:=by
 cases av with
 | one c=>exact ⟨RdT.of h,fun t ht=>by cases c<;>first | exact ht.elim | exact h.xxy⟩
 | agg cs=>obtain ⟨vs,rfl,h⟩:=h;exact ⟨⟨vs,rfl,h.zml⟩,fun t ht=>h.wi1 ht⟩
 | any=>exact ⟨trivial,fun t ht=>ht⟩
 | undef=>exact ⟨h,fun t ht=>ht⟩
 | elt cs=>exact ⟨h,fun t ht=>ht⟩
 | _=>exact h.elim
theorem x5e {n:Nat} (ho:o.op=.extract x n) (hfa:vz9 I x n=some av)
 (h:val I o (orr x) av=some r):vni P o I r.1 [] r.2:=by
 obtain ⟨d,hdst,hn,rfl⟩:=y56 h
 have hnh:av.xeo=false/\av.rf=none:=by
  unfold vz9 at hfa
  repeat' split at hfa
  all_goals first | (cases hfa;exact ⟨rfl,rfl⟩) | cases hfa
 refine vni.val hdst (by simp) hn hnh.1 (fun E τ M I' a w hag hI=>?_);have hop:opd I' x=opd I x:=hag.opd (fun t ht=>by simp [ht]);have hs:=hI.opd x;rw [hop] at hs
 have:∃ l,opd I x=.tup l/\l[n]? = some av:=by
  unfold vz9 at hfa;split at hfa
  . rename_i l hl;refine ⟨l,hl,?_⟩
    split at hfa<;>first | (cases hfa;assumption) | cases hfa
  . cases hfa
 obtain ⟨l,hl,hav⟩:=this;rw [hl] at hs;obtain ⟨vs,e,hr⟩:=hs;obtain ⟨v,hv,hrb⟩:=hr.get n av hav;have hsl:=hrb.slot (τ:=τ) (tm:=a.tmps);refine ⟨v,w,?_,vpa w,hsl.1,fun t ht=>absurd ht (hsl.2 t),fun s b hr=>by rw [hnh.2] at hr;cases hr⟩;simp [execOp,ho,e,Instr.extract,hv]
def Sh.esz:Sh->Option Nat
 | .slice _ es _ _=>some es
 | _=>none
def elemAt:Cell->Nat->Option (Nat×List Cell)
 | .ints k l,i=>if i<l.length then some (1,[.raw (.int k (l.getD i 0))]) else none
 | .sl n rows,i=>if i<rows.length then some (n,rows.getD i []) else none
 | .tok _ (.ints k l),i=>if i<l.length then some (1,[.raw (.int k (l.getD i 0))]) else none
 | .tok _ (.sl n rows),i=>if i<rows.length then some (n,rows.getD i []) else none
 | _,_=>none
def zxf (I:List AV) (ti:TI) (x y:Operand):Option (List Nat×AV):=
 match opd I y with
 | .one (.raw (.int _ n)) =>
  if 0<=n then
   match ti.sh with
   | .slice _ es _ _=>match opd I x with
    | .one c=>match elemAt c n.toNat with
     | some (m,cs)=>if m=es then some (orr x++orr y,.elt cs) else none
     | none=>none
    | .arr _ c _=>match x with
     | .tmp t=>if es=c.esz/\n.toNat<c.cnt then some (orr x++orr y,.pel t es n.toNat 0) else none
     | _=>none
    | .asl s=>match gt I s with
     | .arr _ c _=>if es=c.esz/\n.toNat<c.cnt then some (s::(orr x++orr y),.pel s es n.toNat 0) else none
     | _=>none
    | .awn s m lo k=>if es=m/\n.toNat<k then some (orr x++orr y,.pel s es (lo+n.toNat) 0) else none
    | _=>none
   | .array m _ es=>match opd I x with
    | .box _=>match x with
     | .tmp t=>if n.toNat<m/\es≠0 then some (orr x++orr y,.ptr t (n.toNat*es)) else none
     | _=>none
    | .obx _=>match x with
     | .tmp t=>if n.toNat<m/\es≠0 then some (orr x++orr y,.ptr t (n.toNat*es)) else none
     | _=>none
    | .ptr s o=>if n.toNat<m/\es≠0 then some (orr x++orr y,.ptr s (o+n.toNat*es)) else none
    | .pel s m' i f=>if n.toNat<m/\es≠0 then some (orr x++orr y,.pel s m' i (f+n.toNat*es)) else none
    | .elt cs=>if n.toNat<m/\es≠0 then some (orr x++orr y,.elt (cs.drop (n.toNat*es))) else none
    | _=>none
   | _=>none
  else none
 | _=>none
def wsq (M:Nat->Nat->Prop) (w:World) (v:Value) (i m:Nat) (cs:List Cell):Prop:=
 ∃(b off len cap:Nat) (vs:List Value),v=.slice (some ⟨b,off,none⟩) len cap/\i<len/\(∀ j u,vs[j]? = some u->¬M b (off+i*m+j)/\w.cell? ⟨b,off+i*m+j,none⟩=some u)/\RdD M w vs cs
theorem x7d {M : Nat → Nat → Prop} {τ : Nat → TV} {c : Cell} (h : RdT M w τ v c) {i m : Nat} {cs : List Cell} (he : elemAt c i = some (m, cs)) :
 wsq M w v i m cs:=by
 have ints:∀ k l,RdC M w v (.ints k l)->(if i<l.length then some (1,[Cell.raw (.int k (l.getD i 0))]) else none)=some (m,cs)->wsq M w v i m cs:=fun k l hr he=>by
  split at he
  . rename_i hi
    cases he
    cases hr with
    | ints b off hl hc ha hcell=>
     have hne:l≠[]:=fun e=>by rw [e] at hi;simp at hi
     rw [ha hne];refine ⟨b,off,_,_,[.int k (l.getD i 0)],rfl,by omega,fun j u hj=>?_,⟨RdC.raw rfl,trivial⟩⟩
     cases j with
     | zero=>
      simp at hj;subst hj
      have:=hcell i hi
      simpa [hi] using this
     | succ j=>simp at hj
  . cases he
 have rows:∀ n rows,RdC M w v (.sl n rows)->(if i<rows.length then some (n,rows.getD i []) else none)=some (m,cs)->wsq M w v i m cs:=fun n rows hr he=>by
  split at he
  . rename_i hi
    cases he
    cases hr with
    | sl b off u hl hc ha hn hm hr=>
     have hne:rows≠[]:=fun e=>by rw [e] at hi;simp at hi
     rw [ha hne];have hrl:rows[i].length=m:=hn _ (List.getElem_mem hi);refine ⟨b,off,_,_,(List.range m).map (u i),rfl,by omega,fun j x hj=>?_,?_⟩
     . simp only [List.getElem?_map] at hj;by_cases hjn:j<m
       . have:=hm i hi j hjn
         simp [hjn] at hj
         rwa [<-hj]
       . simp [hjn] at hj
     . have e:rows.getD i []=rows[i]:=by simp [hi]
       rw [e]
       have gen:∀(cs:List Cell) (f:Nat->Value),(∀ j (hj:j<cs.length),RdC M w (f j) cs[j])->RdD M w ((List.range cs.length).map f) cs:=by
        intro cs
        induction cs with
        | nil=>intro f _;exact trivial
        | cons c cs ih=>
         intro f hf;rw [List.length_cons,List.range_succ_eq_map,List.map_cons,List.map_map];exact ⟨hf 0 (by simp),ih (f∘Nat.succ) (fun j hj=>hf (j+1) (by simpa using hj))⟩
       have:=gen rows[i] (u i) (fun j hj=>hr i hi j hj)
       rwa [hrl] at this
  . cases he
 cases c with
 | ints k l=>exact ints k l h he
 | sl n r=>exact rows n r h he
 | tok d c=>
  cases c with
  | ints k l=>exact ints k l h.2 he
  | sl n r=>exact rows n r h.2 he
  | _=>cases he
 | _=>cases he
theorem zu3 {d : TypeDesc} (h : shOf P d = .slice e es eb ik) :
 d=.slice e/\∃ i z,P.info? e=some i/\i.zero=some z/\i.size=es/\i.bytes=eb/\es≠0/\z.cells.size=es/\ik=(match P.underlying e with | some (.int k)=>some k | _=>none):=by
 cases d with
 | slice e' =>
  unfold shOf at h;dsimp only at h;split at h
  . rename_i i hi;split at h
    . rename_i z hz;split at h
      . rename_i hc;simp only [Bool.and_eq_true,bne_iff_ne,beq_iff_eq] at hc
        cases h;exact ⟨rfl,i,z,hi,hz,rfl,rfl,hc.1,hc.2,rfl⟩
      . cases h
    . cases h
  . cases h
 | struct fl=>
  exfalso;revert h;unfold shOf;dsimp only;split<;>simp
 | _=>simp [shOf] at h
theorem ycg {d:TypeDesc} {n:Nat} (h:shOf P d=.array n e es):d=.array n e/\es=P.cellsOf e:=by
 cases d with
 | array n' e'=>simp [shOf] at h;obtain ⟨rfl,rfl,rfl⟩:=h;exact ⟨rfl,rfl⟩
 | slice e=>
  exfalso;revert h;unfold shOf;dsimp only
  split
  . split
    . split<;>simp
    . simp
  . simp
 | struct fl=>
  exfalso;revert h;unfold shOf;dsimp only;split<;>simp
 | _=>simp [shOf] at h
theorem run_indexAt_slice (hti:TIok P T ti) (hs:ti.sh=.slice e es eb ik) (w:World) (b off len cap:Nat) (k:IntKind) (n:Int) (h0:0<=n) (hn:n.toNat<len) :
 (Instr.indexAt T (.slice (some ⟨b,off,none⟩) len cap) (.int k n)).run P w=.ok (.pointer (some ⟨b,off+n.toNat*es,none⟩)) w:=by
 obtain ⟨d,i,z,hd,hi,hz,hsz',hby,hzs,hone,hzc,hsh⟩:=hti.ex;obtain ⟨rfl,j,z',hj,_,hjs,_⟩:=zu3 (hsh.symm.trans hs)
 have hlt:n<(len:Int):=by omega
 unfold Instr.indexAt;simp [asIntOf,w9c hd,h0,hlt,yyt hj,hjs,v4h]
theorem zoy (ho:o.op=.indexAddr T x y) (hti:mkTI P T=some ti) (hfa:zxf I ti x y=some (rd,av))
 (h:val I o rd av=some r):vni P o I r.1 [] r.2:=by
 obtain ⟨d,hdst,hn,rfl⟩:=y56 h;have hok:=wgk hti
 have hnh:av.xeo=false/\(∀ t,¬av.v7d t)/\(∀ t∈orr x++orr y,t∈rd):=by
  unfold zxf at hfa
  repeat' split at hfa
  all_goals first | (cases hfa;exact ⟨rfl,fun t h=>h,fun t h=>by simp at h ⊢;simp [h]⟩) | cases hfa
 refine vni.val hdst (by simp) hn hnh.1 (fun E τ M I' a w hag hI=>?_);have hox:opd I' x=opd I x:=hag.opd (fun t ht=>List.mem_cons_of_mem _ (hnh.2.2 t (by simp [ht])));have hoy:opd I' y=opd I y:=hag.opd (fun t ht=>List.mem_cons_of_mem _ (hnh.2.2 t (by simp [ht])));have sx:=hI.opd x;have sy:=hI.opd y;rw [hox] at sx;rw [hoy] at sy;unfold zxf at hfa;split at hfa
 case h_2=>cases hfa
 rename_i k n hyn;rw [hyn] at sy;have ey:a.eval y=.int k n:=RdC.x18 sy;split at hfa
 case isFalse=>cases hfa
 rename_i h0;split at hfa
 . rename_i e es eb ik hsh;have fin:∀(b off len cap:Nat),a.eval x=.slice (some ⟨b,off,none⟩) len cap->n.toNat<len->xb1 M w τ a.tmps (.pointer (some ⟨b,off+n.toNat*es,none⟩)) av->
    (∀(s:Nat) (b:Bool),av.rf=some (s,b)->∃ hv:AV,I'[s]? = some hv/\hv.fits b=true)->
    ∃ v w',(execOp a.eval o).run P w=.ok (.value v) w'/\Below w.heap.size w w'/\xb1 M w' τ a.tmps v av/\(∀ t,av.v7d t->live I' t)/\
    (∀(s:Nat) (b:Bool),av.rf=some (s,b)->∃ hv:AV,I'[s]? = some hv/\hv.fits b=true):=fun b off len cap hx hlt hsl hrf=>
    ⟨_,w,by simp [execOp,ho,hx,ey,run_indexAt_slice hok hsh w b off len cap k n h0 hlt],vpa w,hsl,fun t ht=>absurd ht (hnh.2.1 t),hrf⟩
   split at hfa
   . rename_i c hxc;rw [hxc] at sx;split at hfa
     . rename_i m cs hel;split at hfa
       . rename_i hm
         cases hfa;subst hm;obtain ⟨b,off,len,cap,vs,e1,hlt,hcl,hr⟩:=x7d (show RdT M w τ _ c from sx) hel;exact fin b off len cap e1 hlt ⟨b,_,vs,rfl,hcl,hr⟩ (fun s b hr=>by cases hr)
       . cases hfa
     . cases hfa
   . rename_i pre c post hxa;split at hfa
     . rename_i t;split at hfa
       . rename_i hc;obtain ⟨rfl,hlt⟩:=hc
         cases hfa;rw [hxa] at sx;obtain ⟨b,Tb,vs,q,cap,e1,hb,_⟩:=sx;refine fin b pre.length c.cnt cap e1 hlt ?_ (fun s b' hr=>?_)
         . show _=Value.pointer (some ⟨blk (a.eval (.tmp t)),offV (a.eval (.tmp t))+n.toNat*c.esz+0,none⟩);rw [e1];simp [blk,offV]
         . simp only [AV.rf,Option.some.injEq,Prod.mk.injEq] at hr;obtain ⟨rfl,rfl⟩:=hr;exact ⟨_,y94 (hox.trans hxa) (by simp),rfl⟩
       . cases hfa
     . cases hfa
   . rename_i s hxa;split at hfa
     . rename_i pre c post hg0;split at hfa
       . rename_i hc;obtain ⟨rfl,hlt⟩:=hc
         cases hfa
         have hg:gt I' s=.arr pre c post:=by rw [hag.2 s (by simp)];exact hg0
         rw [hxa] at sx;have sx:a.eval x=a.tmps.getD s Go.undef:=sx;have hss:=hI.gt s;rw [hg] at hss;obtain ⟨b,Tb,vs,q,cap,e1,hb,_⟩:=hss;refine fin b pre.length c.cnt cap (sx.trans e1) hlt ?_ (fun s' b' hr=>?_)
         . show _=Value.pointer (some ⟨blk (a.tmps.getD s Go.undef),offV (a.tmps.getD s Go.undef)+n.toNat*c.esz+0,none⟩);rw [e1];simp [blk,offV]
         . simp only [AV.rf,Option.some.injEq,Prod.mk.injEq] at hr;obtain ⟨rfl,rfl⟩:=hr;exact ⟨_,y94 hg (by simp),rfl⟩
       . cases hfa
     . cases hfa
   . rename_i s m lo k' hxa;split at hfa
     . rename_i hc;obtain ⟨rfl,hlt⟩:=hc
       cases hfa;rw [hxa] at sx;obtain ⟨ad,cap,e1,had,hcap,_⟩:=sx;rw [had (.inl (by omega))] at e1;refine fin _ _ _ cap e1 hlt ?_ (fun s' b' hr'=>?_)
       . show _=Value.pointer (some ⟨_,offV (a.tmps.getD s Go.undef)+(lo+n.toNat)*es+0,none⟩);rw [Nat.add_mul,Nat.add_zero,Nat.add_assoc]
       . cases x with
         | tmp t=>exact hI.refs t _ s' b' (y94 (hox.trans hxa) (by simp)) (by simpa [AV.rf] using hr')
         | const v=>
          exfalso;simp only [opd,z1h] at hxa;split at hxa
          . split at hxa<;>cases hxa
          . cases hxa
          . cases hxa
         | func f=>cases hxa
         | global g=>cases hxa
     . cases hfa
   . cases hfa
 . rename_i m e es hsh;have fin:∀(b off:Nat),a.eval x=.pointer (some ⟨b,off,none⟩)->n.toNat<m->es≠0->xb1 M w τ a.tmps (.pointer (some ⟨b,off+n.toNat*es,none⟩)) av->
    (∀(s:Nat) (b:Bool),av.rf=some (s,b)->∃ hv:AV,I'[s]? = some hv/\hv.fits b=true)->
    ∃ v w',(execOp a.eval o).run P w=.ok (.value v) w'/\Below w.heap.size w w'/\xb1 M w' τ a.tmps v av/\(∀ t,av.v7d t->live I' t)/\
    (∀(s:Nat) (b:Bool),av.rf=some (s,b)->∃ hv:AV,I'[s]? = some hv/\hv.fits b=true):=fun b off hx hlt hes0 hsl hrf=>by
    refine ⟨_,w,?_,vpa w,hsl,fun t ht=>absurd ht (hnh.2.1 t),hrf⟩;obtain ⟨d,i,z,hd,hi,hz,hsz',hby,hzs,hone,hzc,hsh'⟩:=hok.ex;obtain ⟨rfl,hes⟩:=ycg (hsh'.symm.trans hsh)
    have hltm:n<(m:Int):=by omega
    obtain ⟨j,hj,hjs⟩:=vpg (P:=P) (t:=e) (by rw [<-hes];exact hes0);simp only [execOp,ho,hx,ey];unfold Instr.indexAt;simp [asIntOf,w9c hd,h0,hltm,Instr.sureAddr,yyt hj,hjs,hes,v4h]
   split at hfa
   . rename_i cs hxa;split at hfa
     . rename_i t;split at hfa
       . rename_i hlt
         cases hfa;rw [hxa] at sx;obtain ⟨b,vs,Tb,e1,hb,hr⟩:=sx;refine fin b 0 e1 hlt.1 hlt.2 ?_ (fun s b' hr=>?_)
         . show _=Value.pointer (some ⟨blk (a.eval (.tmp t)),_,none⟩);rw [e1];simp [blk]
         . simp only [AV.rf,Option.some.injEq,Prod.mk.injEq] at hr;obtain ⟨rfl,rfl⟩:=hr;exact ⟨_,y94 (hox.trans hxa) (by simp),rfl⟩
       . cases hfa
     . cases hfa
   . rename_i cs hxa;split at hfa
     . rename_i t;split at hfa
       . rename_i hlt
         cases hfa;rw [hxa] at sx;obtain ⟨b,vs,Tb,e1,hb,hr⟩:=sx;refine fin b 0 e1 hlt.1 hlt.2 ?_ (fun s b' hr=>?_)
         . show _=Value.pointer (some ⟨blk (a.eval (.tmp t)),_,none⟩);rw [e1];simp [blk]
         . simp only [AV.rf,Option.some.injEq,Prod.mk.injEq] at hr;obtain ⟨rfl,rfl⟩:=hr;exact ⟨_,y94 (hox.trans hxa) (by simp),rfl⟩
       . cases hfa
     . cases hfa
   . rename_i s o' hxa;split at hfa
     . rename_i hlt
       cases hfa;rw [hxa] at sx;refine fin _ o' sx hlt.1 hlt.2 rfl (fun s' b' hr'=>?_)
       cases x with
       | tmp t=>exact hI.refs t _ s' b' (y94 (hox.trans hxa) (by simp)) (by simpa [AV.rf] using hr')
       | const v=>
        exfalso;simp only [opd,z1h] at hxa;split at hxa
        . split at hxa<;>cases hxa
        . cases hxa
        . cases hxa
       | func f=>cases hxa
       | global g=>cases hxa
     . cases hfa
   . rename_i s m' i f hxa;split at hfa
     . rename_i hlt
       cases hfa;rw [hxa] at sx;refine fin _ _ sx hlt.1 hlt.2 (by show _=Value.pointer _;rw [Nat.add_assoc]) (fun s' b' hr'=>?_)
       cases x with
       | tmp t=>exact hI.refs t _ s' b' (y94 (hox.trans hxa) (by simp)) (by simpa [AV.rf] using hr')
       | const v=>
        exfalso;simp only [opd,z1h] at hxa;split at hxa
        . split at hxa<;>cases hxa
        . cases hxa
        . cases hxa
       | func f=>cases hxa
       | global g=>cases hxa
     . cases hfa
   . rename_i cs hxa;split at hfa
     . rename_i hlt
       cases hfa;rw [hxa] at sx;obtain ⟨b,o',vs,e1,hc,hr⟩:=sx;refine fin b o' e1 hlt.1 hlt.2 ⟨b,_,vs.drop (n.toNat*es),rfl,fun j u hj=>?_,hr.drop _⟩ (fun s b hr=>by cases hr);rw [List.getElem?_drop] at hj
       have:=hc _ u hj
       rwa [<-Nat.add_assoc] at this
     . cases hfa
   . cases hfa
 . cases hfa
end Go.Slot
namespace Go.Slot
open Go Go.RowKit
variable {P:Program}
variable {o:Oper} {I:List AV} {rd:List Nat} {av:AV} {r:List Nat×List (Nat×AV)} {x:Operand} {y v:Value} {T:TypeId} {M:Nat->Nat->Prop} {w:World} {ti:TI} {k:IntKind} {es l cap:Nat} {τ:Nat->TV}
theorem vni.pure (h:Slot.val I o rd av=some r) (hav:av.xeo=false) (hrf:av.rf=none)
 (hrun:∀(E:Env) (τ:Nat->TV) (M:Nat->Nat->Prop) (I':List AV) (a:Act) (w:World),(∀ x:Operand,(∀ t∈orr x,t∈rd)->opd I' x=opd I x)->(∀ s∈rd,gt I' s=gt I s)->RelI E τ M I' a w->
   ∃ v,(execOp a.eval o).run P w=.ok (.value v) w/\xb1 M w τ a.tmps v av/\(∀ t,av.v7d t->live I' t)):vni P o I r.1 [] r.2:=by
 obtain ⟨d,hdst,hn,rfl⟩:=y56 h;refine vni.val hdst (by simp) hn hav (fun E τ M I' a w hag hI=>?_);obtain ⟨v,h1,h2,h3⟩:=hrun E τ M I' a w (fun x hx=>hag.opd (fun t ht=>by simp [hx t ht])) (fun s hs=>hag.2 s (by simp [hs])) hI;exact ⟨v,w,h1,vpa w,h2,h3,fun s b hr=>by rw [hrf] at hr;cases hr⟩
def iand (k:IntKind) (a b:Int):Int:=k.wrap (BitVec.ofInt k.bits a &&&BitVec.ofInt k.bits b).toNat
def ior (k:IntKind) (a b:Int):Int:=k.wrap (BitVec.ofInt k.bits a |||BitVec.ofInt k.bits b).toNat
def ishl (k:IntKind) (a b:Int):Int:=k.wrap (a*2 ^ (min b.toNat k.bits))
def ishr (k:IntKind) (a b:Int):Int:=a.fdiv (2 ^ (min b.toNat k.bits))
def seq (a b:ByteArray):Bool:=a.toList==b.toList
def abin (op:BinOp) (x y:Value):Option Value:=
 match x,y with
 | .int k a,.int k' b=>match op with
  | .shl=>if 0<=b then some (.int k (ishl k a b)) else none
  | .shr=>if 0<=b then some (.int k (ishr k a b)) else none
  | .add=>if k=k' then some (.int k (k.wrap (a+b))) else none
  | .sub=>if k=k' then some (.int k (k.wrap (a-b))) else none
  | .mul=>if k=k' then some (.int k (k.wrap (a*b))) else none
  | .quo=>if k=k'/\b≠0 then some (.int k (k.wrap (a.tdiv b))) else none
  | .rem=>if k=k'/\b≠0 then some (.int k (a.tmod b)) else none
  | .and=>if k=k' then some (.int k (iand k a b)) else none
  | .or=>if k=k' then some (.int k (ior k a b)) else none
  | .eql=>if k=k' then some (.bool (a==b)) else none
  | .neq=>if k=k' then some (.bool (a != b)) else none
  | .lss=>if k=k' then some (.bool (decide (a<b))) else none
  | .leq=>if k=k' then some (.bool (decide (a<=b))) else none
  | .gtr=>if k=k' then some (.bool (decide (b<a))) else none
  | .geq=>if k=k' then some (.bool (decide (b<=a))) else none
  | _=>none
 | .string a,.string b=>match op with
  | .eql=>some (.bool (seq a b))
  | .neq=>some (.bool (!seq a b))
  | .add=>if a.size+b.size<=9223372036854775807 then some (.string (a++b)) else none
  | .lss=>some (.bool (Op.bytesLess a.toList b.toList))
  | .leq=>some (.bool (Op.bytesLess a.toList b.toList||seq a b))
  | .gtr=>some (.bool (!(Op.bytesLess a.toList b.toList||seq a b)))
  | .geq=>some (.bool (!Op.bytesLess a.toList b.toList))
  | _=>none
 | _,_=>none
theorem xy5 {op:BinOp} {x:Value} (h:abin op x y=some v):v.oneCell'=true:=by
 unfold abin at h;split at h
 . split at h<;>first | (split at h<;>first | (cases h;rfl) | cases h) | cases h
 . split at h<;>first | (cases h;rfl) | (split at h<;>first | (cases h;rfl) | cases h) | cases h
 . cases h
theorem vau {op:BinOp} {x:Value} (h:abin op x y=some v) (T:TypeId) (w:World):(binOp op T x y).run P w=.ok v w:=by
 unfold abin at h;split at h
 . rename_i k a k' b;split at h
   all_goals first
    | (split at h
       . rename_i hc
         first
          | (obtain ⟨rfl,hb⟩:=hc;cases h;simp [binOp,Op.intDiv,hb])
          | (subst hc;cases h;simp [binOp,Op.intArith,Op.intBits,Op.intCmp,iand,ior])
          | (cases h;have hb:¬b<0:=by omega
             simp [binOp,Op.shift,hb,ishl,ishr])
       . cases h)
    | cases h
 . rename_i a b;split at h
   . cases h;simp [binOp,Op.stringOp,seq]
   . cases h;simp [binOp,Op.stringOp,seq]
   . split at h
     . rename_i hc
       cases h
       have:¬(IntKind.i64.max<((a.size+b.size:Nat):Int)):=by
        have:IntKind.i64.max=9223372036854775807:=by decide
        omega
       simp only [binOp,Op.stringOp];rw [if_neg this];rfl
     . cases h
   . cases h;simp [binOp,Op.stringOp]
   . cases h;simp [binOp,Op.stringOp,seq]
   . cases h;simp [binOp,Op.stringOp,seq]
   . cases h;simp [binOp,Op.stringOp]
   . cases h
 . cases h
theorem xn9 {op:BinOp} {x:Value} (h:abin op x y=some v) (T:TypeId) (ox oy:Operand) (w:World):(eqGuard op T ox oy x y).run P w=.ok () w:=by
 unfold abin at h;unfold eqGuard;split at h
 . cases op<;>rfl
 . cases op<;>rfl
 . cases h
def binA (I:List AV) (op:BinOp) (x y:Operand):Option AV:=
 match opd I x,opd I y with
 | .one (.raw a),.one (.raw b)=>(abin op a b).map fun v=>.one (.raw v)
 | _,_=>none
theorem x2r {op:BinOp} {U:TypeId} {y:Operand} (ho:o.op=.binOp op T x y U) (hb:binA I op x y=some av)
 (h:val I o (orr x++orr y) av=some r):vni P o I r.1 [] r.2:=by
 have:∃ a b v,opd I x=.one (.raw a)/\opd I y=.one (.raw b)/\abin op a b=some v/\av=.one (.raw v):=by
  unfold binA at hb;split at hb
  . rename_i a b hx hy;simp only [Option.map_eq_some_iff] at hb;obtain ⟨v,h1,rfl⟩:=hb;exact ⟨a,b,v,hx,hy,h1,rfl⟩
  . cases hb
 obtain ⟨p,q,v,hx,hy,hab,rfl⟩:=this;refine vni.pure h rfl rfl (fun E τ M I' a w hop _ hI=>⟨v,?_,RdC.raw (xy5 hab),fun t ht=>ht.elim⟩);have sx:=hI.opd x;have sy:=hI.opd y;rw [hop x (fun t ht=>by simp [ht]),hx] at sx;rw [hop y (fun t ht=>by simp [ht]),hy] at sy;have ex:a.eval x=p:=RdC.x18 sx;have ey:a.eval y=q:=RdC.x18 sy;simp [execOp,ho,ex,ey,xn9 hab,vau hab]
def nilC:Cell->Option Bool
 | .raw (.slice none 0 0)=>some true
 | .nn b=>some b
 | .ints _ l=>if 0<l.length then some false else none
 | .sl _ r=>if 0<r.length then some false else none
 | _=>none
def nilA (I:List AV) (ti:TI) (op:BinOp) (x:Operand):Option AV:=
 match ti.sh with
 | .slice _ _ _ _=>match opd I x with
  | .one c=>match nilC c.bare with
   | some b=>match op with
    | .eql=>some (.one (.raw (.bool b)))
    | .neq=>some (.one (.raw (.bool (!b))))
    | _=>none
   | none=>none
  | _=>none
 | _=>none
theorem RdC.isNil {c:Cell} {b:Bool} (h:RdC M w v c) (hb:nilC c=some b):∃ a len cap,v=.slice a len cap/\a.isNone=b:=by
 cases h with
 | raw h=>unfold nilC at hb;split at hb<;>first | (rename_i heq;cases heq;cases hb;exact ⟨_,_,_,rfl,rfl⟩) | (rename_i heq;cases heq;done) | cases hb
 | zc=>cases hb
 | nn=>cases hb;exact ⟨_,_,_,rfl,rfl⟩
 | fnp=>cases hb
 | ints b' off hl hc ha h=>
  simp only [nilC] at hb;split at hb
  . rename_i hp;cases hb;rw [ha (List.length_pos_iff.1 hp)];exact ⟨_,_,_,rfl,rfl⟩
  . cases hb
 | sl b' off u hl hc ha hn hm hr=>
  simp only [nilC] at hb;split at hb
  . rename_i hp;cases hb;rw [ha (List.length_pos_iff.1 hp)];exact ⟨_,_,_,rfl,rfl⟩
  . cases hb
theorem vh4 {op:BinOp} {U:TypeId} (ho:o.op=.binOp op T x (.const (.slice none 0 0)) U) (hti:mkTI P T=some ti) (hb:nilA I ti op x=some av)
 (h:val I o (orr x) av=some r):vni P o I r.1 [] r.2:=by
 obtain ⟨ds,i,z,hd,hi,hz,_,_,_,_,_,hsh'⟩:=(wgk hti).ex;unfold nilA at hb;split at hb
 case h_2=>cases hb
 rename_i e es eb ik hsh;obtain ⟨rfl,_⟩:=zu3 (hsh'.symm.trans hsh);split at hb
 case h_2=>cases hb
 rename_i c hx;split at hb
 case h_2=>cases hb
 rename_i b hnil
 have hav:∃ q,av=.one (.raw (.bool q))/\((op=.eql/\q=b)\/(op=.neq/\q = !b)):=by
  split at hb<;>cases hb
  . exact ⟨_,rfl,.inl ⟨rfl,rfl⟩⟩
  . exact ⟨_,rfl,.inr ⟨rfl,rfl⟩⟩
 obtain ⟨q,rfl,hq⟩:=hav;refine vni.pure h rfl rfl (fun E τ M I' a w hop _ hI=>⟨.bool q,?_,RdC.raw rfl,fun t ht=>ht.elim⟩);have sx:=hI.opd x;rw [hop x (fun t ht=>ht),hx] at sx;obtain ⟨ad,len,cap,hv,hn⟩:=(RdT.bare sx).isNil hnil
 have hd':∀ d,(Op.equalIn (d+1) T (.slice ad len cap) (.slice none 0 0)).run P w=.ok b w:=fun d=>by
  unfold Op.equalIn
  cases ad with
  | none=>cases hn;simp [w9c hd]
  | some ad=>cases hn;simp [w9c hd]
 have he:(Op.equal T (.slice ad len cap) (.slice none 0 0)).run P w=.ok b w:=hd' 9999;have hc0:a.eval (.const (.slice none 0 0))=.slice none 0 0:=rfl
 rcases hq with ⟨rfl,rfl⟩ | ⟨rfl,rfl⟩
 . simp [execOp,ho,hv,eqGuard,binOp,he,hc0]
 . simp [execOp,ho,hv,eqGuard,binOp,he,hc0]
def aun (op:UnOp) (x:Value):Option Value:=
 match op,x with
 | .neg,.int k n=>some (.int k (k.wrap (0-n)))
 | .not,.bool b=>some (.bool (!b))
 | _,_=>none
def unA (I:List AV) (op:UnOp) (x:Operand):Option AV:=
 match opd I x with
 | .one (.raw a)=>(aun op a).map fun v=>.one (.raw v)
 | _=>none
theorem z0w {op:UnOp} (ho:o.op=.unOp op T x) (hb:unA I op x=some av)
 (h:val I o (orr x) av=some r):vni P o I r.1 [] r.2:=by
 have:∃ a v,opd I x=.one (.raw a)/\aun op a=some v/\av=.one (.raw v):=by
  unfold unA at hb;split at hb
  . rename_i a hx;simp only [Option.map_eq_some_iff] at hb;obtain ⟨v,h1,rfl⟩:=hb;exact ⟨a,v,hx,h1,rfl⟩
  . cases hb
 obtain ⟨p,v,hx,hab,rfl⟩:=this
 have hone:v.oneCell'=true:=by unfold aun at hab;split at hab<;>first | (cases hab;rfl) | cases hab
 refine vni.pure h rfl rfl (fun E τ M I' a w hop _ hI=>⟨v,?_,RdC.raw hone,fun t ht=>ht.elim⟩);have sx:=hI.opd x;rw [hop x (fun t ht=>by simp [ht]),hx] at sx;have ex:a.eval x=p:=RdC.x18 sx;unfold aun at hab;split at hab
 . cases hab;simp [execOp,ho,ex,Op.unary,Op.intArith]
 . cases hab;simp [execOp,ho,ex,Op.unary]
 . cases hab
def vwq (I:List AV) (_ts td:TI) (x:Operand):Option AV:=
 match opd I x,td.sh with
 | .one (.raw (.int _ n)),.int k=>some (.one (.raw (.int k (k.wrap n))))
 | _,_=>none
theorem xlv {d:TypeDesc} (h:shOf P d=.int k):d=.int k:=by
 cases d with
 | int k'=>simp [shOf] at h;rw [h]
 | slice e=>
  exfalso;revert h;unfold shOf;dsimp only
  split
  . split
    . split<;>simp
    . simp
  . simp
 | struct fl=>
  exfalso;revert h;unfold shOf;dsimp only;split<;>simp
 | _=>simp [shOf] at h
theorem v9d {S D:TypeId} (ho:o.op=.convert S D x) {ts td:TI} (hts:mkTI P S=some ts) (htd:mkTI P D=some td) (hb:vwq I ts td x=some av)
 (h:val I o (orr x) av=some r):vni P o I r.1 [] r.2:=by
 have:∃ k' k n,opd I x=.one (.raw (.int k' n))/\td.sh=.int k/\av=.one (.raw (.int k (k.wrap n))):=by
  unfold vwq at hb;split at hb
  . rename_i k' n k hx hk;cases hb;exact ⟨k',k,n,hx,hk,rfl⟩
  . cases hb
 obtain ⟨k',k,n,hx,hk,rfl⟩:=this;obtain ⟨d,i,z,hd,hi,hz,_,_,_,_,_,hsh⟩:=(wgk htd).ex;obtain ⟨ds,_,_,hds,_⟩:=(wgk hts).ex;have hdk:=xlv (hsh.symm.trans hk);subst hdk;refine vni.pure h rfl rfl (fun E τ M I' a w hop _ hI=>⟨_,?_,RdC.raw rfl,fun t ht=>ht.elim⟩);have sx:=hI.opd x;rw [hop x (fun t ht=>by simp [ht]),hx] at sx;have ex:a.eval x=.int k' n:=RdC.x18 sx;simp [execOp,ho,ex,convert,w9c hd,w9c hds,Conv.intToInt]
def lenC:Cell->Option Nat
 | .ints _ l=>some l.length
 | .sl _ rows=>some rows.length
 | .zc=>some 0
 | .nn _=>some 0
 | .raw (.slice none 0 0)=>some 0
 | .raw (.string s)=>some s.size
 | .tok _ (.ints _ l)=>some l.length
 | .tok _ (.sl _ rows)=>some rows.length
 | _=>none
def lenA (I:List AV) (x:Operand):Option (List Nat×AV):=
 match opd I x with
 | .one c=>(lenC c).map fun (n:Nat)=>(orr x,.one (.raw (.int .i64 (n:Int))))
 | .arr _ c _=>some (orr x,.one (.raw (.int .i64 (c.cnt:Int))))
 | .asl s=>match gt I s with
  | .arr _ c _=>some (s::orr x,.one (.raw (.int .i64 (c.cnt:Int))))
  | _=>none
 | .awn _ _ _ (n:Nat)=>some (orr x,.one (.raw (.int .i64 (n:Int))))
 | _=>none
theorem run_len_slice (hti:TIok P T ti) {e eb:Nat} {ik:Option IntKind} (hs:ti.sh=.slice e es eb ik) (ty:TypeId) (ad:Option Addr) (len cap:Nat) (w:World) :
 (Builtin.len_ #[T] ty #[.slice ad len cap]).run P w=.ok (.int .i64 len) w:=by
 obtain ⟨d,i,z,hd,hi,hz,_,_,_,_,_,hsh⟩:=hti.ex;obtain ⟨rfl,_⟩:=zu3 (hsh.symm.trans hs);simp [Builtin.len_,w9c hd,goInt]
theorem wbh {d:TypeDesc} (h:shOf P d=.string):d=.string:=by
 cases d with
 | string=>rfl
 | slice e=>
  exfalso;revert h;unfold shOf;dsimp only
  split
  . split
    . split<;>simp
    . simp
  . simp
 | struct fl=>
  exfalso;revert h;unfold shOf;dsimp only;split<;>simp
 | _=>simp [shOf] at h
def zps (ti:TI):Cell->Bool
 | .raw (.string _)=>match ti.sh with
  | .string=>true
  | _=>false
 | _=>match ti.sh with
  | .slice _ _ _ _=>true
  | _=>false
def xmh (I:List AV) (ti:TI) (x:Operand):Bool:=
 match opd I x with
 | .one c=>zps ti c
 | _=>match ti.sh with
  | .slice _ _ _ _=>true
  | _=>false
theorem RdT.len {c:Cell} {n:Nat} (h:RdT M w τ v c) (hl:lenC c=some n) :
 (∃ ad cap,v=.slice ad n cap/\∀ s,c≠.raw (.string s))\/∃ s,c=.raw (.string s)/\v=.string s/\n=s.size:=by
 have base:∀ c,RdC M w v c->lenC c=some n->(∃ ad cap,v=.slice ad n cap/\∀ s,c≠.raw (.string s))\/∃ s,c=.raw (.string s)/\v=.string s/\n=s.size:=fun c h hl=>by
  cases h with
  | raw h=>
   unfold lenC at hl;split at hl
   case h_5=>rename_i heq;cases heq;cases hl;exact .inl ⟨none,0,rfl,by simp⟩
   case h_6=>rename_i s heq;cases heq;cases hl;exact .inr ⟨s,rfl,rfl,rfl⟩
   all_goals first | (rename_i heq;cases heq;done) | cases hl
  | zc=>cases hl;exact .inl ⟨_,_,rfl,by simp⟩
  | nn=>cases hl;exact .inl ⟨_,_,rfl,by simp⟩
  | fnp=>cases hl
  | ints b off hl' hc ha h=>cases hl;subst hl';exact .inl ⟨_,_,rfl,by simp⟩
  | sl b off u hl' hc ha hn hm hr=>cases hl;subst hl';exact .inl ⟨_,_,rfl,by simp⟩
 cases c with
 | tok d c=>
  have h2:=h.2
  rcases base c h2 (by cases c<;>first | exact hl | cases hl) with ⟨ad,cap,hv,_⟩ | ⟨s,rfl,_⟩
  . exact .inl ⟨ad,cap,hv,by simp⟩
  . cases hl
 | _=>exact base _ h hl
theorem yie (ho:o.op=.call { callee:=.builtin .len,args:=#[x],argTypes:=#[T] }) (hti:mkTI P T=some ti) (hfit:xmh I ti x=true)
 (hb:lenA I x=some (rd,av)) (h:val I o rd av=some r):vni P o I r.1 [] r.2:=by
 have hok:=wgk hti
 have hsub:(∀ t∈orr x,t∈rd)/\∃ n:Nat,av=.one (.raw (.int .i64 n)):=by
  unfold lenA at hb;split at hb
  . simp only [Option.map_eq_some_iff,Prod.mk.injEq] at hb;obtain ⟨n,_,rfl,rfl⟩:=hb;exact ⟨fun t ht=>ht,n,rfl⟩
  . cases hb;exact ⟨fun t ht=>ht,_,rfl⟩
  . split at hb
    . cases hb;exact ⟨fun t ht=>by simp [ht],_,rfl⟩
    . cases hb
  . cases hb;exact ⟨fun t ht=>ht,_,rfl⟩
  . cases hb
 obtain ⟨hsub,n,rfl⟩:=hsub;refine vni.pure h rfl rfl (fun E τ M I' a w hop hgt hI=>⟨_,?_,RdC.raw rfl,fun t ht=>ht.elim⟩);have sx:=hI.opd x;rw [hop x hsub] at sx
 have key:(Builtin.len_ #[T] o.type #[a.eval x]).run P w=.ok (.int .i64 n) w:=by
  unfold xmh at hfit;unfold lenA at hb;split at hb
  . rename_i c hc;rw [hc] at sx;simp only [hc] at hfit;simp only [Option.map_eq_some_iff,Prod.mk.injEq,AV.one.injEq,Cell.raw.injEq,Value.int.injEq,true_and] at hb;obtain ⟨m,hm,rfl,hmn⟩:=hb
    have hmn':m=n:=by exact_mod_cast hmn
    subst hmn'
    rcases RdT.len (show RdT M w τ _ c from sx) hm with ⟨ad,cap,hv,hns⟩ | ⟨s,rfl,hv,rfl⟩
    . rw [hv]
      have:∃ e es eb ik,ti.sh=.slice e es eb ik:=by
       unfold zps at hfit;split at hfit
       . exact absurd rfl (hns _)
       . split at hfit
         . rename_i h;exact ⟨_,_,_,_,h⟩
         . cases hfit
      obtain ⟨e,es,eb,ik,hsh⟩:=this;exact run_len_slice hok hsh _ _ _ _ w
    . rw [hv]
      have hsh:ti.sh=.string:=by
       simp only [zps] at hfit;split at hfit
       . assumption
       . cases hfit
      obtain ⟨d,i,z,hd,hi,hz,_,_,_,_,_,hsh'⟩:=hok.ex
      have:=wbh (hsh'.symm.trans hsh)
      subst this;simp [Builtin.len_,w9c hd,goInt]
  . rename_i pre c post hl
    cases hb;rw [hl] at sx;obtain ⟨b,Tb,vs,q,cap,e1,_⟩:=sx;rw [e1];simp only [hl] at hfit;split at hfit
    . rename_i hsh;exact run_len_slice hok hsh _ _ _ _ w
    . cases hfit
  . rename_i s hs0;split at hb
    . rename_i pre c post hl
      cases hb;rw [hs0] at sx;have sx:a.eval x=a.tmps.getD s Go.undef:=sx;have hss:=hI.gt s;rw [hgt s (by simp),hl] at hss;obtain ⟨b,Tb,vs,q,cap,e1,_⟩:=hss;rw [sx,e1];simp only [hs0] at hfit;split at hfit
      . rename_i hsh;exact run_len_slice hok hsh _ _ _ _ w
      . cases hfit
    . cases hb
  . rename_i s m lo n' hs0
    cases hb;rw [hs0] at sx;obtain ⟨ad,cap,e1,_⟩:=sx;rw [e1];simp only [hs0] at hfit;split at hfit
    . rename_i hsh;exact run_len_slice hok hsh _ _ _ _ w
    . cases hfit
  . cases hb
 simp [execOp,ho,resolve,invoke,builtin,key]
def Cell.isSl:Cell->Bool
 | .ints _ _ | .sl _ _ | .zc=>true
 | _=>false
def natA:AV->Option Nat
 | .one (.raw (.int _ n))=>if 0<=n then some n.toNat else none
 | _=>none
def vwf (I:List AV) (d:Nat):Option Operand->Option Nat
 | none=>some d
 | some x=>natA (opd I x)
def orrO:Option Operand->List Nat
 | none=>[]
 | some x=>orr x
def cutC (c:Cell) (lo:Nat) (hi:Option Nat):Option Cell:=
 match c with
 | .ints k l=>let h:=hi.getD l.length
  if lo<=h/\h<=l.length then some (.ints k ((l.drop lo).take (h-lo))) else none
 | .sl n rows=>let h:=hi.getD rows.length
  if lo<=h/\h<=rows.length then some (.sl n ((rows.drop lo).take (h-lo))) else none
 | _=>none
def x4g (I:List AV) (ti:TI) (x:Operand) (lo hi mx:Option Operand):Option AV:=
 match vwf I 0 lo,(match hi with | none=>some none | some h=>(natA (opd I h)).map some) with
 | some l,some h=>
  match mx with
  | none=>match opd I x with
   | .one (.raw (.string s))=>match ti.sh with
    | .string=>if l<=h.getD s.size/\h.getD s.size<=s.size then some (.one (.raw (.string (s.extract l (h.getD s.size))))) else none
    | _=>none
   | .one c=>match ti.sh with
    | .slice _ _ _ _=>(cutC c.bare l h).map .one
    | _=>none
   | _=>none
  | some m=>match ti.sh,opd I x with
   | .slice _ _ _ _,.one c=>if c.bare.isSl=true/\l=0/\h=some 0/\natA (opd I m)=some 0 then some (.one .zc) else none
   | _,_=>none
 | _,_=>none
theorem v08 {tm:Array Value} {n:Nat} (h:xb1 M w τ tm v av) (hn:natA av=some n):∃ k,v=.int k n:=by
 unfold natA at hn;split at hn
 . rename_i k m;split at hn
   . rename_i h0
     cases hn;have e:v=.int k m:=RdC.x18 h;exact ⟨k,by rw [e];congr 1;omega⟩
   . cases hn
 . cases hn
theorem v3z {n y:Nat} (hv:v=.int k n) (h:n<=y) (code:BoundsCode) (w:World):(Instr.sliceBound v y code).run P w=.ok n w:=by
 subst hv
 have:(n:Int)<=(y:Int):=by omega
 simp [Instr.sliceBound,asIntOf,this]
theorem wf7 (k:IntKind) (y:Nat) (code:BoundsCode) (w:World):(Instr.sliceBound (.int k 0) y code).run P w=.ok 0 w:=by
 simp [Instr.sliceBound,asIntOf]
theorem w8f {lo hi:Option Value} {h len:Nat} {isS:Bool} (hl:match lo with | none=>l=0 | some v=>∃ k,v=.int k l) (hh:match hi with | none=>h=len | some v=>∃ k,v=.int k h)
 (h1:l<=h) (h2:h<=cap) (w:World):(Instr.sliceBounds isS len cap lo hi none).run P w=.ok (l,h,cap) w:=by
 unfold Instr.sliceBounds
 cases hi with
 | none=>
  simp only at hh;subst hh
  cases lo with
  | none=>simp only at hl;subst hl;simp
  | some v=>obtain ⟨k,hv⟩:=hl;simp [v3z hv h1]
 | some u=>
  obtain ⟨k',hu⟩:=hh
  cases lo with
  | none=>simp only at hl;subst hl;simp [v3z hu h2]
  | some v=>obtain ⟨k,hv⟩:=hl;simp [v3z hu h2,v3z hv h1]
theorem RdC.cut {ad:Option Addr} {len:Nat} {c c':Cell} {h:Option Nat} (hr:RdC M w (.slice ad len cap) c) (hc:cutC c l h=some c')
 (hes:∀ k L,c=.ints k L->es=1) (hes':∀ n rows,c=.sl n rows->es=n) :
 l<=h.getD len/\h.getD len<=len/\len<=cap/\RdC M w (.slice (if cap=l then ad else ad.map (·.add (l*es))) (h.getD len-l) (cap-l)) c':=by
 cases hr with
 | raw h=>cases hc
 | zc=>cases hc
 | nn=>cases hc
 | fnp=>cases hc
 | @ints _ _ _ k L b off hl hcap ha hcell=>
  simp only [cutC] at hc;split at hc
  . rename_i hb
    cases hc;subst hl;have he:=hes k L rfl;subst he;refine ⟨hb.1,hb.2,hcap,?_⟩;refine .ints b (off+l) (by simp;omega) (by omega) (fun hne=>?_) (fun i hi=>?_)
    . have:L≠[]:=fun e=>by subst e;simp at hne
      have hlt:¬cap=l:=fun e=>by
       apply hne
       have:h.getD L.length=l:=by omega
       simp [this]
      rw [if_neg hlt,ha this];simp [v4h]
    . simp only [List.length_take,List.length_drop] at hi
      have:=hcell (l+i) (by omega)
      rw [Nat.add_assoc];simpa using this
  . cases hc
 | @sl _ _ _ n rows b off u hl hcap ha hn hm hr=>
  simp only [cutC] at hc;split at hc
  . rename_i hb
    cases hc;subst hl;have he:=hes' n rows rfl;subst he;refine ⟨hb.1,hb.2,hcap,?_⟩;refine .sl b (off+l*es) (fun i j=>u (l+i) j) (by simp;omega) (by omega) (fun hne=>?_) (fun r hr'=>hn r (List.mem_of_mem_drop (List.mem_of_mem_take hr'))) (fun i hi j hj=>?_) (fun i hi j hj=>?_)
    . have:rows≠[]:=fun e=>by subst e;simp at hne
      have hlt:¬cap=l:=fun e=>by
       apply hne
       have:h.getD rows.length=l:=by omega
       simp [this]
      rw [if_neg hlt,ha this];simp [v4h]
    . simp only [List.length_take,List.length_drop] at hi
      have:=hm (l+i) (by omega) j hj
      rw [Nat.add_mul] at this
      have e:off+l*es+i*es+j=off+(l*es+i*es)+j:=by omega
      rw [e];exact this
    . simp only [List.length_take,List.length_drop] at hi
      have hlen:l+i<rows.length:=by omega
      have hj':j<rows[l+i].length:=by simpa using hj
      have:=hr (l+i) hlen j hj'
      simpa using this
  . cases hc
theorem RdC.x8j {c:Cell} (h:RdC M w v c) (hc:c.isSl=true):∃ ad len cap,v=.slice ad len cap:=by
 cases h with
 | raw _=>cases hc
 | fnp=>cases hc
 | _=>exact ⟨_,_,_,rfl⟩
theorem ywm {lo hi mx:Option Operand} (ho:o.op=.slice T x lo hi mx) (hti:mkTI P T=some ti)
 (hes:∀ e es eb ik,ti.sh=.slice e es eb ik->∀ c,opd I x=.one c->(∀ k L,c.bare=.ints k L->es=1)/\(∀ n rows,c.bare=.sl n rows->es=n))
 (hs:x4g I ti x lo hi mx=some av) (h:val I o (orr x++orrO lo++orrO hi++orrO mx) av=some r):vni P o I r.1 [] r.2:=by
 have hok:=wgk hti;obtain ⟨d,i,z,hd,hi',hz,_,_,_,_,_,hsh'⟩:=hok.ex
 have hprops:av.xeo=false/\av.rf=none:=by
  unfold x4g at hs
  repeat' split at hs
  all_goals first
   | (cases hs;exact ⟨rfl,rfl⟩)
   | (simp only [Option.map_eq_some_iff] at hs;obtain ⟨_,_,rfl⟩:=hs;exact ⟨rfl,rfl⟩)
   | cases hs
 refine vni.pure h hprops.1 hprops.2 (fun E τ M I' a w hop hgt hI=>?_);have sx:=hI.opd x;rw [hop x (fun t ht=>by simp [ht])] at sx
 have bnd:∀(u:Option Operand) (dflt n:Nat),(∀ y,u=some y->opd I' y=opd I y)->vwf I dflt u=some n->match u.map a.eval with | none=>n=dflt | some v=>∃ k,v=.int k n:=fun u dflt n hu hb=>by
  cases u with
  | none=>simp [vwf] at hb;exact hb.symm
  | some y=>
   have sy:=hI.opd y;rw [hu y rfl] at sy;exact v08 sy hb
 have hlo:∀ y,lo=some y->opd I' y=opd I y:=fun y e=>hop y (fun t ht=>by subst e;simp [orrO,ht])
 have hhi:∀ y,hi=some y->opd I' y=opd I y:=fun y e=>hop y (fun t ht=>by subst e;simp [orrO,ht])
 have hmx:∀ y,mx=some y->opd I' y=opd I y:=fun y e=>hop y (fun t ht=>by subst e;simp [orrO,ht])
 unfold x4g at hs;split at hs
 case h_2=>cases hs
 rename_i l hh hl hhb;have bl:=bnd lo 0 l hlo hl
 have bh:∀ len:Nat,match hi.map a.eval with | none=>hh.getD len=len | some v=>∃ k,v=.int k (hh.getD len):=fun len=>by
  cases hi with
  | none=>simp at hhb;subst hhb;rfl
  | some y=>
   simp only [Option.map_eq_some_iff] at hhb;obtain ⟨n,hn,rfl⟩:=hhb;have sy:=hI.opd y;rw [hhi y rfl] at sy;exact v08 sy hn
 split at hs
 ·
  split at hs
  . rename_i s hxs;rw [hxs] at sx;have ex:a.eval x=.string s:=RdC.x18 sx;split at hs
    . rename_i hsh;split at hs
      . rename_i hb
        cases hs;have hds:=wbh (hsh'.symm.trans hsh);subst hds;refine ⟨.string (s.extract l (hh.getD s.size)),?_,RdC.raw rfl,fun t ht=>ht.elim⟩;have hrb:=w8f (P:=P) (isS:=false) (len:=s.size) (cap:=s.size) bl (bh s.size) hb.1 hb.2 w;simp [execOp,ho,ex,Instr.sliceAt,w9c hd,Instr.slice,hrb]
      . cases hs
    . cases hs
  . rename_i c hnot hxc;rw [hxc] at sx;split at hs
    . rename_i e es eb ik hsh;simp only [Option.map_eq_some_iff] at hs;obtain ⟨c',hc',rfl⟩:=hs;obtain ⟨rfl,j,z',hj,hz',hjs,_⟩:=zu3 (hsh'.symm.trans hsh);have hrb:=RdT.bare (show RdT M w τ _ c from sx)
      have hsv:∃ ad len cap,a.eval x=.slice ad len cap:=hrb.x8j (by
       generalize c.bare=cb at hc'
       cases cb<;>first | rfl | cases hc')
      obtain ⟨ad,len,cap,ex⟩:=hsv;rw [ex] at hrb;have hcut:=hrb.cut hc' (hes e es eb ik hsh c hxc).1 (hes e es eb ik hsh c hxc).2;refine ⟨_,?_,RdT.of hcut.2.2.2,fun t ht=>?_⟩
      . have hrbs:=w8f (P:=P) (isS:=true) (len:=len) (cap:=cap) bl (bh len) hcut.1 (by omega) w;simp [execOp,ho,ex,Instr.sliceAt,w9c hd,Instr.slice,hrbs,yyt hj,hjs]
      . have hnt:∀ t,¬c'.v7d t:=fun t ht=>by
         cases c' with
         | tok d' c''=>exact hcut.2.2.2.xxy
         | _=>exact ht
        exact absurd ht (hnt t)
    . cases hs
  . cases hs
 . rename_i m;split at hs
   . rename_i e es eb ik c hsh hxc;rw [hxc] at sx;split at hs
     . rename_i hb;obtain ⟨hsl,rfl,rfl,hm⟩:=hb
       cases hs;obtain ⟨rfl,j,z',hj,hz',hjs,_⟩:=zu3 (hsh'.symm.trans hsh);have hrb:=RdT.bare (show RdT M w τ _ c from sx);have sm:=hI.opd m;rw [hmx m rfl] at sm;obtain ⟨km,em⟩:=v08 sm hm;obtain ⟨ad,len,cap,ex⟩:=hrb.x8j hsl;have hhv:=bh 0;have hlv:∀(lv:Option Value),(match lv with | none=>0=0 | some v=>∃ k,v=.int k (0:Nat))->∀ hv:Value,(∃ k,hv=.int k (0:Nat))->
        (Instr.sliceBounds true len cap lv (some hv) (some (.int km (0:Nat)))).run P w=.ok (0,0,0) w:=fun lv h1 hv ⟨k2,h2⟩=>by
        unfold Instr.sliceBounds
        cases lv with
        | none=>subst h2;simp [wf7]
        | some v=>obtain ⟨k3,h3⟩:=h1;subst h2;subst h3;simp [wf7]
       cases hi with
       | none=>simp at hhb
       | some hy=>
        have hres:=hlv (lo.map a.eval) bl (a.eval hy) hhv;have hmv:a.eval m=.int km (0:Nat):=em;refine ⟨.slice ad 0 0,?_,RdC.zc,fun t ht=>ht.elim⟩;simp only [execOp,ho,ex,Instr.sliceAt,Option.map_some,hmv,Sem.run_bind,w9c hd,Result.andThen_ok,Instr.slice,hres,yyt hj];simp
     . cases hs
   . cases hs
def xch (I:List AV) (ti:TI) (x:Operand) (lo hi:Option Operand):Option (List Nat×AV):=
 match vwf I 0 lo,(match hi with | none=>some none | some h=>(natA (opd I h)).map some) with
 | some l,some h=>match ti.sh,x with
  | .slice _ es _ _,.tmp t=>match gt I t with
   | .arr _ c _=>if es=c.esz/\l<=h.getD c.cnt/\h.getD c.cnt<=c.cnt then some (t::(orrO lo++orrO hi),.awn t es l (h.getD c.cnt-l)) else none
   | .asl s=>match gt I s with
    | .arr _ c _=>if es=c.esz/\l<=h.getD c.cnt/\h.getD c.cnt<=c.cnt then some (t::s::(orrO lo++orrO hi),.awn s es l (h.getD c.cnt-l)) else none
    | _=>none
   | .awn s m lo' n=>if es=m/\l<=h.getD n/\h.getD n<=n then some (t::(orrO lo++orrO hi),.awn s m (lo'+l) (h.getD n-l)) else none
   | _=>none
  | _,_=>none
 | _,_=>none
theorem zse {lo hi:Option Operand} (ho:o.op=.slice T x lo hi none) (hti:mkTI P T=some ti)
 (hs:xch I ti x lo hi=some (rd,av)) (h:val I o rd av=some r):vni P o I r.1 [] r.2:=by
 obtain ⟨d,hdst,hn,rfl⟩:=y56 h;have hok:=wgk hti;obtain ⟨ds,i,z,hd,hi',hz,_,_,_,_,_,hsh'⟩:=hok.ex;unfold xch at hs;split at hs
 case h_2=>cases hs
 rename_i l hh hl hhb;split at hs
 case h_2=>cases hs
 rename_i e es eb ik t hsh;obtain ⟨rfl,j,z',hj,hz',hjs,_⟩:=zu3 (hsh'.symm.trans hsh)
 have hrd:(∀ u∈orrO lo,u∈rd)/\(∀ u∈orrO hi,u∈rd)/\t∈rd/\av.xeo=false/\(∀ u,¬av.v7d u):=by
  repeat' split at hs
  all_goals first
   | (cases hs;exact ⟨fun u hu=>by simp [hu],fun u hu=>by simp [hu],by simp,rfl,fun u h=>h⟩)
   | cases hs
 refine vni.val hdst (by simp) hn hrd.2.2.2.1 (fun E τ M I' a w hag hI=>?_)
 have bnd:∀(u:Option Operand) (dflt n:Nat),(∀ y,u=some y->opd I' y=opd I y)->vwf I dflt u=some n->match u.map a.eval with | none=>n=dflt | some v=>∃ k,v=.int k n:=fun u dflt n hu hb=>by
  cases u with
  | none=>simp [vwf] at hb;exact hb.symm
  | some y=>
   have sy:=hI.opd y;rw [hu y rfl] at sy;exact v08 sy hb
 have hlo:∀ y,lo=some y->opd I' y=opd I y:=fun y e=>hag.opd (fun t ht=>by subst e;exact List.mem_cons_of_mem _ (hrd.1 t (by simpa [orrO] using ht)))
 have hhi:∀ y,hi=some y->opd I' y=opd I y:=fun y e=>hag.opd (fun t ht=>by subst e;exact List.mem_cons_of_mem _ (hrd.2.1 t (by simpa [orrO] using ht)))
 have bl:=bnd lo 0 l hlo hl
 have bh:∀ len:Nat,match hi.map a.eval with | none=>hh.getD len=len | some v=>∃ k,v=.int k (hh.getD len):=fun len=>by
  cases hi with
  | none=>simp at hhb;subst hhb;rfl
  | some y=>
   simp only [Option.map_eq_some_iff] at hhb;obtain ⟨n,hn,rfl⟩:=hhb;have sy:=hI.opd y;rw [hhi y rfl] at sy;exact v08 sy hn
 have hgt:gt I' t=gt I t:=hag.2 t (List.mem_cons_of_mem _ hrd.2.2.1);have fin:∀(ad:Option Addr) (len cap:Nat),a.tmps.getD t Go.undef=.slice ad len cap->l<=hh.getD len->hh.getD len<=len->len<=cap->
  xb1 M w τ a.tmps (.slice (if cap=l then ad else ad.map (·.add (l*es))) (hh.getD len-l) (cap-l)) av->
  (∀(s:Nat) (b:Bool),av.rf=some (s,b)->∃ hv:AV,I'[s]? = some hv/\hv.fits b=true)->
  ∃ v w',(execOp a.eval o).run P w=.ok (.value v) w'/\Below w.heap.size w w'/\xb1 M w' τ a.tmps v av/\(∀ t,av.v7d t->live I' t)/\
   (∀(s:Nat) (b:Bool),av.rf=some (s,b)->∃ hv:AV,I'[s]? = some hv/\hv.fits b=true):=fun ad len cap ex h1 h2 h3 hsl hrf=>by
  refine ⟨_,w,?_,vpa w,hsl,fun u hu=>absurd hu (hrd.2.2.2.2 u),hrf⟩;have hrbs:=w8f (P:=P) (isS:=true) (len:=len) (cap:=cap) bl (bh len) h1 (by omega) w;have ex':a.eval (.tmp t)=.slice ad len cap:=ex;simp [execOp,ho,ex',Instr.sliceAt,w9c hd,Instr.slice,hrbs,yyt hj,hjs]
 split at hs
 . rename_i pre c post hg;split at hs
   . rename_i hc
     cases hs;obtain ⟨rfl,h1,h2⟩:=hc;have hss:=hI.gt t;rw [hgt,hg] at hss;obtain ⟨b,Tb,vs,q,cap,e1,hb,_,_,_,hcap,_⟩:=hss;refine fin _ _ _ e1 h1 h2 hcap ⟨_,_,rfl,fun hne=>?_,by omega,by rw [e1];simp only [capV];omega⟩ (fun s' b' hr=>?_)
     . by_cases hcl:cap=l
       . have:l=0:=by omega
         subst this;subst hcl;rw [if_pos rfl,e1];simp [blk,offV]
       . rw [if_neg hcl,e1];simp [blk,offV,v4h]
     . simp only [AV.rf,Option.some.injEq,Prod.mk.injEq] at hr;obtain ⟨rfl,rfl⟩:=hr;exact ⟨_,y94 (hgt.trans hg) (by simp),rfl⟩
   . cases hs
 . rename_i s hg;split at hs
   . rename_i pre c post hg2;split at hs
     . rename_i hc
       cases hs;obtain ⟨rfl,h1,h2⟩:=hc;have hs1:=hI.gt t;rw [hgt,hg] at hs1;have hs1:a.tmps.getD t Go.undef=a.tmps.getD s Go.undef:=hs1;have hss:=hI.gt s
       have hgs:gt I' s=.arr pre c post:=by rw [hag.2 s (by simp)];exact hg2
       rw [hgs] at hss;obtain ⟨b,Tb,vs,q,cap,e1,hb,_,_,_,hcap,_⟩:=hss;refine fin _ _ _ (hs1.trans e1) h1 h2 hcap ⟨_,_,rfl,fun hne=>?_,by omega,by rw [e1];simp only [capV];omega⟩ (fun s' b' hr=>?_)
       . by_cases hcl:cap=l
         . have:l=0:=by omega
           subst this;subst hcl;rw [if_pos rfl,e1];simp [blk,offV]
         . rw [if_neg hcl,e1];simp [blk,offV,v4h]
       . simp only [AV.rf,Option.some.injEq,Prod.mk.injEq] at hr;obtain ⟨rfl,rfl⟩:=hr;exact ⟨_,y94 hgs (by simp),rfl⟩
     . cases hs
   . cases hs
 . rename_i s m lo' n hg;split at hs
   . rename_i hc
     cases hs;obtain ⟨rfl,h1,h2⟩:=hc;have hs1:=hI.gt t;rw [hgt,hg] at hs1;obtain ⟨ad,cap,e1,had,hcap,hcap'⟩:=hs1;refine fin _ _ _ e1 h1 h2 hcap ⟨_,_,rfl,fun hne=>?_,by omega,by omega⟩ (fun s' b' hr=>hI.refs t _ s' b' (y94 (hgt.trans hg) (by simp)) (by simpa [AV.rf] using hr));by_cases hcl:cap=l
     . have:l=0:=by omega
       subst this;subst hcl;rw [if_pos rfl,had (.inr (by omega))];simp
     . rw [if_neg hcl,had (.inl (by omega))];simp only [Option.map_some,v4h,Option.some.injEq,Addr.mk.injEq,and_true,true_and];rw [Nat.add_mul,Nat.add_assoc]
   . cases hs
 . cases hs
def zqp (I:List AV) (ti te:TI) (x y:Operand):Option AV:=
 match ti.sh,opd I x,opd I y with
 | .slice _ es eb ik,.one (.raw (.int _ n)),.one (.raw (.int _ m))=>
  if 0<=n/\n<=m/\(eb:Int)*m<=281474976710656/\m<=9223372036854775807 then match ik with
   | some k=>match te.zc with
    | [.raw (.int k' z)]=>if es=1/\k=k'/\z=0 then some (.arr [] (.ints k (List.replicate n.toNat 0)) none) else none
    | _=>none
   | none=>some (.arr [] (.sl es (List.replicate n.toNat te.zc)) none)
  else none
 | _,_,_=>none
theorem wkf (z:Array Value) (n:Nat):(madeCells z (n*z.size)).toList=(List.replicate n z.toList).flatten:=by
 induction n with
 | zero=>simp [madeCells]
 | succ n ih=>
  rw [List.replicate_succ',List.flatten_append,<-ih];simp only [madeCells,List.flatten_cons,List.flatten_nil,List.append_nil,Nat.succ_mul];apply List.ext_getElem
  . simp
  . intro i h1 h2;simp only [Array.toList_map,Array.toList_range,List.getElem_map,List.getElem_range];by_cases hi:i<n*z.size
    . rw [List.getElem_append_left (by simpa using hi)];simp
    . rw [List.getElem_append_right (by simpa using hi)];simp only [List.length_map,List.length_range,Array.getElem_toList]
      have hlt:i-n*z.size<z.size:=by simp at h1;omega
      have:i % z.size=i-n*z.size:=by
       rw [show i=(i-n*z.size)+z.size*n by rw [Nat.mul_comm z.size n];omega,Nat.add_mul_mod_self_left,Nat.mod_eq_of_lt hlt];rw [Nat.mul_comm z.size n];omega
      rw [this];rw [getElem!_pos z _ hlt]
theorem RdD.wvp {M:Nat->Nat->Prop} {w:World} {vs:List Value} {cs:List Cell} (h:RdD M w vs cs):∀ n:Nat,RdD M w (List.replicate n vs).flatten (List.replicate n cs).flatten
 | 0=>trivial
 | n+1=>by rw [List.replicate_succ,List.replicate_succ,List.flatten_cons,List.flatten_cons];exact h.append (h.wvp n)
theorem zft {M:Nat->Nat->Prop} {w:World}:∀{l:List Value},(∀ v∈l,v.oneCell'=true)->RdD M w l (l.map zm7)
 | [],_=>trivial
 | v::l,h=>⟨vo6 (h v (by simp)),zft (fun u hu=>h u (by simp [hu]))⟩
theorem y42 {y:Operand} (ho:o.op=.makeSlice T x y) {te:TI} (hti:mkTI P T=some ti) (hte:∀ e es eb ik,ti.sh=.slice e es eb ik->mkTI P e=some te) (hb:zqp I ti te x y=some av)
 (h:val I o (orr x++orr y) av=some r):vni P o I r.1 [] r.2:=by
 obtain ⟨d,hdst,hn,rfl⟩:=y56 h;have hok:=wgk hti;unfold zqp at hb;split at hb
 case h_2=>cases hb
 rename_i e es eb ik kx n ky m hsh hx hy;split at hb
 case isFalse=>cases hb
 rename_i hc;obtain ⟨h0,hnm,hby,h63⟩:=hc;obtain ⟨ds,i,z,hd,hi,hz,_,_,_,_,_,hsh'⟩:=hok.ex;obtain ⟨rfl,j,z',hj,hz',hjs,hjb,hes0,hzs,hik⟩:=zu3 (hsh'.symm.trans hsh);obtain ⟨de,je,ze,hde,hje,hze,_,_,_,hone,hzce,_⟩:=(wgk (hte _ _ _ _ hsh)).ex;rw [hj] at hje;cases hje;rw [hz'] at hze;cases hze
 have key:∀ c:Cell,c.uni->c.cnt=n.toNat->c.esz=es->c.flat=(List.replicate n.toNat (z'.cells.toList.map zm7)).flatten->vni P o I (d::(orr x++orr y)) [] [(d,.arr [] c none)]:=fun c hu hcnt hesz hflat=>by
  refine vni.new hdst (by simp) hn rfl rfl (fun E τ M I' a w hag hI=>?_);have sx:=hI.opd x;have sy:=hI.opd y;rw [hag.opd (fun t ht=>by simp [ht]),hx] at sx;rw [hag.opd (fun t ht=>by simp [ht]),hy] at sy;have ex:a.eval x=.int kx n:=RdC.x18 sx;have ey:a.eval y=.int ky m:=RdC.x18 sy;have hrun:=run_make (P:=P) w T e j z' hd hj hz' kx ky n m h0 hnm (by rw [hjb];exact hby) h63;refine ⟨.slice (some ⟨w.heap.size,0,none⟩) n.toNat m.toNat,.cells (madeCells z'.cells (m.toNat*j.size)) e,by simp [execOp,ho,ex,ey,hrun],rfl,?_,fun t ht=>ht.elim⟩
  have hcells:madeCells z'.cells (m.toNat*j.size)=([]++((List.replicate n.toNat z'.cells.toList).flatten++(List.replicate (m.toNat-n.toNat) z'.cells.toList).flatten)).toArray:=by
   rw [hjs,<-hzs,<-Array.toArray_toList (xs:=madeCells _ _),wkf,List.nil_append,<-List.flatten_append,List.replicate_append_replicate]
   congr 3;omega
  refine ⟨w.heap.size,e,(List.replicate n.toNat z'.cells.toList).flatten,(List.replicate (m.toNat-n.toNat) z'.cells.toList).flatten,m.toNat,by rw [hcnt];rfl,by rw [xp1,hcells],?_,(by intro p hp;cases hp),hu,by rw [hcnt];omega,?_⟩
  . rw [hflat];exact (zft hone).wvp _
  . rw [hesz,yno (m:=es) _ (fun r hr=>by rw [List.eq_of_mem_replicate hr];simpa using hzs),yno (m:=es) _ (fun r hr=>by rw [List.eq_of_mem_replicate hr];simpa using hzs)];simp only [List.length_replicate,<-Nat.add_mul];exact Nat.mul_le_mul_right _ (by omega)
 split at hb
 . rename_i k _;split at hb
   . rename_i k' z0 hzc;split at hb
     . rename_i hc;obtain ⟨rfl,rfl,rfl⟩:=hc
       cases hb;refine key _ trivial (by simp [Cell.cnt]) rfl ?_;rw [<-hzce,hzc]
       have:∀(kk:IntKind) (n:Nat),(List.replicate n ([.raw (.int kk 0)]:List Cell)).flatten=List.replicate n (.raw (.int kk 0)):=fun kk n=>by
        induction n with
        | zero=>rfl
        | succ n ih=>rw [List.replicate_succ,List.flatten_cons,ih];rfl
       rw [this];simp [Cell.flat]
     . cases hb
   . cases hb
 . cases hb;refine key _ (fun r hr=>by rw [List.eq_of_mem_replicate hr,hzce];simpa using hzs) (by simp [Cell.cnt]) rfl ?_;rw [hzce];rfl
end Go.Slot
