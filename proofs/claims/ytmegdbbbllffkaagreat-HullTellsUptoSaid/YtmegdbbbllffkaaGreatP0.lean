/- The proof, part P0: Ma, Mb, Mc, Md, Me. -/
import Derived.WalkKit
import Derived.WalkSpells
namespace Go.Slot
open Go Go.RowKit
variable {M M':Nat->Nat->Prop} {w w':World} {i:Nat} {tm:Array Value}
inductive Cell where
 | raw (v:Value)
 | ints (k:IntKind) (l:List Int)
 | sl (n:Nat) (rows:List (List Cell))
 | zc
 | nn (b:Bool)
 | fnp (p:(Nat->Nat->Prop)->World->Value->Prop)
 | tok (d:Nat) (c:Cell)
def ya3 (M M':Nat->Nat->Prop) (w w':World):Prop:=∀ b o u,¬M b o->w.cell? ⟨b,o,none⟩=some u->¬M' b o/\w'.cell? ⟨b,o,none⟩=some u
theorem ya3.trans {M'':Nat->Nat->Prop} {w'':World} (h:ya3 M M' w w') (h':ya3 M' M'' w' w''):ya3 M M'' w w'':=fun b o u hm hc=>h' b o u (h b o u hm hc).1 (h b o u hm hc).2
inductive RdC (M:Nat->Nat->Prop) (w:World):Value->Cell->Prop
 | raw {v:Value} (h:v.oneCell'=true):RdC M w v (.raw v)
 | zc {a:Option Addr}:RdC M w (.slice a 0 0) .zc
 | nn {a:Option Addr} {cap:Nat}:RdC M w (.slice a 0 cap) (.nn a.isNone)
 | fnp {v:Value} {p:(Nat->Nat->Prop)->World->Value->Prop} (h:v.oneCell'=true) (hp:∀ M' w',ya3 M M' w w'->p M' w' v):RdC M w v (.fnp p)
 | ints {a:Option Addr} {len cap:Nat} {k:IntKind} {l:List Int} (b off:Nat) (hl:len=l.length) (hc:len<=cap)
  (ha:l≠[]->a=some ⟨b,off,none⟩)
  (h:∀ i (hi:i<l.length),¬M b (off+i)/\w.cell? ⟨b,off+i,none⟩=some (.int k l[i])):RdC M w (.slice a len cap) (.ints k l)
 | sl {a:Option Addr} {len cap n:Nat} {rows:List (List Cell)} (b off:Nat) (u:Nat->Nat->Value) (hl:len=rows.length) (hc:len<=cap)
  (ha:rows≠[]->a=some ⟨b,off,none⟩) (hn:∀ r∈rows,r.length=n)
  (hm:∀ i,i<rows.length->∀ j,j<n->¬M b (off+i*n+j)/\w.cell? ⟨b,off+i*n+j,none⟩=some (u i j))
  (hr:∀ i (hi:i<rows.length) j (hj:j<rows[i].length),RdC M w (u i j) (rows[i][j])):RdC M w (.slice a len cap) (.sl n rows)
theorem RdC.one {v:Value} {c:Cell} (h:RdC M w v c):v.oneCell'=true:=by
 cases h<;>first | rfl | assumption
theorem RdC.keep (hk:ya3 M M' w w') {v:Value} {c:Cell} (h:RdC M w v c):RdC M' w' v c:=by
 induction h with
 | raw h=>exact .raw h
 | zc=>exact .zc
 | nn=>exact .nn
 | fnp h hp=>exact .fnp h (fun M'' w'' hk'=>hp M'' w'' (hk.trans hk'))
 | ints b off hl hc ha h=>exact .ints b off hl hc ha (fun i hi=>hk _ _ _ (h i hi).1 (h i hi).2)
 | sl b off u hl hc ha hn hm _ ih=>exact .sl b off u hl hc ha hn (fun i hi j hj=>hk _ _ _ (hm i hi j hj).1 (hm i hi j hj).2) ih
structure TV where
 v:Value
 sz:Nat
def Cell.esz:Cell->Nat
 | .ints _ _=>1
 | .sl n _=>n
 | .tok _ c=>c.esz
 | _=>0
def RdT (M:Nat->Nat->Prop) (w:World) (τ:Nat->TV) (v:Value):Cell->Prop
 | .tok d c=>(v=(τ d).v/\(τ d).sz=c.esz)/\RdC M w v c
 | c=>RdC M w v c
def RdL (M:Nat->Nat->Prop) (w:World) (τ:Nat->TV):List Value->List Cell->Prop
 | [],[]=>True
 | v::vs,c::cs=>RdT M w τ v c/\RdL M w τ vs cs
 | _,_=>False
def RdD (M:Nat->Nat->Prop) (w:World):List Value->List Cell->Prop
 | [],[]=>True
 | v::vs,c::cs=>RdC M w v c/\RdD M w vs cs
 | _,_=>False
theorem RdT.one {M:Nat->Nat->Prop} {w:World} {τ:Nat->TV} {v:Value} {c:Cell} (h:RdT M w τ v c):v.oneCell'=true:=by
 cases c<;>first | exact RdC.one h | exact h.2.one
def Cell.vjg (d:Nat):Cell->Prop
 | .tok d' c=>d'=d\/c.vjg d
 | _=>False
def vxx (d:Nat):List Cell->Prop
 | []=>False
 | c::cs=>c.vjg d\/vxx d cs
theorem RdT.keep {M M':Nat->Nat->Prop} {w w':World} {τ τ':Nat->TV} (hk:ya3 M M' w w') {v:Value} {c:Cell} (ht:∀ d,c.vjg d->τ' d=τ d)
 (h:RdT M w τ v c):RdT M' w' τ' v c:=by
 cases c with
 | tok d c=>exact ⟨by rw [ht d (.inl rfl)];exact h.1,h.2.keep hk⟩
 | _=>exact RdC.keep hk h
theorem RdL.keep {M M':Nat->Nat->Prop} {w w':World} {τ τ':Nat->TV} (hk:ya3 M M' w w'):∀{vs:List Value} {cs:List Cell},(∀ d,vxx d cs->τ' d=τ d)->
 RdL M w τ vs cs->RdL M' w' τ' vs cs
 | [],[],_,_=>trivial
 | _::_,_::_,ht,h=>⟨h.1.keep hk (fun d hd=>ht d (.inl hd)),h.2.keep hk (fun d hd=>ht d (.inr hd))⟩
theorem RdD.keep {M M':Nat->Nat->Prop} {w w':World} (hk:ya3 M M' w w'):∀{vs:List Value} {cs:List Cell},RdD M w vs cs->RdD M' w' vs cs
 | [],[],_=>trivial
 | _::_,_::_,h=>⟨h.1.keep hk,h.2.keep hk⟩
theorem RdL.length {M:Nat->Nat->Prop} {w:World} {τ:Nat->TV}:∀{vs:List Value} {cs:List Cell},RdL M w τ vs cs->vs.length=cs.length
 | [],[],_=>rfl
 | _::_,_::_,h=>by simp [h.2.length]
theorem RdD.length {M:Nat->Nat->Prop} {w:World}:∀{vs:List Value} {cs:List Cell},RdD M w vs cs->vs.length=cs.length
 | [],[],_=>rfl
 | _::_,_::_,h=>by simp [h.2.length]
theorem RdL.get {M:Nat->Nat->Prop} {w:World} {τ:Nat->TV}:∀{vs:List Value} {cs:List Cell},RdL M w τ vs cs->∀(j:Nat) (c:Cell),cs[j]? = some c->∃ v,vs[j]? = some v/\RdT M w τ v c
 | [],[],_,j,c,hc=>by simp at hc
 | v::vs,c'::cs,h,0,c,hc=>by simp at hc;subst hc;exact ⟨v,by simp,h.1⟩
 | v::vs,c'::cs,h,j+1,c,hc=>by simpa using h.2.get j c (by simpa using hc)
theorem RdL.drop {M:Nat->Nat->Prop} {w:World} {τ:Nat->TV}:∀(n:Nat) {vs:List Value} {cs:List Cell},RdL M w τ vs cs->RdL M w τ (vs.drop n) (cs.drop n)
 | 0,_,_,h=>by simpa using h
 | n+1,[],[],_=>trivial
 | n+1,_::_,_::_,h=>by simpa using h.2.drop n
theorem RdL.take {M:Nat->Nat->Prop} {w:World} {τ:Nat->TV}:∀(n:Nat) {vs:List Value} {cs:List Cell},RdL M w τ vs cs->RdL M w τ (vs.take n) (cs.take n)
 | 0,_,_,_=>trivial
 | _n+1,[],[],_=>trivial
 | n+1,_::_,_::_,h=>⟨h.1,h.2.take n⟩
theorem RdD.drop {M:Nat->Nat->Prop} {w:World}:∀(n:Nat) {vs:List Value} {cs:List Cell},RdD M w vs cs->RdD M w (vs.drop n) (cs.drop n)
 | 0,_,_,h=>by simpa using h
 | n+1,[],[],_=>trivial
 | n+1,_::_,_::_,h=>by simpa using h.2.drop n
theorem RdD.take {M:Nat->Nat->Prop} {w:World}:∀(n:Nat) {vs:List Value} {cs:List Cell},RdD M w vs cs->RdD M w (vs.take n) (cs.take n)
 | 0,_,_,_=>trivial
 | _n+1,[],[],_=>trivial
 | n+1,_::_,_::_,h=>⟨h.1,h.2.take n⟩
theorem RdL.append {M:Nat->Nat->Prop} {w:World} {τ:Nat->TV}:∀{vs:List Value} {cs:List Cell} {us:List Value} {ds:List Cell},RdL M w τ vs cs->RdL M w τ us ds->RdL M w τ (vs++us) (cs++ds)
 | [],[],_,_,_,h=>h
 | _::_,_::_,_,_,h,h'=>⟨h.1,h.2.append h'⟩
theorem RdD.append {M:Nat->Nat->Prop} {w:World}:∀{vs:List Value} {cs:List Cell} {us:List Value} {ds:List Cell},RdD M w vs cs->RdD M w us ds->RdD M w (vs++us) (cs++ds)
 | [],[],_,_,_,h=>h
 | _::_,_::_,_,_,h,h'=>⟨h.1,h.2.append h'⟩
theorem RdL.ones {M:Nat->Nat->Prop} {w:World} {τ:Nat->TV}:∀{vs:List Value} {cs:List Cell},RdL M w τ vs cs->∀ v∈vs,v.oneCell'=true
 | [],[],_,v,hv=>by simp at hv
 | u::vs,_::_,h,v,hv=>by
  rcases List.mem_cons.1 hv with rfl | hv
  . exact h.1.one
  . exact h.2.ones v hv
def Cell.bare:Cell->Cell
 | .tok _ c=>c
 | c=>c
theorem RdT.bare {M:Nat->Nat->Prop} {w:World} {τ:Nat->TV} {v:Value} {c:Cell} (h:RdT M w τ v c):RdC M w v c.bare:=by
 cases c<;>first | exact h | exact h.2
def zcr:List Cell->List Cell
 | []=>[]
 | c::cs=>c.bare::zcr cs
theorem RdL.bare {M:Nat->Nat->Prop} {w:World} {τ:Nat->TV}:∀{vs:List Value} {cs:List Cell},RdL M w τ vs cs->RdD M w vs (zcr cs)
 | [],[],_=>trivial
 | _::_,_::_,h=>⟨h.1.bare,h.2.bare⟩
inductive AV where
 | undef
 | any
 | one (c:Cell)
 | agg (cs:List Cell)
 | tup (l:List AV)
 | box (cs:List Cell)
 | ptr (s off:Nat)
 | obx (cs:List Cell)
 | elt (cs:List Cell)
 | arr (pre:List Value) (c:Cell) (post:Option (List Value))
 | asl (s:Nat)
 | awn (s m lo n:Nat)
 | pel (s m i f:Nat)
def gt (I:List AV) (i:Nat):AV:=(I[i]?).getD .any
def blk:Value->Nat
 | .pointer (some a)=>a.block
 | .slice (some a) _ _=>a.block
 | _=>0
def offV:Value->Nat
 | .pointer (some a)=>a.off
 | .slice (some a) _ _=>a.off
 | _=>0
def capV:Value->Nat
 | .slice _ _ c=>c
 | _=>0
def Cell.cnt:Cell->Nat
 | .ints _ l=>l.length
 | .sl _ rows=>rows.length
 | _=>0
def Cell.flat:Cell->List Cell
 | .ints k l=>l.map fun n=>.raw (.int k n)
 | .sl _ rows=>rows.flatten
 | _=>[]
def Cell.uni:Cell->Prop
 | .ints _ _=>True
 | .sl n rows=>∀ r∈rows,r.length=n
 | _=>False
def RdA (M:Nat->Nat->Prop) (w:World) (τ:Nat->TV) (v:Value):AV->Prop
 | .any=>True
 | .undef=>v=Go.undef
 | .one c=>RdT M w τ v c
 | .agg cs=>∃ vs:List Value,v=.agg vs.toArray/\RdL M w τ vs cs
 | _=>False
def RdB (M:Nat->Nat->Prop) (w:World) (v:Value):AV->Prop
 | .any=>True
 | .undef=>v=Go.undef
 | .one c=>RdC M w v c
 | .agg cs=>∃ vs:List Value,v=.agg vs.toArray/\RdD M w vs cs
 | .elt cs=>∃(b off:Nat) (vs:List Value),v=.pointer (some ⟨b,off,none⟩)/\(∀ j u,vs[j]? = some u->¬M b (off+j)/\w.cell? ⟨b,off+j,none⟩=some u)/\RdD M w vs cs
 | _=>False
def RdBL (M:Nat->Nat->Prop) (w:World):List Value->List AV->Prop
 | [],[]=>True
 | v::vs,c::cs=>RdB M w v c/\RdBL M w vs cs
 | _,_=>False
def vi6 (M:Nat->Nat->Prop) (w:World) (τ:Nat->TV) (tm:Array Value) (v:Value):AV->Prop
 | .tup l=>∃ vs:List Value,v=.tuple vs.toArray/\RdBL M w vs l
 | .box cs=>∃(b:Nat) (vs:List Value) (T:TypeId),v=.pointer (some ⟨b,0,none⟩)/\w.heap[b]? = some (.cells vs.toArray T (0,0))/\RdL M w τ vs cs
 | .ptr s off=>v=.pointer (some ⟨blk (tm.getD s Go.undef),off,none⟩)
 | .elt cs=>∃(b off:Nat) (vs:List Value),v=.pointer (some ⟨b,off,none⟩)/\(∀ j u,vs[j]? = some u->¬M b (off+j)/\w.cell? ⟨b,off+j,none⟩=some u)/\RdD M w vs cs
 | .obx cs=>∃(b:Nat) (vs:List Value) (T:TypeId),v=.pointer (some ⟨b,0,none⟩)/\w.heap[b]? = some (.cells vs.toArray T (0,0))/\RdL M w τ vs cs
 | .arr pre c post=>∃(b:Nat) (T:TypeId) (vs q:List Value) (cap:Nat),v=.slice (some ⟨b,pre.length,none⟩) c.cnt cap/\w.heap[b]? = some (.cells (pre++(vs++q)).toArray T (0,0))/\RdD M w vs c.flat/\
  (∀ p,post=some p->q=p)/\c.uni/\c.cnt<=cap/\cap*c.esz<=vs.length+q.length
 | .asl s=>v=tm.getD s Go.undef
 | .awn s m lo n=>∃ ad cap,v=.slice ad n cap/\(cap≠0\/lo=0->ad=some ⟨blk (tm.getD s Go.undef),offV (tm.getD s Go.undef)+lo*m,none⟩)/\n<=cap/\lo+cap<=capV (tm.getD s Go.undef)
 | .pel s m i f=>v=.pointer (some ⟨blk (tm.getD s Go.undef),offV (tm.getD s Go.undef)+i*m+f,none⟩)
 | av=>RdA M w τ v av
def AV.vy8:AV->Bool
 | .box _ | .obx _ | .arr _ _ _=>true
 | _=>false
def AV.yk7:AV->Bool
 | .box _ | .obx _=>true
 | _=>false
def AV.vfv:AV->Bool
 | .arr _ _ _=>true
 | _=>false
def AV.fresh:AV->Bool
 | .box _=>true
 | .arr _ _ none=>true
 | _=>false
def AV.rf:AV->Option (Nat×Bool)
 | .ptr s _=>some (s,true)
 | .asl s | .awn s _ _ _ | .pel s _ _ _=>some (s,false)
 | _=>none
def AV.fits (b:Bool) (av:AV):Bool:=if b then av.yk7 else av.vfv
def AV.vjg (d:Nat):AV->Prop
 | .one c=>c.vjg d
 | .agg cs | .box cs | .obx cs=>vxx d cs
 | _=>False
theorem RdA.keep {M M':Nat->Nat->Prop} {w w':World} {τ τ':Nat->TV} (hk:ya3 M M' w w') {v:Value} {av:AV} (ht:∀ d,av.vjg d->τ' d=τ d)
 (h:RdA M w τ v av):RdA M' w' τ' v av:=by
 cases av with
 | one c=>exact RdT.keep hk ht h
 | agg cs=>obtain ⟨vs,rfl,h⟩:=h;exact ⟨vs,rfl,h.keep hk ht⟩
 | _=>exact h
theorem RdB.keep {M M':Nat->Nat->Prop} {w w':World} (hk:ya3 M M' w w') {v:Value} {av:AV} (h:RdB M w v av):RdB M' w' v av:=by
 cases av with
 | one c=>exact RdC.keep hk h
 | agg cs=>obtain ⟨vs,rfl,h⟩:=h;exact ⟨vs,rfl,h.keep hk⟩
 | elt cs=>obtain ⟨b,off,vs,rfl,hc,h⟩:=h;exact ⟨b,off,vs,rfl,fun j u hj=>hk _ _ _ (hc j u hj).1 (hc j u hj).2,h.keep hk⟩
 | _=>exact h
theorem RdBL.keep {M M':Nat->Nat->Prop} {w w':World} (hk:ya3 M M' w w'):∀{vs:List Value} {l:List AV},RdBL M w vs l->RdBL M' w' vs l
 | [],[],_=>trivial
 | _::_,_::_,h=>⟨h.1.keep hk,h.2.keep hk⟩
theorem RdBL.length {M:Nat->Nat->Prop} {w:World}:∀{vs:List Value} {cs:List AV},RdBL M w vs cs->vs.length=cs.length
 | [],[],_=>rfl
 | _::_,_::_,h=>by simp [h.2.length]
theorem RdBL.get {M:Nat->Nat->Prop} {w:World}:∀{vs:List Value} {cs:List AV},RdBL M w vs cs->∀(j:Nat) (c:AV),cs[j]? = some c->∃ v,vs[j]? = some v/\RdB M w v c
 | [],[],_,j,c,hc=>by simp at hc
 | v::vs,c'::cs,h,0,c,hc=>by simp at hc;subst hc;exact ⟨v,by simp,h.1⟩
 | v::vs,c'::cs,h,j+1,c,hc=>by simpa using h.2.get j c (by simpa using hc)
structure Env where
 w0:World
 M:Nat->Nat->Prop
 X:Nat->Prop
 args:Array Value
 hM:∀ b o,M b o->b<w0.heap.size
abbrev Env.N (E:Env):Nat:=E.w0.heap.size
def tokB:Value->Option Nat
 | .slice (some a) _ (_+1)=>some a.block
 | _=>none
def xec (E:Env) (M:Nat->Nat->Prop) (w:World) (t:TV):Prop:=
 (∃ a,t.v=.slice a 0 0)\/
 ∃(e n:Nat) (xs:List Value),w.ownsRow E.N e t.sz t.v n xs/\∀ g,t.v.ownBlock=some g->∀ o,n*t.sz<=o->M g o
def live (I:List AV) (d:Nat):Prop:=∃(i:Nat) (av:AV),I[i]? = some av/\av.vjg d
structure RelI (E:Env) (τ:Nat->TV) (M:Nat->Nat->Prop) (I:List AV) (a:Act) (w:World):Prop where
 hd:a.defers=[]
 hs:a.tmps.size=I.length
 slot:∀(i:Nat) (av:AV),I[i]? = some av->vi6 M w τ a.tmps (a.tmps.getD i Go.undef) av
 m0:∀ b o,E.M b o->M b o
 mb:∀ b o,M b o->b<w.heap.size
 hold:∀(i:Nat) (av:AV),I[i]? = some av->av.vy8=true->(∀ o,M (blk (a.tmps.getD i Go.undef)) o)/\(E.N<=blk (a.tmps.getD i Go.undef)\/E.X (blk (a.tmps.getD i Go.undef)))/\(av.fresh=true->E.N<=blk (a.tmps.getD i Go.undef))/\
  (av.fresh=false->a.tmps.getD i Go.undef=E.args.getD i Go.undef)
 inj:∀(i j:Nat) (avi avj:AV),I[i]? = some avi->I[j]? = some avj->avi.vy8=true->avj.vy8=true->blk (a.tmps.getD i Go.undef)=blk (a.tmps.getD j Go.undef)->i=j
 refs:∀(i:Nat) (av:AV) (s:Nat) (b:Bool),I[i]? = some av->av.rf=some (s,b)->∃ hv:AV,I[s]? = some hv/\hv.fits b=true
 toks:∀ d:Nat,live I d->xec E M w (τ d)
 tinj:∀(d d' g:Nat),live I d->live I d'->d≠d'->tokB (τ d).v=some g->tokB (τ d').v≠some g
 tbox:∀(d i:Nat) (av:AV),live I d->I[i]? = some av->av.vy8=true->tokB (τ d).v≠some (blk (a.tmps.getD i Go.undef))
 size:E.N<=w.heap.size
 os:w.os=E.w0.os
 tape:w.tape=E.w0.tape
 output:w.output=E.w0.output
 frame:∀ k,k<E.N->¬E.X k->w.heap[k]? = E.w0.heap[k]?
def Rel (E:Env) (I:List AV) (a:Act) (w:World):Prop:=∃ τ M,RelI E τ M I a w
theorem AV.wht {b:Bool} {av:AV} (h:av.fits b=true):av.vy8=true:=by
 cases b<;>cases av<;>simp_all [AV.fits,AV.yk7,AV.vfv,AV.vy8]
variable {E:Env} {τ:Nat->TV} {M:Nat->Nat->Prop} {I:List AV} {a:Act}
theorem RelI.lt (h:RelI E τ M I a w) {av:AV} (hi:I[i]? = some av):i<a.tmps.size:=by
 have:=(List.getElem?_eq_some_iff.1 hi).1
 rw [h.hs];exact this
theorem ya3.below (h:Below w.heap.size w w'):ya3 M M w w':=fun b o u hm hc=>by
 refine ⟨hm,?_⟩;rw [h.cell (p:=⟨b,o,none⟩) (World.block_lt_of_cell? w _ hc)];exact hc
theorem getD_set_ne {d s:Nat} (h:d≠s) (v:Value):(tm.setIfInBounds d v).getD s Go.undef=tm.getD s Go.undef:=by
 simp [h]
theorem vi6.keep {M M':Nat->Nat->Prop} {w w':World} {τ τ':Nat->TV} {tm tm':Array Value} (hk:ya3 M M' w w') {v:Value} {av:AV} (ht:∀ d,av.vjg d->τ' d=τ d)
 (hr:∀ s b,av.rf=some (s,b)->tm'.getD s Go.undef=tm.getD s Go.undef)
 (hh:av.vy8=true->w'.heap[blk v]? = w.heap[blk v]?)
 (h:vi6 M w τ tm v av):vi6 M' w' τ' tm' v av:=by
 cases av with
 | tup l=>obtain ⟨vs,rfl,h⟩:=h;exact ⟨vs,rfl,h.keep hk⟩
 | box cs=>
  obtain ⟨b,vs,T,rfl,hb,h⟩:=h;exact ⟨b,vs,T,rfl,(hh rfl).trans hb,h.keep hk (fun d hd=>ht d (by simpa only [AV.vjg] using hd))⟩
 | ptr s off=>show _=_;rw [hr s _ rfl];exact h
 | elt cs=>
  obtain ⟨b,off,vs,rfl,hc,h⟩:=h;exact ⟨b,off,vs,rfl,fun j u hu=>hk _ _ _ (hc j u hu).1 (hc j u hu).2,h.keep hk⟩
 | obx cs=>obtain ⟨b,vs,T,rfl,hb,h⟩:=h;exact ⟨b,vs,T,rfl,(hh rfl).trans hb,h.keep hk ht⟩
 | arr pre c post=>obtain ⟨b,T,vs,q,cap,rfl,hb,h,hrest⟩:=h;exact ⟨b,T,vs,q,cap,rfl,(hh rfl).trans hb,h.keep hk,hrest⟩
 | asl s=>show _=_;rw [hr s _ rfl];exact h
 | awn s m lo n=>show ∃ _ _,_;rw [hr s _ rfl];exact h
 | pel s m i f=>show _=_;rw [hr s _ rfl];exact h
 | one c=>exact RdA.keep (av:=.one c) hk ht h
 | agg cs=>exact RdA.keep (av:=.agg cs) hk ht h
 | undef=>exact h
 | any=>exact h
theorem vi6.xeq {τ:Nat->TV} {v:Value} {av:AV} (h:vi6 M w τ tm v av) (hh:av.vy8=true):blk v<w.heap.size:=by
 cases av with
 | box cs=>obtain ⟨b,vs,T,rfl,hb,h⟩:=h;exact (Array.getElem?_eq_some_iff.1 hb).1
 | obx cs=>obtain ⟨b,vs,T,rfl,hb,h⟩:=h;exact (Array.getElem?_eq_some_iff.1 hb).1
 | arr pre c post=>obtain ⟨b,T,vs,q,cap,rfl,hb,_⟩:=h;exact (Array.getElem?_eq_some_iff.1 hb).1
 | _=>cases hh
theorem xec.below {E:Env} {v:TV} (hb:Below w.heap.size w w') (h:xec E M w v):xec E M w' v:=by
 rcases h with h | ⟨e,n,xs,ho,hm⟩
 . exact .inl h
 . refine .inr ⟨e,n,xs,⟨ho.1,?_⟩,hm⟩
   rcases ho.2 with h | ⟨g,cap,cur,hv,hg,hh,r⟩
   . exact .inl h
   . exact .inr ⟨g,cap,cur,hv,hg,(hb.block g (Array.getElem?_eq_some_iff.1 hh).1).trans hh,r⟩
theorem RelI.below {w w':World} (h:RelI E τ M I a w) (hb:Below w.heap.size w w'):RelI E τ M I a w' where
 hd:=h.hd
 hs:=h.hs
 slot:=fun i av hi=>(h.slot i av hi).keep (ya3.below hb) (fun _ _=>rfl) (fun _ _ _=>rfl) (fun hh=>hb.block _ ((h.slot i av hi).xeq hh))
 m0:=h.m0
 mb:=fun b o hm=>Nat.lt_of_lt_of_le (h.mb b o hm) hb.size
 hold:=h.hold
 inj:=h.inj
 refs:=h.refs
 toks:=fun d hd=>(h.toks d hd).below hb
 tinj:=h.tinj
 tbox:=h.tbox
 size:=Nat.le_trans h.size hb.size
 os:=hb.os.trans h.os
 tape:=hb.tape.trans h.tape
 output:=hb.output.trans h.output
 frame:=fun k hk hx=>(hb.block k (Nat.lt_of_lt_of_le hk h.size)).trans (h.frame k hk hx)
theorem Rel.below {w w':World} (h:Rel E I a w) (hb:Below w.heap.size w w'):Rel E I a w':=let ⟨τ,M,h⟩:=h;⟨τ,M,h.below hb⟩
theorem getElem?_set_cases {α:Type} {l:List α} {d:Nat} {x y:α} (h:(l.set d x)[i]? = some y):(i=d/\y=x)\/(i≠d/\l[i]? = some y):=by
 rw [List.getElem?_set] at h;split at h
 . rename_i hdi;split at h
   . simp at h;exact .inl ⟨hdi.symm,h.symm⟩
   . simp at h
 . rename_i hdi;exact .inr ⟨fun e=>hdi e.symm,h⟩
theorem RelI.put {w:World} (h:RelI E τ M I a w) {d:Nat} {old:AV} (hd:I[d]? = some old) (hnh:old.vy8=false) (v:Value) (av:AV) (hav:av.vy8=false)
 (hok:vi6 M w τ a.tmps v av) (hrf:∀(s:Nat) (b:Bool),av.rf=some (s,b)->∃ hv:AV,I[s]? = some hv/\hv.fits b=true) (htok:∀ t,av.vjg t->live I t) :
 RelI E τ M (I.set d av) (a.put (some d) v) w:=by
 have hlt:d<a.tmps.size:=h.lt hd
 have hns:∀(s:Nat) (b:Bool) (hv:AV),I[s]? = some hv->hv.fits b=true->d≠s:=fun s b hv hs hf e=>by
  subst e;rw [hd] at hs;cases hs;have:=AV.wht hf;rw [hnh] at this;cases this
 have hself:(a.tmps.setIfInBounds d v).getD d Go.undef=v:=by simp [hlt]
 have hlive:∀ t,live (I.set d av) t->live I t:=fun t ⟨i,x,hi,hx⟩=>by
  rcases getElem?_set_cases hi with ⟨_,rfl⟩ | ⟨_,hi⟩
  . exact htok t hx
  . exact ⟨i,x,hi,hx⟩
 refine RelI.mk h.hd (by simpa [Act.put] using h.hs) ?_ h.m0 h.mb ?_ ?_ ?_ ?_ ?_ ?_ h.size h.os h.tape h.output h.frame
 . intro i x hi;show vi6 M w τ (a.tmps.setIfInBounds d v) ((a.tmps.setIfInBounds d v).getD i Go.undef) x
   rcases getElem?_set_cases hi with ⟨rfl,rfl⟩ | ⟨hne,hi⟩
   . rw [hself];exact hok.keep (fun _ _ _ h1 h2=>⟨h1,h2⟩) (fun _ _=>rfl) (fun s b hr=>by obtain ⟨hv,h1,h2⟩:=hrf s b hr;exact getD_set_ne (hns s b hv h1 h2) v) (fun _=>rfl)
   . rw [getD_set_ne (Ne.symm hne)];exact (h.slot i x hi).keep (fun _ _ _ h1 h2=>⟨h1,h2⟩) (fun _ _=>rfl) (fun s b hr=>by obtain ⟨hv,h1,h2⟩:=h.refs i x s b hi hr;exact getD_set_ne (hns s b hv h1 h2) v) (fun _=>rfl)
 . intro i x hi hh;show (∀ o,M (blk ((a.tmps.setIfInBounds d v).getD i Go.undef)) o)/\(_<=blk ((a.tmps.setIfInBounds d v).getD i Go.undef)\/E.X (blk ((a.tmps.setIfInBounds d v).getD i Go.undef)))/\(_->_<=blk ((a.tmps.setIfInBounds d v).getD i Go.undef))/\(_->(a.tmps.setIfInBounds d v).getD i Go.undef=_)
   rcases getElem?_set_cases hi with ⟨rfl,rfl⟩ | ⟨hne,hi⟩
   . rw [hav] at hh;cases hh
   . rw [getD_set_ne (Ne.symm hne)];exact h.hold i x hi hh
 . intro i j x y hi hj hx hy;show blk ((a.tmps.setIfInBounds d v).getD i Go.undef)=blk ((a.tmps.setIfInBounds d v).getD j Go.undef)->_
   rcases getElem?_set_cases hi with ⟨rfl,rfl⟩ | ⟨hne,hi⟩
   . rw [hav] at hx;cases hx
   . rcases getElem?_set_cases hj with ⟨rfl,rfl⟩ | ⟨hne',hj⟩
     . rw [hav] at hy;cases hy
     . rw [getD_set_ne (Ne.symm hne),getD_set_ne (Ne.symm hne')];exact h.inj i j x y hi hj hx hy
 . intro i x s b hi hr
   have:∃ hv:AV,I[s]? = some hv/\hv.fits b=true:=by
    rcases getElem?_set_cases hi with ⟨rfl,rfl⟩ | ⟨hne,hi⟩
    . exact hrf s b hr
    . exact h.refs i x s b hi hr
   obtain ⟨hv,h1,h2⟩:=this;exact ⟨hv,by rw [List.getElem?_set_ne (hns s b hv h1 h2)];exact h1,h2⟩
 . exact fun t ht=>h.toks t (hlive t ht)
 . exact fun t t' g ht ht'=>h.tinj t t' g (hlive t ht) (hlive t' ht')
 . intro t i x ht hi hx;show _≠some (blk ((a.tmps.setIfInBounds d v).getD i Go.undef))
   rcases getElem?_set_cases hi with ⟨rfl,rfl⟩ | ⟨hne,hi⟩
   . rw [hav] at hx;cases hx
   . rw [getD_set_ne (Ne.symm hne)];exact h.tbox t i x (hlive t ht) hi hx
theorem w8u {E:Env} {v:TV} {g:Nat} (h:xec E M w v) (hg:tokB v.v=some g):E.N<=g/\g<w.heap.size:=by
 rcases h with ⟨a,ha⟩ | ⟨e,n,xs,ho,_⟩
 . rw [ha] at hg;cases a<;>simp [tokB] at hg
 . refine ho.lt g ?_;unfold tokB at hg;split at hg
   . rename_i hv;simp at hg;simp [Value.ownBlock,hg,hv]
   . cases hg
theorem ya3.alloc {M:Nat->Nat->Prop} (w:World) (o:Obj):ya3 M (fun b o=>M b o\/b=w.heap.size) w (w.alloc o):=fun b o' u hm hc=>by
 have hl:=World.block_lt_of_cell? w _ hc;exact ⟨fun hh=>hh.elim hm (fun e=>by simp only at hl;omega),(ya3.below ((Below.refl _ _).alloc (Nat.le_refl _) o) b o' u hm hc).2⟩
theorem RelI.alloc {w:World} (h:RelI E τ M I a w) {d:Nat} {old:AV} (hd:I[d]? = some old) (hnh:old.vy8=false) (o:Obj) (v:Value) (av:AV) (hav:av.vy8=true) (hfrs:av.fresh=true)
 (hv:blk v=w.heap.size)
 (hok:vi6 (fun b o=>M b o\/b=w.heap.size) (w.alloc o) τ a.tmps v av) (htok:∀ t,av.vjg t->live I t) :
 RelI E τ (fun b o=>M b o\/b=w.heap.size) (I.set d av) (a.put (some d) v) (w.alloc o):=by
 have hlt:d<a.tmps.size:=h.lt hd
 have hns:∀(s:Nat) (b:Bool) (hv:AV),I[s]? = some hv->hv.fits b=true->d≠s:=fun s b hv hs hf e=>by
  subst e;rw [hd] at hs;cases hs;have:=AV.wht hf;rw [hnh] at this;cases this
 have hself:(a.tmps.setIfInBounds d v).getD d Go.undef=v:=by simp [hlt]
 have hlive:∀ t,live (I.set d av) t->live I t:=fun t ⟨i,x,hi,hx⟩=>by
  rcases getElem?_set_cases hi with ⟨_,rfl⟩ | ⟨_,hi⟩
  . exact htok t hx
  . exact ⟨i,x,hi,hx⟩
 have hb:Below w.heap.size w (w.alloc o):=(Below.refl _ _).alloc (Nat.le_refl _) o;have hk:=ya3.alloc (M:=M) w o
 have hmb:∀ b o',(M b o'\/b=w.heap.size)->b<(w.alloc o).heap.size:=by
  rintro b o' (hm | rfl)
  . exact Nat.lt_of_lt_of_le (h.mb b o' hm) hb.size
  . simp
 refine RelI.mk h.hd (by simpa [Act.put] using h.hs) ?_ (fun b o hm=>.inl (h.m0 b o hm)) hmb ?_ ?_ ?_ ?_ ?_ ?_ (Nat.le_trans h.size hb.size) h.os h.tape h.output
  (fun k hk hx=>(hb.block k (Nat.lt_of_lt_of_le hk h.size)).trans (h.frame k hk hx))
 . intro i x hi;show vi6 _ (w.alloc o) τ (a.tmps.setIfInBounds d v) ((a.tmps.setIfInBounds d v).getD i Go.undef) x
   rcases getElem?_set_cases hi with ⟨rfl,rfl⟩ | ⟨hne,hi⟩
   . rw [hself];exact hok.keep (fun _ _ _ h1 h2=>⟨h1,h2⟩) (fun _ _=>rfl) (fun s b hr=>by cases x<;>simp [AV.rf,AV.vy8] at hr hav) (fun _=>rfl)
   . rw [getD_set_ne (Ne.symm hne)];exact (h.slot i x hi).keep hk (fun _ _=>rfl) (fun s b hr=>by obtain ⟨hv,h1,h2⟩:=h.refs i x s b hi hr;exact getD_set_ne (hns s b hv h1 h2) v) (fun hh=>hb.block _ ((h.slot i x hi).xeq hh))
 . intro i x hi hh;show (∀ o',M (blk ((a.tmps.setIfInBounds d v).getD i Go.undef)) o'\/blk ((a.tmps.setIfInBounds d v).getD i Go.undef)=_)/\(_<=blk ((a.tmps.setIfInBounds d v).getD i Go.undef)\/E.X (blk ((a.tmps.setIfInBounds d v).getD i Go.undef)))/\(_->_<=blk ((a.tmps.setIfInBounds d v).getD i Go.undef))/\(_->(a.tmps.setIfInBounds d v).getD i Go.undef=_)
   rcases getElem?_set_cases hi with ⟨rfl,rfl⟩ | ⟨hne,hi⟩
   . rw [hself];exact ⟨fun _=>.inr hv,.inl (by rw [hv];exact h.size),fun _=>by rw [hv];exact h.size,fun e=>by rw [hfrs] at e;cases e⟩
   . rw [getD_set_ne (Ne.symm hne)];exact ⟨fun o=>.inl ((h.hold i x hi hh).1 o),(h.hold i x hi hh).2⟩
 . intro i j x y hi hj hx hy;show blk ((a.tmps.setIfInBounds d v).getD i Go.undef)=blk ((a.tmps.setIfInBounds d v).getD j Go.undef)->_
   rcases getElem?_set_cases hi with ⟨rfl,rfl⟩ | ⟨hne,hi'⟩
   . rcases getElem?_set_cases hj with ⟨rfl,rfl⟩ | ⟨hne',hj⟩
     . exact fun _=>rfl
     . rw [hself,getD_set_ne (Ne.symm hne'),hv];intro e
       have:=(h.slot j y hj).xeq hy
       omega
   . rcases getElem?_set_cases hj with ⟨rfl,rfl⟩ | ⟨hne',hj⟩
     . rw [hself,getD_set_ne (Ne.symm hne),hv];intro e
       have:=(h.slot i x hi').xeq hx
       omega
     . rw [getD_set_ne (Ne.symm hne),getD_set_ne (Ne.symm hne')];exact h.inj i j x y hi' hj hx hy
 . intro i x s b hi hr
   have:∃ hv:AV,I[s]? = some hv/\hv.fits b=true:=by
    rcases getElem?_set_cases hi with ⟨rfl,rfl⟩ | ⟨hne,hi⟩
    . cases x<;>simp [AV.rf,AV.vy8] at hr hav
    . exact h.refs i x s b hi hr
   obtain ⟨hv,h1,h2⟩:=this;exact ⟨hv,by rw [List.getElem?_set_ne (hns s b hv h1 h2)];exact h1,h2⟩
 . intro t ht
   rcases (h.toks t (hlive t ht)).below hb with h' | ⟨e,n,xs,ho,hm⟩
   . exact .inl h'
   . exact .inr ⟨e,n,xs,ho,fun g hg o ho=>.inl (hm g hg o ho)⟩
 . exact fun t t' g ht ht'=>h.tinj t t' g (hlive t ht) (hlive t' ht')
 . intro t i x ht hi hx;show _≠some (blk ((a.tmps.setIfInBounds d v).getD i Go.undef))
   rcases getElem?_set_cases hi with ⟨rfl,rfl⟩ | ⟨hne,hi⟩
   . rw [hself,hv];intro e
     have:=(w8u (h.toks t (hlive t ht)) e).2
     omega
   . rw [getD_set_ne (Ne.symm hne)];exact h.tbox t i x (hlive t ht) hi hx
theorem RelI.yja (h:RelI E τ M I a w) (hb:Below w.heap.size w w') {d:Nat} {old:AV} (hd:I[d]? = some old) (hnh:old.vy8=false) (v:Value) (av:AV) (hav:av.vy8=true) (hfrs:av.fresh=true)
 (hv:w.heap.size<=blk v) (hvl:blk v<w'.heap.size)
 (hok:vi6 (fun b o=>M b o\/b=blk v) w' τ a.tmps v av) (htok:∀ t,av.vjg t->live I t) :
 RelI E τ (fun b o=>M b o\/b=blk v) (I.set d av) (a.put (some d) v) w':=by
 have hlt:d<a.tmps.size:=h.lt hd
 have hns:∀(s:Nat) (b:Bool) (hv:AV),I[s]? = some hv->hv.fits b=true->d≠s:=fun s b hv hs hf e=>by
  subst e;rw [hd] at hs;cases hs;have:=AV.wht hf;rw [hnh] at this;cases this
 have hself:(a.tmps.setIfInBounds d v).getD d Go.undef=v:=by simp [hlt]
 have hlive:∀ t,live (I.set d av) t->live I t:=fun t ⟨i,x,hi,hx⟩=>by
  rcases getElem?_set_cases hi with ⟨_,rfl⟩ | ⟨_,hi⟩
  . exact htok t hx
  . exact ⟨i,x,hi,hx⟩
 have hk:ya3 M (fun b o=>M b o\/b=blk v) w w':=fun b o' u hm hc=>by
  have hl:=World.block_lt_of_cell? w _ hc;exact ⟨fun hh=>hh.elim hm (fun e=>by simp only at hl;omega),(ya3.below hb b o' u hm hc).2⟩
 have hmb:∀ b o',(M b o'\/b=blk v)->b<w'.heap.size:=by
  rintro b o' (hm | rfl)
  . exact Nat.lt_of_lt_of_le (h.mb b o' hm) hb.size
  . exact hvl
 refine RelI.mk h.hd (by simpa [Act.put] using h.hs) ?_ (fun b o hm=>.inl (h.m0 b o hm)) hmb ?_ ?_ ?_ ?_ ?_ ?_ (Nat.le_trans h.size hb.size) (hb.os.trans h.os) (hb.tape.trans h.tape) (hb.output.trans h.output)
  (fun k hk hx=>(hb.block k (Nat.lt_of_lt_of_le hk h.size)).trans (h.frame k hk hx))
 . intro i x hi;show vi6 _ w' τ (a.tmps.setIfInBounds d v) ((a.tmps.setIfInBounds d v).getD i Go.undef) x
   rcases getElem?_set_cases hi with ⟨rfl,rfl⟩ | ⟨hne,hi⟩
   . rw [hself];exact hok.keep (fun _ _ _ h1 h2=>⟨h1,h2⟩) (fun _ _=>rfl) (fun s b hr=>by cases x<;>simp [AV.rf,AV.vy8] at hr hav) (fun _=>rfl)
   . rw [getD_set_ne (Ne.symm hne)];exact (h.slot i x hi).keep hk (fun _ _=>rfl) (fun s b hr=>by obtain ⟨hv,h1,h2⟩:=h.refs i x s b hi hr;exact getD_set_ne (hns s b hv h1 h2) v) (fun hh=>hb.block _ ((h.slot i x hi).xeq hh))
 . intro i x hi hh;show (∀ o',M (blk ((a.tmps.setIfInBounds d v).getD i Go.undef)) o'\/blk ((a.tmps.setIfInBounds d v).getD i Go.undef)=_)/\(_<=blk ((a.tmps.setIfInBounds d v).getD i Go.undef)\/E.X (blk ((a.tmps.setIfInBounds d v).getD i Go.undef)))/\(_->_<=blk ((a.tmps.setIfInBounds d v).getD i Go.undef))/\(_->(a.tmps.setIfInBounds d v).getD i Go.undef=_)
   rcases getElem?_set_cases hi with ⟨rfl,rfl⟩ | ⟨hne,hi⟩
   . rw [hself];exact ⟨fun _=>.inr rfl,.inl (Nat.le_trans h.size hv),fun _=>Nat.le_trans h.size hv,fun e=>by rw [hfrs] at e;cases e⟩
   . rw [getD_set_ne (Ne.symm hne)];exact ⟨fun o=>.inl ((h.hold i x hi hh).1 o),(h.hold i x hi hh).2⟩
 . intro i j x y hi hj hx hy;show blk ((a.tmps.setIfInBounds d v).getD i Go.undef)=blk ((a.tmps.setIfInBounds d v).getD j Go.undef)->_
   rcases getElem?_set_cases hi with ⟨rfl,rfl⟩ | ⟨hne,hi'⟩
   . rcases getElem?_set_cases hj with ⟨rfl,rfl⟩ | ⟨hne',hj⟩
     . exact fun _=>rfl
     . rw [hself,getD_set_ne (Ne.symm hne')];intro e
       have:=(h.slot j y hj).xeq hy
       omega
   . rcases getElem?_set_cases hj with ⟨rfl,rfl⟩ | ⟨hne',hj⟩
     . rw [hself,getD_set_ne (Ne.symm hne)];intro e
       have:=(h.slot i x hi').xeq hx
       omega
     . rw [getD_set_ne (Ne.symm hne),getD_set_ne (Ne.symm hne')];exact h.inj i j x y hi' hj hx hy
 . intro i x s b hi hr
   have:∃ hv:AV,I[s]? = some hv/\hv.fits b=true:=by
    rcases getElem?_set_cases hi with ⟨rfl,rfl⟩ | ⟨hne,hi⟩
    . cases x<;>simp [AV.rf,AV.vy8] at hr hav
    . exact h.refs i x s b hi hr
   obtain ⟨hv,h1,h2⟩:=this;exact ⟨hv,by rw [List.getElem?_set_ne (hns s b hv h1 h2)];exact h1,h2⟩
 . intro t ht
   rcases (h.toks t (hlive t ht)).below hb with h' | ⟨e,n,xs,ho,hm⟩
   . exact .inl h'
   . exact .inr ⟨e,n,xs,ho,fun g hg o ho=>.inl (hm g hg o ho)⟩
 . exact fun t t' g ht ht'=>h.tinj t t' g (hlive t ht) (hlive t' ht')
 . intro t i x ht hi hx;show _≠some (blk ((a.tmps.setIfInBounds d v).getD i Go.undef))
   rcases getElem?_set_cases hi with ⟨rfl,rfl⟩ | ⟨hne,hi⟩
   . rw [hself];intro e
     have:=(w8u (h.toks t (hlive t ht)) e).2
     omega
   . rw [getD_set_ne (Ne.symm hne)];exact h.tbox t i x (hlive t ht) hi hx
end Go.Slot
namespace Go.Slot
open Go Go.RowKit
variable {E:Env} {τ:Nat->TV} {M:Nat->Nat->Prop} {I:List AV} {a:Act}
variable {w:World} {ad:Option Addr}
theorem RelI.rewrite (h:RelI E τ M I a w) {s:Nat} {old new:AV} (hs:I[s]? = some old) (ho:old.vy8=true) (hn:new.vy8=true) (hf:∀ b,old.fits b=true->new.fits b=true) (hfr:new.fresh=old.fresh)
 (cur':Array Value) (hok:∀ vs T,w.heap[blk (a.tmps.getD s Go.undef)]? = some (.cells vs T (0,0))->vi6 M (w.setRow (blk (a.tmps.getD s Go.undef)) cur') τ a.tmps (a.tmps.getD s Go.undef) new)
 (htok:∀ t,new.vjg t->live I t):RelI E τ M (I.set s new) a (w.setRow (blk (a.tmps.getD s Go.undef)) cur'):=by
 generalize hb:blk (a.tmps.getD s Go.undef)=b at *;have hM:∀ o,M b o:=hb▸(h.hold s old hs ho).1
 have hcells:∃ vs T,w.heap[b]? = some (.cells vs T (0,0)):=by
  have hsl:=h.slot s old hs
  cases old with
  | box cs=>obtain ⟨b',vs,T,e,hh,_⟩:=hsl;rw [e] at hb;exact ⟨_,T,by rw [<-hb];exact hh⟩
  | obx cs=>obtain ⟨b',vs,T,e,hh,_⟩:=hsl;rw [e] at hb;exact ⟨_,T,by rw [<-hb];exact hh⟩
  | arr pre c post=>obtain ⟨b',T,vs,q,cap,e,hh,_⟩:=hsl;rw [e] at hb;exact ⟨_,T,by rw [<-hb];exact hh⟩
  | _=>cases ho
 obtain ⟨vs0,T0,hheap⟩:=hcells
 have hk:ya3 M M w (w.setRow b cur'):=fun b' o u hm hc=>⟨hm,by
  rw [cell_setRow_other]
  . exact hc
  . exact fun e=>hm (by rw [show b'=b from e];exact hM o)⟩
 have hlive:∀ t,live (I.set s new) t->live I t:=fun t ⟨i,x,hi,hx⟩=>by
  rcases getElem?_set_cases hi with ⟨_,rfl⟩ | ⟨_,hi⟩
  . exact htok t hx
  . exact ⟨i,x,hi,hx⟩
 refine RelI.mk h.hd (by simpa using h.hs) ?_ h.m0 (fun b o hm=>by rw [setRow_size];exact h.mb b o hm) ?_ ?_ ?_ ?_ ?_ ?_ (by rw [setRow_size];exact h.size) h.os h.tape h.output ?_
 . intro i x hi
   rcases getElem?_set_cases hi with ⟨rfl,rfl⟩ | ⟨hne,hi⟩
   . exact hok vs0 T0 hheap
   . refine (h.slot i x hi).keep hk (fun _ _=>rfl) (fun _ _ _=>rfl) (fun hh=>setRow_other w b _ cur' ?_)
     exact fun e=>hne (h.inj i s x old hi hs hh ho (e.trans hb.symm))
 . intro i x hi hh
   rcases getElem?_set_cases hi with ⟨rfl,rfl⟩ | ⟨hne,hi⟩
   . exact hfr▸h.hold i old hs ho
   . exact h.hold i x hi hh
 . intro i j x y hi hj hx hy
   have key:∀(i:Nat) (x:AV),(I.set s new)[i]? = some x->x.vy8=true->∃ x':AV,I[i]? = some x'/\x'.vy8=true:=fun i x hi hx=>by
    rcases getElem?_set_cases hi with ⟨rfl,rfl⟩ | ⟨hne,hi⟩
    . exact ⟨old,hs,ho⟩
    . exact ⟨x,hi,hx⟩
   obtain ⟨x',hi',hx'⟩:=key i x hi hx;obtain ⟨y',hj',hy'⟩:=key j y hj hy;exact h.inj i j x' y' hi' hj' hx' hy'
 . intro i x s' b' hi hr
   have:∃ hv:AV,I[s']? = some hv/\hv.fits b'=true:=by
    rcases getElem?_set_cases hi with ⟨rfl,rfl⟩ | ⟨hne,hi⟩
    . cases x<;>simp [AV.rf,AV.vy8] at hr hn
    . exact h.refs i x s' b' hi hr
   obtain ⟨hv,h1,h2⟩:=this;by_cases e:s'=s
   . subst e;rw [hs] at h1;cases h1;have hl:s'<I.length:=(List.getElem?_eq_some_iff.1 hs).1;exact ⟨new,by simp [hl],hf _ h2⟩
   . exact ⟨hv,by rw [List.getElem?_set_ne (Ne.symm e)];exact h1,h2⟩
 . intro t ht
   rcases h.toks t (hlive t ht) with h' | ⟨e,n,xs,hown,hm⟩
   . exact .inl h'
   . rcases hown.2 with ⟨h1,_⟩ | ⟨g,cap,cur,hv,hg,hh,hnc,r⟩
     . exact .inl ⟨none,h1⟩
     . cases cap with
       | zero=>exact .inl ⟨some ⟨g,0,none⟩,by rw [hv];simp at hnc;rw [hnc]⟩
       | succ cap=>
        refine .inr ⟨e,n,xs,⟨hown.1,.inr ⟨g,cap+1,cur,hv,hg,?_,hnc,r⟩⟩,hm⟩;rw [setRow_other]
        . exact hh
        . rintro rfl;exact h.tbox t s old (hlive t ht) hs ho (by rw [hv,hb];rfl)
 . exact fun t t' g ht ht'=>h.tinj t t' g (hlive t ht) (hlive t' ht')
 . intro t i x ht hi hx
   rcases getElem?_set_cases hi with ⟨rfl,rfl⟩ | ⟨hne,hi⟩
   . exact h.tbox t i old (hlive t ht) hs ho
   . exact h.tbox t i x (hlive t ht) hi hx
 . intro k hk' hx;rw [setRow_other]
   . exact h.frame k hk' hx
   . rintro rfl
     rcases (h.hold s old hs ho).2.1 with h1 | h1
     . rw [hb] at h1;omega
     . rw [hb] at h1;exact hx h1
inductive Cell.Le:Cell->Cell->Prop
 | refl (c:Cell):Cell.Le c c
 | zrt (k:IntKind):Cell.Le (.raw (.slice none 0 0)) (.ints k [])
 | nilSl (n:Nat):Cell.Le (.raw (.slice none 0 0)) (.sl n [])
 | nilZc:Cell.Le (.raw (.slice none 0 0)) .zc
 | ysc (k:IntKind):Cell.Le .zc (.ints k [])
 | zcSl (n:Nat):Cell.Le .zc (.sl n [])
 | nnInts (b:Bool) (k:IntKind):Cell.Le (.nn b) (.ints k [])
 | nnSl (b:Bool) (n:Nat):Cell.Le (.nn b) (.sl n [])
 | untok (d:Nat) (c:Cell):Cell.Le (.tok d c) c
 | trans {a b c:Cell} (h:Cell.Le a b) (h':Cell.Le b c):Cell.Le a c
 | inTok (d:Nat) {c c':Cell} (h:Cell.Le c c') (he:c.esz=c'.esz):Cell.Le (.tok d c) (.tok d c')
theorem RdC.ysc (k:IntKind):RdC M w (.slice ad 0 0) (.ints k []):=
 .ints 0 0 rfl (Nat.le_refl _) (fun h=>absurd rfl h) (fun i hi=>absurd hi (Nat.not_lt_zero i))
theorem RdC.zcSl (n:Nat):RdC M w (.slice ad 0 0) (.sl n []):=
 .sl 0 0 (fun _ _=>Go.undef) rfl (Nat.le_refl _) (fun h=>absurd rfl h) (fun r hr=>by cases hr) (fun i hi=>absurd hi (Nat.not_lt_zero i)) (fun i hi=>absurd hi (Nat.not_lt_zero i))
theorem RdC.z3m {v:Value} {d:Nat} {c:Cell} (h:RdC M w v (.tok d c)):False:=by cases h
theorem RdC.le {v:Value} {c c':Cell} (hle:Cell.Le c c') (h:RdC M w v c):RdC M w v c':=by
 induction hle with
 | refl=>exact h
 | zrt k=>cases h;exact RdC.ysc k
 | nilSl n=>cases h;exact RdC.zcSl n
 | nilZc=>cases h;exact RdC.zc
 | ysc k=>cases h;exact RdC.ysc k
 | zcSl n=>cases h;exact RdC.zcSl n
 | nnInts b k=>cases h;exact .ints 0 0 rfl (Nat.zero_le _) (fun h=>absurd rfl h) (fun i hi=>absurd hi (Nat.not_lt_zero i))
 | nnSl b n=>cases h;exact .sl 0 0 (fun _ _=>Go.undef) rfl (Nat.zero_le _) (fun h=>absurd rfl h) (fun r hr=>by cases hr) (fun i hi=>absurd hi (Nat.not_lt_zero i)) (fun i hi=>absurd hi (Nat.not_lt_zero i))
 | untok=>exact h.z3m.elim
 | inTok=>exact h.z3m.elim
 | trans _ _ ih1 ih2=>exact ih2 (ih1 h)
theorem RdT.of {v:Value} {c:Cell} (h:RdC M w v c):RdT M w τ v c:=by
 cases c with
 | tok d c=>exact h.z3m.elim
 | _=>exact h
theorem RdT.le {w:World} {v:Value} {c c':Cell} (hle:Cell.Le c c') (h:RdT M w τ v c):RdT M w τ v c':=by
 induction hle with
 | refl=>exact h
 | zrt k=>exact RdC.le (.zrt k) h
 | nilSl n=>exact RdC.le (.nilSl n) h
 | nilZc=>exact RdC.le .nilZc h
 | ysc k=>exact RdC.le (.ysc k) h
 | zcSl n=>exact RdC.le (.zcSl n) h
 | nnInts b k=>exact RdC.le (.nnInts b k) h
 | nnSl b n=>exact RdC.le (.nnSl b n) h
 | untok d=>exact RdT.of h.2
 | inTok d hle he _=>exact ⟨he▸h.1,h.2.le hle⟩
 | trans _ _ ih1 ih2=>exact ih2 (ih1 h)
theorem Cell.Le.tok {c c':Cell} (h:Cell.Le c c') {d:Nat} (hd:c'.vjg d):c.vjg d:=by
 induction h with
 | refl=>exact hd
 | untok=>exact .inr hd
 | inTok d' _ _ ih=>exact hd.imp id ih
 | trans _ _ ih1 ih2=>exact ih1 (ih2 hd)
 | _=>cases hd
inductive LeL:List Cell->List Cell->Prop
 | nil:LeL [] []
 | cons {c c':Cell} {l l':List Cell} (h:Cell.Le c c') (t:LeL l l'):LeL (c::l) (c'::l')
theorem LeL.refl:∀ l:List Cell,LeL l l
 | []=>.nil
 | c::l=>.cons (.refl c) (LeL.refl l)
theorem RdL.le {w:World}:∀{vs:List Value} {cs cs':List Cell},LeL cs cs'->RdL M w τ vs cs->RdL M w τ vs cs'
 | [],_,_,.nil,_=>trivial
 | _::_,_,_,.cons h t,⟨h1,h2⟩=>⟨h1.le h,RdL.le t h2⟩
 | [],_,_,.cons _ _,h=>h.elim
 | _::_,_,_,.nil,h=>h.elim
theorem LeL.tok:∀{cs cs':List Cell},LeL cs cs'->∀{d:Nat},vxx d cs'->vxx d cs
 | _,_,.nil,_,h=>h
 | _,_,.cons h t,_,hd=>hd.elim (fun x=>.inl (h.tok x)) (fun x=>.inr (LeL.tok t x))
inductive AV.Le:AV->AV->Prop
 | refl (x:AV):AV.Le x x
 | any (x:AV):AV.Le x .any
 | one {c c':Cell} (h:Cell.Le c c'):AV.Le (.one c) (.one c')
 | agg {c c':List Cell} (h:LeL c c'):AV.Le (.agg c) (.agg c')
 | box {c c':List Cell} (h:LeL c c'):AV.Le (.box c) (.box c')
 | obx {c c':List Cell} (h:LeL c c'):AV.Le (.obx c) (.obx c')
theorem AV.Le.tok {x y:AV} (h:AV.Le x y) {d:Nat} (hd:y.vjg d):x.vjg d:=by
 cases h with
 | refl=>exact hd
 | any=>cases x<;>simp [AV.vjg] at hd
 | one h=>simp only [AV.vjg] at hd ⊢;exact h.tok hd
 | agg h=>simp only [AV.vjg] at hd ⊢;exact h.tok hd
 | box h=>simp only [AV.vjg] at hd ⊢;exact h.tok hd
 | obx h=>simp only [AV.vjg] at hd ⊢;exact h.tok hd
theorem vi6.le {w:World} {tm:Array Value} {v:Value} {x y:AV} (h:AV.Le x y) (hs:vi6 M w τ tm v x):vi6 M w τ tm v y:=by
 cases h with
 | refl=>exact hs
 | any=>exact trivial
 | one h=>exact RdT.le h hs
 | agg h=>obtain ⟨vs,rfl,h'⟩:=hs;exact ⟨vs,rfl,h'.le h⟩
 | box h=>obtain ⟨b,vs,T,rfl,hb,h'⟩:=hs;exact ⟨b,vs,T,rfl,hb,h'.le h⟩
 | obx h=>obtain ⟨b,vs,T,rfl,hb,h'⟩:=hs;exact ⟨b,vs,T,rfl,hb,h'.le h⟩
theorem AV.Le.fresh {x y:AV} (h:AV.Le x y) (hy:y.vy8=true):x.fresh=y.fresh:=by
 cases h<;>first | rfl | cases hy
theorem AV.Le.vy8 {x y:AV} (h:AV.Le x y) (hy:y.vy8=true):x.vy8=true:=by
 cases h<;>first | exact hy | rfl | cases hy
inductive LeS:List AV->List AV->Prop
 | nil:LeS [] []
 | cons {c c':AV} {l l':List AV} (h:AV.Le c c') (t:LeS l l'):LeS (c::l) (c'::l')
theorem LeS.refl:∀ l:List AV,LeS l l
 | []=>.nil
 | c::l=>.cons (.refl c) (LeS.refl l)
theorem LeS.length:∀{l l':List AV},LeS l l'->l.length=l'.length
 | _,_,.nil=>rfl
 | _,_,.cons _ t=>by simp [t.length]
theorem LeS.get:∀{l l':List AV},LeS l l'->∀(i:Nat) (y:AV),l'[i]? = some y->∃ x,l[i]? = some x/\AV.Le x y
 | _,_,.nil,i,y,h=>by simp at h
 | _,_,.cons h _,0,y,hy=>by simp at hy;subst hy;exact ⟨_,by simp,h⟩
 | _,_,.cons _ t,i+1,y,hy=>by simpa using t.get i y (by simpa using hy)
def vqw (I:List AV):Bool:=I.all fun av=>match av.rf with
 | none=>true
 | some (s,b)=>match I[s]? with
  | some hv=>hv.fits b
  | none=>false
theorem vqw.spec {I:List AV} (h:vqw I=true) {i:Nat} {av:AV} {s:Nat} {b:Bool} (hi:I[i]? = some av) (hr:av.rf=some (s,b)):∃ hv:AV,I[s]? = some hv/\hv.fits b=true:=by
 have hm:av∈I:=List.mem_of_getElem? hi
 have:=(List.all_eq_true.1 h) av hm
 simp only [hr] at this;split at this
 . rename_i hv hs;exact ⟨hv,hs,this⟩
 . cases this
theorem RelI.weaken (h:RelI E τ M I a w) {I':List AV} (hle:LeS I I') (hr:vqw I'=true):RelI E τ M I' a w:=by
 have hlive:∀ t,live I' t->live I t:=fun t ⟨i,y,hi,hy⟩=>by
  obtain ⟨x,hx,hxy⟩:=hle.get i y hi;exact ⟨i,x,hx,hxy.tok hy⟩
 refine RelI.mk h.hd (by rw [h.hs,hle.length]) ?_ h.m0 h.mb ?_ ?_ ?_ ?_ ?_ ?_ h.size h.os h.tape h.output h.frame
 . intro i y hi;obtain ⟨x,hx,hxy⟩:=hle.get i y hi;exact (h.slot i x hx).le hxy
 . intro i y hi hy;obtain ⟨x,hx,hxy⟩:=hle.get i y hi
   have:=h.hold i x hx (hxy.vy8 hy)
   rw [hxy.fresh hy] at this;exact this
 . intro i j y z hi hj hy hz;obtain ⟨x,hx,hxy⟩:=hle.get i y hi;obtain ⟨x',hx',hxy'⟩:=hle.get j z hj;exact h.inj i j x x' hx hx' (hxy.vy8 hy) (hxy'.vy8 hz)
 . intro i y s b hi hr';exact vqw.spec hr hi hr'
 . exact fun t ht=>h.toks t (hlive t ht)
 . exact fun t t' g ht ht'=>h.tinj t t' g (hlive t ht) (hlive t' ht')
 . intro t i y ht hi hy;obtain ⟨x,hx,hxy⟩:=hle.get i y hi;exact h.tbox t i x (hlive t ht) hx (hxy.vy8 hy)
def Cell.strip (d:Nat):Cell->Cell
 | .tok d' c=>if d'=d then c.strip d else .tok d' (c.strip d)
 | c=>c
def vvn (d:Nat):List Cell->List Cell
 | []=>[]
 | c::cs=>c.strip d::vvn d cs
def AV.strip (d:Nat):AV->AV
 | .one c=>.one (c.strip d)
 | .agg cs=>.agg (vvn d cs)
 | .box cs=>.box (vvn d cs)
 | .obx cs=>.obx (vvn d cs)
 | x=>x
def zay (d:Nat):List AV->List AV
 | []=>[]
 | x::l=>x.strip d::zay d l
def Cell.wo7 (d:Nat):Cell->Bool
 | .tok d' c=>d' != d&&c.wo7 d
 | _=>true
def vpo (d:Nat):List Cell->Bool
 | []=>true
 | c::cs=>c.wo7 d&&vpo d cs
def AV.wo7 (d:Nat):AV->Bool
 | .one c=>c.wo7 d
 | .agg cs | .box cs | .obx cs=>vpo d cs
 | _=>true
def xtr (d:Nat):List AV->Bool
 | []=>true
 | x::l=>x.wo7 d&&xtr d l
theorem Cell.x0v {d:Nat}:∀{c:Cell},c.wo7 d=true->¬c.vjg d
 | .tok d' c,h=>by
  simp only [Cell.wo7,Bool.and_eq_true,bne_iff_ne] at h;rintro (h' | h')
  . exact h.1 h'
  . exact Cell.x0v h.2 h'
 | .raw _,_ | .ints _ _,_ | .sl _ _,_ | .zc,_ | .nn _,_ | .fnp _,_=>fun h=>h
theorem vof {d:Nat}:∀{cs:List Cell},vpo d cs=true->¬vxx d cs
 | [],_=>fun h=>h
 | c::cs,h=>by
  simp only [vpo,Bool.and_eq_true] at h;rintro (h' | h')
  . exact Cell.x0v h.1 h'
  . exact vof h.2 h'
theorem AV.x0v {d:Nat} {x:AV} (h:x.wo7 d=true):¬x.vjg d:=by
 cases x with
 | one c=>exact Cell.x0v h
 | agg cs=>exact vof h
 | box cs=>exact vof h
 | obx cs=>exact vof h
 | _=>exact fun h=>h
theorem xbp {d:Nat}:∀{I:List AV},xtr d I=true->¬live I d
 | [],_=>fun ⟨i,x,hi,hx⟩=>by simp at hi
 | y::l,h=>fun ⟨i,x,hi,hx⟩=>by
  simp only [xtr,Bool.and_eq_true] at h
  cases i with
  | zero=>simp at hi;subst hi;exact AV.x0v h.1 hx
  | succ i=>exact xbp h.2 ⟨i,x,by simpa using hi,hx⟩
theorem Cell.wmv (d:Nat):∀ c:Cell,(c.strip d).wo7 d=true
 | .tok d' c=>by
  unfold Cell.strip
  split
  . exact Cell.wmv d c
  . rename_i hne;simp [Cell.wo7,Cell.wmv d c,hne]
 | .raw _ | .ints _ _ | .sl _ _ | .zc | .nn _ | .fnp _=>rfl
theorem y6q (d:Nat):∀ cs:List Cell,vpo d (vvn d cs)=true
 | []=>rfl
 | c::cs=>by simp [vpo,vvn,Cell.wmv,y6q d cs]
theorem AV.wmv (d:Nat) (x:AV):(x.strip d).wo7 d=true:=by
 cases x with
 | one c=>exact Cell.wmv d c
 | agg cs=>exact y6q d cs
 | box cs=>exact y6q d cs
 | obx cs=>exact y6q d cs
 | _=>rfl
theorem Cell.zkj (d:Nat):∀ c:Cell,(c.strip d).esz=c.esz
 | .tok d' c=>by
  unfold Cell.strip
  split
  . rw [Cell.zkj d c];rfl
  . simp [Cell.esz,Cell.zkj d c]
 | .raw _ | .ints _ _ | .sl _ _ | .zc | .nn _ | .fnp _=>rfl
theorem Cell.Le.strip (d:Nat):∀ c:Cell,Cell.Le c (c.strip d)
 | .tok d' c=>by
  unfold Cell.strip
  split
  . exact .trans (.untok d' c) (Cell.Le.strip d c)
  . exact .inTok d' (Cell.Le.strip d c) (Cell.zkj d c).symm
 | .raw _ | .ints _ _ | .sl _ _ | .zc | .nn _ | .fnp _=>.refl _
theorem LeL.strip (d:Nat):∀ cs:List Cell,LeL cs (vvn d cs)
 | []=>.nil
 | c::cs=>.cons (Cell.Le.strip d c) (LeL.strip d cs)
theorem AV.Le.strip (d:Nat) (x:AV):AV.Le x (x.strip d):=by
 cases x with
 | one c=>exact .one (Cell.Le.strip d c)
 | agg cs=>exact .agg (LeL.strip d cs)
 | box cs=>exact .box (LeL.strip d cs)
 | obx cs=>exact .obx (LeL.strip d cs)
 | _=>exact .refl _
theorem LeS.strip (d:Nat):∀ I:List AV,LeS I (zay d I)
 | []=>.nil
 | x::l=>.cons (AV.Le.strip d x) (LeS.strip d l)
theorem ywh (d:Nat):∀(I:List AV) (i:Nat),(zay d I)[i]? = (I[i]?).map (AV.strip d)
 | [],i=>by simp [zay]
 | x::l,0=>by simp [zay]
 | x::l,i+1=>by simpa [zay] using ywh d l i
theorem AV.xix (d:Nat) (x:AV):(x.strip d).rf=x.rf:=by cases x<;>rfl
theorem AV.ze2 (d:Nat) (x:AV) (b:Bool):(x.strip d).fits b=x.fits b:=by cases x<;>cases b<;>rfl
theorem AV.xhf (d:Nat) (x:AV):(x.strip d).fresh=x.fresh:=by cases x<;>rfl
theorem AV.v9x (d:Nat) (x:AV):(x.strip d).vy8=x.vy8:=by cases x<;>rfl
theorem RelI.strip {w:World} (h:RelI E τ M I a w) (d:Nat):RelI E τ M (zay d I) a w:=by
 have hle:=LeS.strip d I
 have hget:∀(i:Nat) (y:AV),(zay d I)[i]? = some y->∃ x,I[i]? = some x/\y=x.strip d:=fun i y hi=>by
  rw [ywh] at hi
  cases hx:I[i]? with
  | none=>rw [hx] at hi;cases hi
  | some x=>rw [hx] at hi;exact ⟨x,rfl,by simpa using hi.symm⟩
 have hlive:∀ t,live (zay d I) t->live I t:=fun t ⟨i,y,hi,hy⟩=>by
  obtain ⟨x,hx,hxy⟩:=hle.get i y hi;exact ⟨i,x,hx,hxy.tok hy⟩
 refine RelI.mk h.hd (by rw [h.hs,hle.length]) ?_ h.m0 h.mb ?_ ?_ ?_ ?_ ?_ ?_ h.size h.os h.tape h.output h.frame
 . intro i y hi;obtain ⟨x,hx,hxy⟩:=hle.get i y hi;exact (h.slot i x hx).le hxy
 . intro i y hi hy;obtain ⟨x,hx,rfl⟩:=hget i y hi
   have:=h.hold i x hx (by rwa [AV.v9x] at hy)
   rw [AV.xhf];exact this
 . intro i j y z hi hj hy hz;obtain ⟨x,hx,rfl⟩:=hget i y hi;obtain ⟨x',hx',rfl⟩:=hget j z hj;exact h.inj i j x x' hx hx' (by rwa [AV.v9x] at hy) (by rwa [AV.v9x] at hz)
 . intro i y s b hi hr';obtain ⟨x,hx,rfl⟩:=hget i y hi;rw [AV.xix] at hr';obtain ⟨hv,h1,h2⟩:=h.refs i x s b hx hr';exact ⟨hv.strip d,by rw [ywh,h1];rfl,by rwa [AV.ze2]⟩
 . exact fun t ht=>h.toks t (hlive t ht)
 . exact fun t t' g ht ht'=>h.tinj t t' g (hlive t ht) (hlive t' ht')
 . intro t i y ht hi hy;obtain ⟨x,hx,rfl⟩:=hget i y hi;exact h.tbox t i x (hlive t ht) hx (by rwa [AV.v9x] at hy)
theorem RelI.xqa (h:RelI E τ M I a w) {d:Nat} (hd:¬live I d) (v:TV):RelI E (fun t=>if t=d then v else τ t) M I a w:=by
 have hne:∀ t,live I t->(if t=d then v else τ t)=τ t:=fun t ht=>if_neg (fun e=>hd (by rw [<-e];exact ht))
 refine RelI.mk h.hd h.hs ?_ h.m0 h.mb h.hold h.inj h.refs ?_ ?_ ?_ h.size h.os h.tape h.output h.frame
 . exact fun i x hi=>(h.slot i x hi).keep (fun _ _ _ h1 h2=>⟨h1,h2⟩) (fun t ht=>hne t ⟨i,x,hi,ht⟩) (fun _ _ _=>rfl) (fun _=>rfl)
 . intro t ht;rw [hne t ht];exact h.toks t ht
 . intro t t' g ht ht';rw [hne t ht,hne t' ht'];exact h.tinj t t' g ht ht'
 . intro t i x ht hi hx;rw [hne t ht];exact h.tbox t i x ht hi hx
end Go.Slot
namespace Go.Slot
open Go Go.RowKit
variable {P:Program} {i:TypeInfo} {M:Nat->Nat->Prop} {w:World} {τ:Nat->TV} {av:AV} {I:List AV} {o:Oper} {rd:List Nat}
inductive Sh where
 | int (k:IntKind)
 | bool
 | string
 | struct (fs:List (Nat×Nat×TypeId))
 | array (n e es:Nat)
 | slice (e es eb:Nat) (ik:Option IntKind)
 | map (k e:TypeId)
 | cell
 | other
structure TI where
 size:Nat
 bytes:Nat
 zc:List Cell
 sh:Sh
def wqc:Value->Cell
 | .slice none 0 0=>.zc
 | v=>.raw v
def shOf (P:Program):TypeDesc->Sh
 | .int k=>.int k
 | .bool=>.bool
 | .string=>.string
 | .struct fs=>if (fs.toList.all fun f=>P.cellsOf f.type != 0) then .struct (fs.toList.map fun f=>(f.offset,P.cellsOf f.type,f.type)) else .other
 | .array n e=>.array n e (P.cellsOf e)
 | .slice e=>match P.info? e with
  | some i=>match i.zero with
   | some z=>if i.size != 0&&z.cells.size==i.size then .slice e i.size i.bytes (match P.underlying e with | some (.int k)=>some k | _=>none) else .other
   | none=>.other
  | none=>.other
 | .map k e=>.map k e
 | .pointer _=>.cell
 | .func _ _ _=>.cell
 | .interface _=>.cell
 | .unsafePointer=>.cell
 | _=>.other
def mkTI (P:Program) (t:TypeId):Option TI:=
 match P.underlying t,P.info? t with
 | some d,some i=>match i.zero with
  | some z=>if z.cells.toList.all (·.oneCell')&&z.cells.size==i.size then some ⟨i.size,i.bytes,z.cells.toList.map wqc,shOf P d⟩ else none
  | none=>none
 | _,_=>none
structure TIok (P:Program) (t:TypeId) (ti:TI):Prop where
 ex:∃(d:TypeDesc) (i:TypeInfo) (z:Value),P.underlying t=some d/\P.info? t=some i/\i.zero=some z/\i.size=ti.size/\i.bytes=ti.bytes/\
  z.cells.size=ti.size/\(∀ v∈z.cells.toList,v.oneCell'=true)/\ti.zc=z.cells.toList.map wqc/\ti.sh=shOf P d
theorem vnz {t : TypeId} {ti : TI} (h : mkTI P t = some ti) : TIok P t ti := by
 unfold mkTI at h;split at h
 . rename_i d i hd hi;split at h
   . rename_i z hz;split at h
     . rename_i hc;simp only [Bool.and_eq_true,List.all_eq_true,beq_iff_eq] at hc
       cases h;exact ⟨d,i,z,hd,hi,hz,rfl,rfl,hc.2,hc.1,rfl,rfl⟩
     . cases h
   . cases h
 . cases h
def Sh.agg:Sh->Bool
 | .struct _ | .array _ _ _=>true
 | _=>false
def Sh.plain:Sh->Bool
 | .int _ | .bool | .string | .slice _ _ _ _ | .map _ _ | .cell=>true
 | _=>false
def TI.many (ti:TI):Option Bool:=if ti.sh.agg then some true else if ti.sh.plain then some false else none
section
variable {P:Program} {w:World}
theorem voj {t:TypeId} {d:TypeDesc} (h:P.underlying t=some d):(underlying t).run P w=.ok d w:=run_underlying h w
theorem xvp {t:TypeId} (h:P.info? t=some i):(sizeOf t).run P w=.ok i.size w:=by simp [sizeOf,typeInfo,h]
theorem xt1 {t:TypeId} {z:Value} (h:P.info? t=some i) (hz:i.zero=some z):(zeroValue t).run P w=.ok z w:=by simp [zeroValue,typeInfo,h,hz]
theorem wdi {d:TypeDesc} (h:(shOf P d).agg=true):(∃ fs,d=.struct fs)\/∃ n e,d=.array n e:=by
 cases d with
 | struct fs=>exact .inl ⟨fs,rfl⟩
 | array n e=>exact .inr ⟨n,e,rfl⟩
 | slice e=>
  exfalso;revert h;unfold shOf;dsimp only
  split
  . split
    . split<;>simp [Sh.agg]
    . simp [Sh.agg]
  . simp [Sh.agg]
 | _=>simp [shOf,Sh.agg] at h
theorem zmd {d:TypeDesc} (h:(shOf P d).plain=true):(∀ fs,d≠.struct fs)/\∀ n e,d≠.array n e:=by
 cases d with
 | struct fs=>
  exfalso;revert h;unfold shOf;dsimp only
  split<;>simp [Sh.plain]
 | array n e=>simp [shOf,Sh.plain] at h
 | _=>simp
theorem TIok.z1x {t:TypeId} {ti:TI} (h:TIok P t ti) {b:Bool} (hb:ti.many=some b):(isAgg t).run P w=.ok b w:=by
 obtain ⟨d,i,z,hd,hi,hz,_,_,_,_,_,hsh⟩:=h.ex;unfold TI.many at hb;rw [hsh] at hb;unfold isAgg;simp only [Sem.run_bind,voj hd,Result.andThen_ok];split at hb
 . rename_i ha
   cases hb
   rcases wdi ha with ⟨fs,rfl⟩ | ⟨n,e,rfl⟩<;>rfl
 . split at hb
   . rename_i hp
     cases hb
     have:=zmd hp
     cases d<;>first | rfl | exact absurd rfl (this.1 _) | exact absurd rfl (this.2 _ _)
   . cases hb
end
def wx7:Value->AV
 | .agg vs=>if vs.toList.all (·.oneCell') then .agg (vs.toList.map .raw) else .any
 | .tuple _=>.any
 | v=>.one (.raw v)
def opd (I:List AV):Operand->AV
 | .tmp t=>gt I t
 | .const v=>wx7 v
 | .func f=>.one (.raw (.func (.func f) #[] #[]))
 | .global _=>.any
def orr:Operand->List Nat
 | .tmp t=>[t]
 | _=>[]
def wwy (rd:List Nat) (I I':List AV):Prop:=I'.length=I.length/\∀ r∈rd,gt I' r=gt I r
theorem wwy.opd {rd:List Nat} {I I':List AV} (h:wwy rd I I') {x:Operand} (hx:∀ t∈orr x,t∈rd):opd I' x=opd I x:=by
 cases x with
 | tmp t=>exact h.2 t (hx t (by simp [orr]))
 | _=>rfl
theorem RdL.raws {M:Nat->Nat->Prop} {w:World} {τ:Nat->TV}:∀{vs:List Value},(∀ v∈vs,v.oneCell'=true)->RdL M w τ vs (vs.map .raw)
 | [],_=>trivial
 | v::vs,h=>⟨RdC.raw (h v (by simp)),RdL.raws (fun u hu=>h u (by simp [hu]))⟩
theorem yjc (v:Value):RdA M w τ v (wx7 v):=by
 unfold wx7
 split
 . rename_i vs
   split
   . rename_i h;exact ⟨vs.toList,by simp,RdL.raws (fun v hv=>(List.all_eq_true.1 h) v hv)⟩
   . trivial
 . trivial
 . rename_i h1 h2;exact RdC.raw (by cases v<;>simp_all [Value.oneCell'])
theorem RdA.slot {tm:Array Value} {v:Value} (h:RdA M w τ v av):vi6 M w τ tm v av:=by
 cases av<;>first | exact h | exact h.elim
section
variable {E:Env} {τ:Nat->TV} {M:Nat->Nat->Prop} {I:List AV} {a:Act} {w:World}
theorem RelI.gt (h:RelI E τ M I a w) (t:Nat):vi6 M w τ a.tmps (a.tmps.getD t Go.undef) (gt I t):=by
 unfold Slot.gt
 cases ht:I[t]? with
 | none=>exact trivial
 | some av=>exact h.slot t av ht
theorem RelI.opd (h:RelI E τ M I a w) (x:Operand):vi6 M w τ a.tmps (a.eval x) (opd I x):=by
 cases x with
 | tmp t=>exact h.gt t
 | const v=>exact (yjc v).slot
 | func f=>exact RdC.raw rfl
 | global g=>exact trivial
theorem vxi {t:Nat} (h:gt I t=av) (hne:av≠.any):I[t]? = some av:=by
 unfold gt at h
 cases ht:I[t]? with
 | none=>rw [ht] at h;exact absurd h.symm hne
 | some x=>rw [ht] at h;simp at h;rw [h]
theorem y1e {x:Operand} {t:Nat} (ht:(Slot.opd I x).vjg t):live I t:=by
 cases x with
 | tmp s=>
  refine ⟨s,Slot.gt I s,vxi rfl (fun e=>?_),ht⟩;simp only [Slot.opd] at ht;rw [e] at ht;exact ht
 | const v=>
  simp only [Slot.opd,wx7] at ht;split at ht
  . split at ht
    . exfalso;rename_i vs _;simp only [AV.vjg] at ht;generalize vs.toList=l at ht
      induction l with
      | nil=>exact ht
      | cons c l ih=>exact ht.elim (fun h=>h) ih
    . exact ht.elim
  . exact ht.elim
  . exact ht.elim
 | func f=>exact ht.elim
 | global g=>exact ht.elim
end
def app:List (Nat×AV)->List AV->List AV
 | [],I=>I
 | (s,v)::r,I=>app r (I.set s v)
def yh6 (P:Program) (o:Oper) (I:List AV) (rd tk:List Nat) (eff:List (Nat×AV)):Prop:=
 ∀(E:Env) (I':List AV) (a:Act) (w:World),wwy rd I I'->(∀ t∈tk,∀ i,(gt I' i).vjg t->i∈rd)->Rel E I' a w->∀(K:Act->World->Prop) (Q:Exit->Act->World->Prop),
  (∀ a' w',Rel E (app eff I') a' w'->K a' w')->o.wp P a w K Q
def nh (I:List AV) (d:Nat):Bool:=match I[d]? with
 | some av=>!av.vy8
 | none=>false
theorem yn6 {d:Nat} (h:nh I d=true):∃ old,I[d]? = some old/\old.vy8=false:=by
 unfold nh at h;split at h
 . rename_i av hav;exact ⟨av,hav,by simpa using h⟩
 . cases h
theorem wwy.nh {rd:List Nat} {I I':List AV} (h:wwy rd I I') {d:Nat} (hd:d∈rd) (hn:nh I d=true):nh I' d=true:=by
 obtain ⟨old,h1,h2⟩:=yn6 hn
 have hlt:d<I'.length:=by rw [h.1];exact (List.getElem?_eq_some_iff.1 h1).1
 have:=h.2 d hd
 unfold Slot.gt at this;rw [h1,List.getElem?_eq_getElem hlt] at this;simp at this;unfold Slot.nh;rw [List.getElem?_eq_getElem hlt];simp [this,h2]
theorem yh6.val {d:Nat} (hdst:o.dst=some d) (hd:d∈rd) (hn:nh I d=true) (hav:av.vy8=false)
 (hrun:∀(E:Env) (τ:Nat->TV) (M:Nat->Nat->Prop) (I':List AV) (a:Act) (w:World),wwy rd I I'->RelI E τ M I' a w->
   ∃ v w',(execOp a.eval o).run P w=.ok (.value v) w'/\Below w.heap.size w w'/\vi6 M w' τ a.tmps v av/\(∀ t,av.vjg t->live I' t)/\
    (∀(s:Nat) (b:Bool),av.rf=some (s,b)->∃ hv:AV,I'[s]? = some hv/\hv.fits b=true)):yh6 P o I rd [] [(d,av)]:=by
 intro E I' a w hag _ ⟨τ,M,h⟩ K Q hK;obtain ⟨v,w',hr,hb,hok,htok,hrf⟩:=hrun E τ M I' a w hag h;obtain ⟨old,h1,h2⟩:=yn6 (hag.nh hd hn);unfold Oper.wp;rw [hr];show K (a.put o.dst v) w';rw [hdst];exact hK _ _ ⟨τ,M,(h.below hb).put h1 h2 v av hav hok hrf htok⟩
theorem yh6.new {d:Nat} (hdst:o.dst=some d) (hd:d∈rd) (hn:nh I d=true) (hav:av.vy8=true) (hfrs:av.fresh=true)
 (hrun:∀(E:Env) (τ:Nat->TV) (M:Nat->Nat->Prop) (I':List AV) (a:Act) (w:World),wwy rd I I'->RelI E τ M I' a w->
   ∃ v ob,(execOp a.eval o).run P w=.ok (.value v) (w.alloc ob)/\blk v=w.heap.size/\vi6 (fun b o=>M b o\/b=w.heap.size) (w.alloc ob) τ a.tmps v av/\(∀ t,av.vjg t->live I' t)) :
 yh6 P o I rd [] [(d,av)]:=by
 intro E I' a w hag _ ⟨τ,M,h⟩ K Q hK;obtain ⟨v,ob,hr,hb,hok,htok⟩:=hrun E τ M I' a w hag h;obtain ⟨old,h1,h2⟩:=yn6 (hag.nh hd hn);unfold Oper.wp;rw [hr];show K (a.put o.dst v) _;rw [hdst];exact hK _ _ ⟨τ,_,h.alloc h1 h2 ob v av hav hfrs hb hok htok⟩
end Go.Slot
namespace Go.Slot
open Go Go.RowKit
variable {P:Program}
variable {o:Oper} {rd:List Nat} {x y:Operand} {M:Nat->Nat->Prop} {w:World} {T S:TypeId} {ti:TI} {τ:Nat->TV} {tm:Array Value} {i f b off:Nat} {vs:List Value} {α:Type} {fs:List (Nat×Nat×TypeId)}
def val (I:List AV) (o:Oper) (rd:List Nat) (av:AV):Option (List Nat×List (Nat×AV)):=
 match o.dst with
 | some d=>if nh I d then some (d::rd,[(d,av)]) else none
 | none=>none
theorem xj7 {I:List AV} {av:AV} {r:List Nat×List (Nat×AV)} (h:val I o rd av=some r) :
 ∃ d,o.dst=some d/\nh I d=true/\r=(d::rd,[(d,av)]):=by
 unfold val at h;split at h
 . rename_i d hd;split at h
   . rename_i hn;cases h;exact ⟨d,hd,hn,rfl⟩
   . cases h
 . cases h
theorem zgs (w:World):Below w.heap.size w w:=Below.refl _ _
def cpy (x:Operand):AV->AV
 | .box _=>match x with
  | .tmp t=>.ptr t 0
  | _=>.any
 | .obx _=>match x with
  | .tmp t=>.ptr t 0
  | _=>.any
 | .arr _ _ _=>match x with
  | .tmp t=>.asl t
  | _=>.any
 | av=>av
theorem y9m {I:List AV} (ho:o.op=.move x\/o.op=.assign x) {r:List Nat×List (Nat×AV)}
 (h:val I o (orr x) (cpy x (opd I x))=some r):yh6 P o I r.1 [] r.2:=by
 obtain ⟨d,hdst,hn,rfl⟩:=xj7 h;refine yh6.val hdst (by simp) hn (by cases opd I x<;>cases x<;>rfl) (fun E τ M I' a w hag hI=>?_);have hop:opd I' x=opd I x:=hag.opd (fun t ht=>by simp [ht])
 have hrun:(execOp a.eval o).run P w=.ok (.value (a.eval x)) w:=by
  rcases ho with ho | ho<;>simp [execOp,ho]
 have hs:=hI.opd x;refine ⟨a.eval x,w,hrun,zgs w,?_,?_,?_⟩
 . rw [← hop]
   cases hx:opd I' x with
   | box cs=>
    rw [hx] at hs
    cases x with
    | tmp t=>
     obtain ⟨b,vs,T,e,_,_⟩:=hs;show _=Value.pointer (some ⟨blk (a.eval (.tmp t)),0,none⟩);rw [e];rfl
    | _=>exact trivial
   | obx cs=>
    rw [hx] at hs
    cases x with
    | tmp t=>
     obtain ⟨b,vs,T,e,_,_⟩:=hs;show _=Value.pointer (some ⟨blk (a.eval (.tmp t)),0,none⟩);rw [e];rfl
    | _=>exact trivial
   | arr pre c post=>
    cases x with
    | tmp t=>exact rfl
    | _=>exact trivial
   | _=>rw [hx] at hs;exact hs
 . intro t ht;rw [<-hop] at ht;refine y1e (x:=x) ?_
   cases hx:opd I' x<;>rw [hx] at ht<;>first | exact ht | (cases x<;>exact ht.elim)
 . intro s b hr;rw [<-hop] at hr
   cases hx:opd I' x<;>rw [hx] at hr
   case box cs=>
    cases x with
    | tmp t=>simp [cpy,AV.rf] at hr;obtain ⟨rfl,rfl⟩:=hr;exact ⟨_,vxi hx (by simp),rfl⟩
    | _=>simp [cpy,AV.rf] at hr
   case obx cs=>
    cases x with
    | tmp t=>simp [cpy,AV.rf] at hr;obtain ⟨rfl,rfl⟩:=hr;exact ⟨_,vxi hx (by simp),rfl⟩
    | _=>simp [cpy,AV.rf] at hr
   case arr pre c post=>
    cases x with
    | tmp t=>simp [cpy,AV.rf] at hr;obtain ⟨rfl,rfl⟩:=hr;exact ⟨_,vxi hx (by simp),rfl⟩
    | _=>simp [cpy,AV.rf] at hr
   case any=>exfalso;cases x<;>simp [cpy,AV.rf] at hr
   all_goals
    cases x with
    | tmp t=>
     exact hI.refs t _ s b (vxi hx (by simp)) hr
    | const v=>
     exfalso;simp only [opd,wx7] at hx;split at hx
     . split at hx<;>(cases hx;try simp [cpy,AV.rf] at hr)
     . cases hx;try simp [cpy,AV.rf] at hr
     . cases hx;try simp [cpy,AV.rf] at hr
    | func f=>simp only [opd] at hx;cases hx<;>simp [cpy,AV.rf] at hr
    | global g=>simp only [opd] at hx;cases hx<;>simp [cpy,AV.rf] at hr
theorem RdC.zb6 {v u:Value} (h:RdC M w v (.raw u)):v=u:=by cases h;rfl
def v9r (I:List AV) (c x y:Operand):Option AV:=
 match opd I c with
 | .one (.raw (.bool b))=>match opd I x,opd I y with
  | .one (.raw (.bool p)),.one (.raw (.bool q))=>some (.one (.raw (.bool (bif b then p else q))))
  | .one (.raw u),.undef=>if b=true then some (.one (.raw u)) else none
  | .undef,.one (.raw v)=>if b=false then some (.one (.raw v)) else none
  | _,_=>none
 | _=>none
theorem vyi {I:List AV} {c:Operand} (ho:o.op=.pick c x y) {av:AV} (hp:v9r I c x y=some av) {r:List Nat×List (Nat×AV)}
 (h:val I o (orr c++orr x++orr y) av=some r):yh6 P o I r.1 [] r.2:=by
 obtain ⟨d,hdst,hn,rfl⟩:=xj7 h
 have hraw:∃ u,av=.one (.raw u)/\u.oneCell'=true\/av=.one (.raw u):=by
  unfold v9r at hp
  repeat' split at hp
  all_goals first | (cases hp;exact ⟨_,.inr rfl⟩) | cases hp
 have hnh:av.vy8=false:=by obtain ⟨u,h | h⟩:=hraw<;>simp_all [AV.vy8]
 have hrf0:av.rf=none:=by obtain ⟨u,h | h⟩:=hraw<;>simp_all [AV.rf]
 have htk:∀ t,¬av.vjg t:=by obtain ⟨u,h | h⟩:=hraw<;>simp_all [AV.vjg,Cell.vjg]
 refine yh6.val hdst (by simp) hn hnh (fun E τ M I' a w hag hI=>?_);have hc:opd I' c=opd I c:=hag.opd (fun t ht=>by simp [ht]);have hx:opd I' x=opd I x:=hag.opd (fun t ht=>by simp [ht]);have hy:opd I' y=opd I y:=hag.opd (fun t ht=>by simp [ht]);have sc:=hI.opd c;have sx:=hI.opd x;have sy:=hI.opd y;rw [hc] at sc;rw [hx] at sx;rw [hy] at sy
 have key:∃ b:Bool,a.eval c=.bool b/\vi6 M w τ a.tmps (if b then a.eval x else a.eval y) av:=by
  unfold v9r at hp;split at hp
  . rename_i b hcb;rw [hcb] at sc;have hbv:a.eval c=.bool b:=RdC.zb6 sc;refine ⟨b,hbv,?_⟩;split at hp
    . rename_i p q hxp hyq;rw [hxp] at sx;rw [hyq] at sy
      cases hp;have e1:a.eval x=.bool p:=RdC.zb6 sx;have e2:a.eval y=.bool q:=RdC.zb6 sy;rw [e1,e2]
      cases b<;>exact RdC.raw rfl
    . rename_i u hxu hyu;rw [hxu] at sx;split at hp
      . rename_i hb;cases hp;simp only [hb,if_true];exact sx
      . cases hp
    . rename_i v hxu hyu;rw [hyu] at sy;split at hp
      . rename_i hb;cases hp;simp only [hb];exact sy
      . cases hp
    . cases hp
  . cases hp
 obtain ⟨b,hb,hs⟩:=key;refine ⟨if b then a.eval x else a.eval y,w,?_,zgs w,hs,fun t ht=>absurd ht (htk t),fun s b' hr=>by rw [hrf0] at hr;cases hr⟩;simp [execOp,ho,hb,asBool]
theorem yb5 {v:Value} (h:v.oneCell'=true):RdC M w v (wqc v):=by
 unfold wqc
 split
 . exact RdC.zc
 . exact RdC.raw h
theorem zal {M:Nat->Nat->Prop} {w:World} {τ:Nat->TV}:∀{l:List Value},(∀ v∈l,v.oneCell'=true)->RdL M w τ l (l.map wqc)
 | [],_=>trivial
 | v::l,h=>⟨RdT.of (yb5 (h v (by simp))),zal (fun u hu=>h u (by simp [hu]))⟩
theorem y72 {t:Nat}:∀ l:List Value,¬vxx t (l.map wqc)
 | []=>fun h=>h
 | v::l=>fun h=>h.elim (fun h=>by unfold wqc at h;split at h<;>exact h) (y72 l)
theorem zuf (w:World) (o:Obj):(w.alloc o).heap[w.heap.size]? = some o:=heap_alloc_new w o
theorem wf4 {I:List AV} (ho:o.op=.alloc T) (hti:mkTI P T=some ti) {r:List Nat×List (Nat×AV)}
 (h:val I o [] (.box ti.zc)=some r):yh6 P o I r.1 [] r.2:=by
 obtain ⟨d,hdst,hn,rfl⟩:=xj7 h;refine yh6.new hdst (by simp) hn rfl rfl (fun E τ M I' a w hag hI=>?_);obtain ⟨ds,i,z,hd,hi,hz,hsz,hby,hzs,hone,hzc,hsh⟩:=(vnz hti).ex;refine ⟨.pointer (some ⟨w.heap.size,0,none⟩),.cells z.cells T,?_,rfl,⟨w.heap.size,z.cells.toList,T,rfl,by rw [Array.toArray_toList];exact zuf w _,?_⟩,?_⟩
 . simp [execOp,ho,Instr.alloc,xt1 hi hz,newVar,newRow]
 . rw [hzc];exact zal hone
 . intro t ht;rw [hzc] at ht;exact absurd ht (y72 _)
def zj8:AV->Option (List Cell)
 | .one c=>some [c]
 | .agg cs=>some cs
 | _=>none
theorem v3g {v:Value} {av:AV} {cs:List Cell} (hc:zj8 av=some cs) (h:vi6 M w τ tm v av) :
 RdL M w τ v.cells.toList cs:=by
 cases av with
 | one c=>
  cases hc
  have h1:v.cells=#[v]:=by
   have:=RdT.one h
   cases v<;>first | rfl | cases this
  rw [h1];exact ⟨h,trivial⟩
 | agg cs'=>
  cases hc;obtain ⟨vs,rfl,h⟩:=h;simpa [Value.cells] using h
 | _=>cases hc
theorem xni {av:AV} {cs:List Cell} (hc:zj8 av=some cs) {t:Nat} (h:vxx t cs):av.vjg t:=by
 cases av with
 | one c=>cases hc;exact h.elim id (fun h=>h.elim)
 | agg cs'=>cases hc;exact h
 | _=>cases hc
theorem y2i {I:List AV} (ho:o.op=.box T x) {cs:List Cell} (hcs:zj8 (opd I x)=some cs) {r:List Nat×List (Nat×AV)}
 (h:val I o (orr x) (.box cs)=some r):yh6 P o I r.1 [] r.2:=by
 obtain ⟨d,hdst,hn,rfl⟩:=xj7 h;refine yh6.new hdst (by simp) hn rfl rfl (fun E τ M I' a w hag hI=>?_);have hop:opd I' x=opd I x:=hag.opd (fun t ht=>by simp [ht]);have hs:=hI.opd x;rw [hop] at hs;have hr:=v3g hcs hs;refine ⟨.pointer (some ⟨w.heap.size,0,none⟩),.cells (a.eval x).cells T,?_,rfl,⟨w.heap.size,(a.eval x).cells.toList,T,rfl,by rw [Array.toArray_toList];exact zuf w _,hr.keep (ya3.alloc w _) (fun _ _=>rfl)⟩,?_⟩
 . simp [execOp,ho,Instr.box,newVar,newRow]
 . intro t ht
   have:=xni hcs ht
   rw [<-hop] at this;exact y1e this
def AV.xns:AV->Option (List Cell)
 | .box cs=>some cs
 | .obx cs=>some cs
 | _=>none
variable {I:List AV} {av:AV} {r:List Nat×List (Nat×AV)}
def AV.zca:AV->List Cell->AV
 | .obx _,cs=>.obx cs
 | _,cs=>.box cs
theorem x08 {v:Value} {cs:List Cell} (h:vi6 M w τ tm v av) (hb:av.xns=some cs) :
 ∃(b:Nat) (vs:List Value) (T:TypeId),v=.pointer (some ⟨b,0,none⟩)/\w.heap[b]? = some (.cells vs.toArray T (0,0))/\RdL M w τ vs cs:=by
 cases av with
 | box cs'=>cases hb;exact h
 | obx cs'=>cases hb;exact h
 | _=>cases hb
theorem xbh {cs:List Cell} (hb:av.xns=some cs):av.vy8=true/\av.fits true=true/\av≠.any:=by
 cases av<;>first | (cases hb;exact ⟨rfl,rfl,by simp⟩) | cases hb
theorem vmf {cs:List Cell} (hb:av.xns=some cs) (t:Nat):av.vjg t↔vxx t cs:=by
 cases av<;>first | (cases hb;exact Iff.rfl) | cases hb
def Cell.at (c:Cell) (i f:Nat):Option (List Cell):=match c with
 | .ints k l=>if i<l.length/\f=0 then some [.raw (.int k (l.getD i 0))] else none
 | .sl _ rows=>if i<rows.length then some ((rows.getD i []).drop f) else none
 | _=>none
variable {cs:List Cell}
def Cell.upd (c:Cell) (i f:Nat) (us:List Cell):Option Cell:=match c with
 | .ints k l=>match us with
  | [.raw (.int k' n)]=>if k=k'/\i<l.length/\f=0 then some (.ints k (l.set i n)) else none
  | _=>none
 | .sl m rows=>if i<rows.length/\f+us.length<=m then some (.sl m (rows.set i ((rows.getD i []).take f++us++(rows.getD i []).drop (f+us.length)))) else none
 | _=>none
theorem wzz {α:Type} {m:Nat}:∀(rows:List (List α)) (i:Nat),(∀ r∈rows,r.length=m)->rows.flatten.drop (i*m)=(rows.drop i).flatten
 | rows,0,_=>by simp
 | [],i+1,_=>by simp
 | r::rows,i+1,h=>by
  have hr:=h r (by simp);rw [List.flatten_cons,List.drop_succ_cons,<-wzz rows i (fun r hr=>h r (by simp [hr])),Nat.succ_mul,Nat.add_comm,<-List.drop_drop,<-hr,List.drop_left]
theorem xxl {α:Type} {m:Nat}:∀(rows:List (List α)) (i:Nat),(∀ r∈rows,r.length=m)->rows.flatten.take (i*m)=(rows.take i).flatten
 | rows,0,_=>by simp
 | [],i+1,_=>by simp
 | r::rows,i+1,h=>by
  have hr:=h r (by simp);rw [List.flatten_cons,List.take_succ_cons,List.flatten_cons,<-xxl rows i (fun r hr=>h r (by simp [hr])),Nat.succ_mul,Nat.add_comm,<-hr,List.take_length_add_append]
theorem w2q {α:Type} {m:Nat}:∀(rows:List (List α)),(∀ r∈rows,r.length=m)->rows.flatten.length=rows.length*m
 | [],_=>by simp
 | r::rows,h=>by
  rw [List.flatten_cons,List.length_append,w2q rows (fun r hr=>h r (by simp [hr])),h r (by simp),List.length_cons,Nat.succ_mul];omega
theorem Cell.ym0 {c:Cell} (h:c.uni):c.flat.length=c.cnt*c.esz:=by
 cases c with
 | ints k l=>simp [Cell.flat,Cell.cnt,Cell.esz]
 | sl n rows=>exact w2q rows h
 | _=>exact h.elim
theorem Cell.va2 {c:Cell} (hu:c.uni) (h:c.at i f=some cs):i<c.cnt/\∃ r,c.flat.drop (i*c.esz+f)=cs++r:=by
 cases c with
 | ints k l=>
  simp only [Cell.at] at h;split at h
  . rename_i hc;obtain ⟨hi,rfl⟩:=hc
    cases h;refine ⟨hi,(l.drop (i+1)).map fun n=>.raw (.int k n),?_⟩;simp only [Cell.flat,Cell.esz,Nat.mul_one,Nat.add_zero];rw [List.drop_eq_getElem_cons (by simpa using hi)];simp [hi]
  . cases h
 | sl m rows=>
  simp only [Cell.at] at h;split at h
  . rename_i hi
    cases h;refine ⟨hi,((rows.drop (i+1)).flatten.drop (f-m)),?_⟩;have hu:∀ r∈rows,r.length=m:=hu;simp only [Cell.flat,Cell.esz];rw [<-List.drop_drop,wzz rows i hu,List.drop_eq_getElem_cons hi,List.flatten_cons,List.drop_append,hu _ (List.getElem_mem hi)];simp [hi]
  . cases h
 | _=>cases h
theorem Cell.vf9 {c c' : Cell} (hu : c.uni) {us : List Cell} (h : c.upd i f us = some c') :
 c'.uni/\c'.cnt=c.cnt/\c'.esz=c.esz/\i*c.esz+f+us.length<=c.flat.length/\c'.flat=c.flat.take (i*c.esz+f)++us++c.flat.drop (i*c.esz+f+us.length):=by
 cases c with
 | ints k l=>
  simp only [Cell.upd] at h;split at h
  . split at h
    . rename_i hc;obtain ⟨rfl,hi,rfl⟩:=hc
      cases h;refine ⟨trivial,by simp [Cell.cnt],rfl,by simp [Cell.esz,Cell.flat];omega,?_⟩;simp only [Cell.flat,Cell.esz,Nat.mul_one,Nat.add_zero,<-List.map_drop,<-List.map_take,List.length_cons,List.length_nil];rw [List.set_eq_take_append_cons_drop,if_pos hi];simp
    . cases h
  . cases h
 | sl m rows=>
  simp only [Cell.upd] at h;split at h
  . rename_i hc;obtain ⟨hi,hf⟩:=hc
    cases h;have hu:∀ r∈rows,r.length=m:=hu;have hrl:=hu _ (List.getElem_mem hi)
    have hge:rows.getD i []=rows[i]:=by simp [hi]
    rw [hge]
    have hnew:(rows[i].take f++us++rows[i].drop (f+us.length)).length=m:=by simp [hrl];omega
    refine ⟨fun r hr=>?_,by simp [Cell.cnt],rfl,?_,?_⟩
    . rcases List.mem_or_eq_of_mem_set hr with h | h
      . exact hu r h
      . rw [h];exact hnew
    . simp only [Cell.esz,Cell.flat];rw [w2q rows hu]
      have:(i+1)*m<=rows.length*m:=Nat.mul_le_mul_right _ hi
      rw [Nat.succ_mul] at this;omega
    . simp only [Cell.esz,Cell.flat];rw [List.set_eq_take_append_cons_drop,if_pos hi,List.flatten_append,List.flatten_cons]
      have e1:rows.flatten.take (i*m+f)=(rows.take i).flatten++rows[i].take f:=by
       rw [List.take_add,xxl rows i hu,wzz rows i hu,List.drop_eq_getElem_cons hi,List.flatten_cons,List.take_append_of_le_length (by rw [hrl];omega)]
      have e2:rows.flatten.drop (i*m+f+us.length)=rows[i].drop (f+us.length)++(rows.drop (i+1)).flatten:=by
       rw [Nat.add_assoc,<-List.drop_drop,wzz rows i hu,List.drop_eq_getElem_cons hi,List.flatten_cons,List.drop_append_of_le_length (by rw [hrl];omega)]
      rw [e1,e2];simp
  . cases h
 | _=>cases h
def v7m (ti:TI) (cs:List Cell):Option AV:=
 match ti.many with
 | some true=>if ti.size<=cs.length then some (.agg (cs.take ti.size)) else none
 | some false=>match cs with
  | c::_=>some (.one c)
  | []=>none
 | none=>none
def xmq (I:List AV) (ti:TI) (x:Operand):Option (List Nat×AV):=
 match opd I x with
 | .box cs=>(v7m ti cs).map fun v=>(orr x,v)
 | .obx cs=>(v7m ti cs).map fun v=>(orr x,v)
 | .ptr s off=>match (gt I s).xns with
  | some cs=>(v7m ti (cs.drop off)).map fun v=>(s::orr x,v)
  | none=>none
 | .elt cs=>(v7m ti cs).map fun v=>(orr x,v)
 | .pel s m i f=>match gt I s with
  | .arr _ c _=>if c.esz=m then match c.at i f with
   | some cs=>(v7m ti cs).map fun v=>(s::orr x,v)
   | none=>none
   else none
  | _=>none
 | _=>none
theorem yl6 (hti:TIok P T ti)
 (hc:∀ j u,vs[j]? = some u->w.cell? ⟨b,off+j,none⟩=some u) (hr:RdL M w τ vs cs) (hl:v7m ti cs=some av) :
 ∃ v,(loadVar T ⟨b,off,none⟩).run P w=.ok v w/\RdA M w τ v av:=by
 unfold v7m at hl
 have hadd:∀ j,(⟨b,off,none⟩:Addr).add j=⟨b,off+j,none⟩:=fun j=>by unfold Addr.add;split<;>simp_all
 split at hl
 . rename_i hm;split at hl
   . rename_i hle
     cases hl;obtain ⟨d,i,z,hd,hi,hz,hsz,hby,hzs,hone,hzc,hsh⟩:=hti.ex;have hlen:=hr.length;refine ⟨.agg (vs.take ti.size).toArray,?_,⟨vs.take ti.size,rfl,hr.take _⟩⟩
     have hld:=run_loadCells_list (P:=P) w ⟨b,off,none⟩ (vs.take ti.size) (fun j u hj=>by
      rw [hadd];refine hc j u ?_;rw [List.getElem?_take] at hj;split at hj
      . exact hj
      . cases hj)
     have hlt:(vs.take ti.size).length=ti.size:=by rw [List.length_take];omega
     rw [hlt] at hld;unfold loadVar;simp only [Sem.run_bind,hti.z1x hm,Result.andThen_ok,if_true,xvp hi,hsz,hld,Sem.run_pure]
   . cases hl
 . rename_i hm;split at hl
   . rename_i c cs'
     cases hl
     cases vs with
     | nil=>exact hr.elim
     | cons v vs=>
      refine ⟨v,?_,hr.1⟩
      have:=hc 0 v rfl
      unfold loadVar;simp only [Sem.run_bind,hti.z1x hm,Result.andThen_ok,Bool.false_eq_true,if_false];simp only [Nat.add_zero] at this;simp [load,Sem.run,this]
   . cases hl
 . cases hl
theorem zmw (h:v7m ti cs=some av):av.vy8=false/\av.rf=none:=by
 unfold v7m at h
 repeat' split at h
 all_goals first | (cases h;exact ⟨rfl,rfl⟩) | cases h
theorem vc9 {t:Nat}:∀{n:Nat} {cs:List Cell},vxx t (cs.take n)->vxx t cs
 | 0,cs,h=>by simp [vxx] at h
 | n+1,[],h=>h
 | n+1,c::cs,h=>h.imp id vc9
theorem v6v {t:Nat}:∀{n:Nat} {cs:List Cell},vxx t (cs.drop n)->vxx t cs
 | 0,cs,h=>by simpa using h
 | n+1,[],h=>h
 | n+1,c::cs,h=>.inr (v6v (by simpa using h))
theorem yzb {t:Nat}:∀{cs ds:List Cell},vxx t (cs++ds)->vxx t cs\/vxx t ds
 | [],_,h=>.inr h
 | c::cs,ds,h=>by
  rcases h with h | h
  . exact .inl (.inl h)
  . exact (yzb h).imp .inr id
theorem zkt (h:v7m ti cs=some av) {t:Nat} (ht:av.vjg t):vxx t cs:=by
 unfold v7m at h
 repeat' split at h
 all_goals first | (cases h;first | exact vc9 ht | exact .inl ht) | cases h
theorem y2q (h:w.heap[b]? = some (.cells vs.toArray T (0,0))) (off:Nat) :
 ∀ j u,(vs.drop off)[j]? = some u->w.cell? ⟨b,off+j,none⟩=some u:=fun j u hj=>by
 rw [List.getElem?_drop] at hj;simp [World.cell?,h,hj]
theorem RdD.w1a {M:Nat->Nat->Prop} {w:World} {τ:Nat->TV}:∀{vs:List Value} {cs:List Cell},RdD M w vs cs->RdL M w τ vs cs
 | [],[],_=>trivial
 | _::_,_::_,h=>⟨RdT.of h.1,h.2.w1a⟩
theorem RdD.wo7 {M:Nat->Nat->Prop} {w:World} {t:Nat}:∀{vs:List Value} {cs:List Cell},RdD M w vs cs->¬vxx t cs
 | [],[],_=>fun h=>h
 | _::_,c::_,h=>fun ht=>ht.elim (fun h'=>by cases c<;>first | exact h'.elim | exact h.1.z3m) h.2.wo7
theorem v9l (ho:o.op=.load T x) (hti:mkTI P T=some ti) (hl:xmq I ti x=some (rd,av))
 (h:val I o rd av=some r):yh6 P o I r.1 [] r.2:=by
 obtain ⟨d,hdst,hn,rfl⟩:=xj7 h;have hok:=vnz hti
 have hprops:av.vy8=false/\av.rf=none/\∀ t∈orr x,t∈rd:=by
  unfold xmq at hl
  repeat' split at hl
  all_goals first
   | (simp only [Option.map_eq_some_iff,Prod.mk.injEq] at hl
      obtain ⟨_,h1,rfl,rfl⟩:=hl
      exact ⟨(zmw h1).1,(zmw h1).2,fun t ht=>by simp [ht]⟩)
   | cases hl
 refine yh6.val hdst (by simp) hn hprops.1 (fun E τ M I' a w hag hI=>?_);have hop:opd I' x=opd I x:=hag.opd (fun t ht=>by simp [hprops.2.2 t ht]);have hs:=hI.opd x;rw [hop] at hs
 suffices hkey:∃(ad:Addr) (v:Value),a.eval x=.pointer (some ad)/\(loadVar T ad).run P w=.ok v w/\vi6 M w τ a.tmps v av/\∀ t,av.vjg t->live I' t by
  obtain ⟨ad,v,he,hrun,hsl,htk⟩:=hkey;refine ⟨v,w,?_,zgs w,hsl,htk,fun s b' hr=>by rw [hprops.2.1] at hr;cases hr⟩;simp [execOp,ho,Instr.loadAt,he,Instr.sureAddr,hrun]
 unfold xmq at hl;split at hl
 . rename_i cs hx;simp only [Option.map_eq_some_iff,Prod.mk.injEq] at hl;obtain ⟨_,h1,rfl,rfl⟩:=hl;rw [hx] at hs;obtain ⟨b,vs,T',e,hb,hr⟩:=hs;obtain ⟨v,hrun,hrd⟩:=yl6 hok (b:=b) (off:=0) (vs:=vs) (fun j u hj=>by simpa using y2q hb 0 j u (by simpa using hj)) hr h1;exact ⟨_,v,e,hrun,hrd.slot,fun t ht=>y1e (x:=x) (by rw [hop,hx];exact zkt h1 ht)⟩
 . rename_i cs hx;simp only [Option.map_eq_some_iff,Prod.mk.injEq] at hl;obtain ⟨_,h1,rfl,rfl⟩:=hl;rw [hx] at hs;obtain ⟨b,vs,T',e,hb,hr⟩:=hs;obtain ⟨v,hrun,hrd⟩:=yl6 hok (b:=b) (off:=0) (vs:=vs) (fun j u hj=>by simpa using y2q hb 0 j u (by simpa using hj)) hr h1;exact ⟨_,v,e,hrun,hrd.slot,fun t ht=>y1e (x:=x) (by rw [hop,hx];exact zkt h1 ht)⟩
 . rename_i s off hx;split at hl
   . rename_i cs hg;simp only [Option.map_eq_some_iff,Prod.mk.injEq] at hl;obtain ⟨_,h1,rfl,rfl⟩:=hl;rw [hx] at hs
     have hg':(gt I' s).xns=some cs:=by rw [hag.2 s (by simp)];exact hg
     obtain ⟨b,vs,T',e,hb,hr⟩:=x08 (hI.gt s) hg';have hs:a.eval x=.pointer (some ⟨blk (a.tmps.getD s Go.undef),off,none⟩):=hs;rw [e] at hs;obtain ⟨v,hrun,hrd⟩:=yl6 hok (b:=b) (off:=off) (vs:=vs.drop off) (fun j u hj=>y2q hb off j u hj) (hr.drop off) h1;exact ⟨_,v,hs,hrun,hrd.slot,fun t ht=>⟨s,_,vxi rfl (xbh hg').2.2,(vmf hg' t).2 (v6v (zkt h1 ht))⟩⟩
   . cases hl
 . rename_i cs hx;simp only [Option.map_eq_some_iff,Prod.mk.injEq] at hl;obtain ⟨_,h1,rfl,rfl⟩:=hl;rw [hx] at hs;obtain ⟨b,off,vs,e,hcl,hr⟩:=hs;obtain ⟨v,hrun,hrd⟩:=yl6 hok (τ:=τ) (b:=b) (off:=off) (vs:=vs) (fun j u hj=>(hcl j u hj).2) hr.w1a h1;exact ⟨_,v,e,hrun,hrd.slot,fun t ht=>absurd (zkt h1 ht) hr.wo7⟩
 . rename_i s m i f hx;split at hl
   . rename_i pre c post hg;split at hl
     . rename_i hm;split at hl
       . rename_i cs hat;simp only [Option.map_eq_some_iff,Prod.mk.injEq] at hl;obtain ⟨_,h1,rfl,rfl⟩:=hl;rw [hx] at hs
         have hg':gt I' s=.arr pre c post:=by rw [hag.2 s (by simp)];exact hg
         have hss:=hI.gt s;rw [hg'] at hss;obtain ⟨b,T',vs,q,cap,e,hb,hrd,_,hu,_⟩:=hss;have hs:a.eval x=.pointer (some ⟨blk (a.tmps.getD s Go.undef),offV (a.tmps.getD s Go.undef)+i*m+f,none⟩):=hs;rw [e] at hs;obtain ⟨hi,r,hdrop⟩:=Cell.va2 hu hat;subst hm;have hfull:RdD M w (vs.drop (i*c.esz+f)) (cs++r):=hdrop▸hrd.drop _
         have hrd':RdD M w ((vs.drop (i*c.esz+f)).take cs.length) cs:=by
          have:=hfull.take cs.length
          rwa [List.take_left] at this
         obtain ⟨v,hrun,hrdv⟩:=yl6 hok (τ:=τ) (b:=b) (off:=pre.length+i*c.esz+f) (vs:=(vs.drop (i*c.esz+f)).take cs.length) (fun j u hj=>by
          rw [List.getElem?_take] at hj;split at hj
          . rw [List.getElem?_drop] at hj;have hlt:i*c.esz+f+j<vs.length:=(List.getElem?_eq_some_iff.1 hj).1;simp only [World.cell?,hb];simp only [List.getElem?_toArray];rw [List.getElem?_append_right (by omega),List.getElem?_append_left (by omega)];rw [show pre.length+i*c.esz+f+j-pre.length=i*c.esz+f+j by omega];exact hj
          . cases hj) hrd'.w1a h1
         exact ⟨_,v,hs,hrun,hrdv.slot,fun t ht=>absurd (zkt h1 ht) hrd'.wo7⟩
       . cases hl
     . cases hl
   . cases hl
 . cases hl
theorem RdD.get {M:Nat->Nat->Prop} {w:World}:∀{vs:List Value} {cs:List Cell},RdD M w vs cs->∀(j:Nat) (c:Cell),cs[j]? = some c->∃ v,vs[j]? = some v/\RdC M w v c
 | [],[],_,j,c,hc=>by simp at hc
 | v::vs,c'::cs,h,0,c,hc=>by simp at hc;subst hc;exact ⟨v,by simp,h.1⟩
 | v::vs,c'::cs,h,j+1,c,hc=>by simpa using h.2.get j c (by simpa using hc)
theorem xma {m:Nat}:∀(rows:List (List α)) (i j:Nat),(∀ r∈rows,r.length=m)->i<rows.length->j<m->rows.flatten[i*m+j]? = (rows.getD i [])[j]?
 | rows,i,j,h,hi,hj=>by
  have hri:=h _ (List.getElem_mem hi);rw [<-List.getElem?_drop,wzz rows i h,List.drop_eq_getElem_cons hi,List.flatten_cons,List.getElem?_append_left (by omega)];simp [hi]
theorem zjx {cap:Nat} {pre q:List Value} {c:Cell} (hb:w.heap[b]? = some (.cells (pre++(vs++q)).toArray T (0,0))) (hr:RdD M w vs c.flat) (hu:c.uni)
 (hcap:c.cnt<=cap) (hM:∀ o,¬M b o):RdC M w (.slice (some ⟨b,pre.length,none⟩) c.cnt cap) c:=by
 have hcell:∀ i u,vs[i]? = some u->w.cell? ⟨b,pre.length+i,none⟩=some u:=fun i u hi=>by
  have hlt:i<vs.length:=(List.getElem?_eq_some_iff.1 hi).1;simp only [World.cell?,hb];simp only [List.getElem?_toArray];rw [List.getElem?_append_right (by omega),List.getElem?_append_left (by omega)];rw [show pre.length+i-pre.length=i by omega];exact hi
 cases c with
 | ints k l=>
  refine .ints b pre.length rfl hcap (fun _=>rfl) (fun i hi=>⟨hM _,?_⟩);obtain ⟨v,hv,hrv⟩:=hr.get i (.raw (.int k l[i])) (by simp [Cell.flat,hi]);rw [RdC.zb6 hrv] at hv;exact hcell i _ hv
 | sl n rows=>
  have hu:∀ r∈rows,r.length=n:=hu
  have key:∀ i (hi:i<rows.length) j,j<n->∃ v,vs[i*n+j]? = some v/\∀ hj':j<rows[i].length,RdC M w v (rows[i][j]'hj'):=fun i hi j hj=>by
   have hlen:=hu _ (List.getElem_mem hi)
   obtain ⟨v,hv,hrv⟩:=hr.get (i*n+j) (rows[i][j]'(by omega)) (by
    simp only [Cell.flat];rw [xma rows i j hu hi hj]
    have:rows.getD i []=rows[i]:=by simp [hi]
    rw [this]
    simp [hlen,hj])
   exact ⟨v,hv,fun _=>hrv⟩
  refine .sl b pre.length (fun i j=>(vs[i*n+j]?).getD Go.undef) rfl hcap (fun _=>rfl) hu (fun i hi j hj=>⟨hM _,?_⟩) (fun i hi j hj=>?_)
  . obtain ⟨v,hv,_⟩:=key i hi j hj
    have:=hcell (i*n+j) v hv
    rw [hv,Nat.add_assoc];exact this
  . have hlen:=hu _ (List.getElem_mem hi);obtain ⟨v,hv,hrv⟩:=key i hi j (by omega);rw [hv];exact hrv hj
 | _=>exact hu.elim
def Cell.sub (c:Cell) (lo n:Nat):Cell:=match c with
 | .ints k l=>.ints k ((l.drop lo).take n)
 | .sl m rows=>.sl m ((rows.drop lo).take n)
 | c=>c
theorem RdC.sub {M:Nat->Nat->Prop} {w:World} {b off len cap:Nat} {c:Cell} (hr:RdC M w (.slice (some ⟨b,off,none⟩) len cap) c) (hu:c.uni) {lo n cap':Nat} {ad:Option Addr} (hfit:lo+n<=c.cnt)
 (had:cap'≠0->ad=some ⟨b,off+lo*c.esz,none⟩) (hn:n<=cap'):RdC M w (.slice ad n cap') (c.sub lo n):=by
 cases hr with
 | raw h=>exact hu.elim
 | zc=>exact hu.elim
 | nn=>exact hu.elim
 | fnp=>exact hu.elim
 | @ints _ _ _ k l b' off' hl hc ha h=>
  simp only [Cell.cnt] at hfit;refine .ints b (off+lo) (by simp;omega) hn (fun hne=>?_) (fun i hi=>?_)
  . have:n≠0:=fun e=>hne (by simp [e])
    rw [had (by omega)];simp [Cell.esz]
  . simp only [List.length_take,List.length_drop] at hi
    have hne:l≠[]:=fun e=>by rw [e] at hfit;simp at hfit;omega
    have hh:=h (lo+i) (by omega)
    have:=ha hne
    simp only [Option.some.injEq,Addr.mk.injEq,and_true] at this;obtain ⟨rfl,rfl⟩:=this;rw [Nat.add_assoc];simpa using hh
 | @sl _ _ _ m rows b' off' u hl hc ha hn' hm hrr=>
  simp only [Cell.cnt] at hfit;refine .sl b (off+lo*m) (fun i j=>u (lo+i) j) (by simp;omega) hn (fun hne=>?_) (fun r hr'=>hn' r (List.mem_of_mem_drop (List.mem_of_mem_take hr'))) (fun i hi j hj=>?_) (fun i hi j hj=>?_)
  . have:n≠0:=fun e=>hne (by simp [e])
    rw [had (by omega)];simp [Cell.esz]
  . simp only [List.length_take,List.length_drop] at hi
    have hne:rows≠[]:=fun e=>by rw [e] at hfit;simp at hfit;omega
    have hh:=hm (lo+i) (by omega) j hj
    have:=ha hne
    simp only [Option.some.injEq,Addr.mk.injEq,and_true] at this;obtain ⟨rfl,rfl⟩:=this;rw [Nat.add_mul] at hh;rw [show off+lo*m+i*m+j=off+(lo*m+i*m)+j by omega];exact hh
  . simp only [List.length_take,List.length_drop] at hi
    have hlen:lo+i<rows.length:=by omega
    have hj':j<rows[lo+i].length:=by simpa using hj
    have:=hrr (lo+i) hlen j hj'
    simpa using this
theorem RdC.wo7 {v:Value} {c:Cell} (h:RdC M w v c) (t:Nat):¬c.vjg t:=fun ht=>by
 cases c with
 | tok d c=>exact h.z3m
 | _=>exact ht
theorem x89 (n:Nat):∀ cs:List Cell,zcr (cs.drop n)=(zcr cs).drop n:=by
 induction n with
 | zero=>intro cs;simp
 | succ n ih=>
  intro cs
  cases cs with
  | nil=>simp [zcr]
  | cons c cs=>simpa [zcr] using ih cs
def zjj (I:List AV) (ti:TI) (x y:Operand):Option (List Nat×Nat×AV):=
 match zj8 (opd I y) with
 | none=>none
 | some cs=>
  if cs.length=ti.size then
   match opd I x with
   | .box old=>match x with
    | .tmp s=>if ti.size<=old.length then some (s::orr y,s,.box (cs++old.drop ti.size)) else none
    | _=>none
   | .obx old=>match x with
    | .tmp s=>if ti.size<=old.length then some (s::orr y,s,.obx (cs++old.drop ti.size)) else none
    | _=>none
   | .ptr s off=>match (gt I s).xns with
    | some old=>if off+ti.size<=old.length then some (s::(orr x++orr y),s,(gt I s).zca (old.take off++cs++old.drop (off+ti.size))) else none
    | none=>none
   | .pel s m i f=>match gt I s with
    | .arr pre c post=>if c.esz=m then match c.upd i f (zcr cs) with
     | some c'=>some (s::(orr x++orr y),s,.arr pre c' post)
     | none=>none
     else none
    | _=>none
   | _=>none
  else none
theorem y2r (hti:TIok P T ti) {Tb:TypeId} (hb:w.heap[b]? = some (.cells vs.toArray Tb (0,0)))
 {v:Value} (hsz:v.cells.size=ti.size) (h1:∀ u∈v.cells.toList,u.oneCell'=true) (hfit:off+ti.size<=vs.length) :
 (storeVar T ⟨b,off,none⟩ v).run P w=.ok () (w.setRow b (vs.take off++v.cells.toList++vs.drop (off+ti.size)).toArray):=by
 obtain ⟨d,i,z,hd,hi,hz,hsz',hby,hzs,hone,hzc,hsh⟩:=hti.ex;have hst:=run_storeCells_at P b off Tb v.cells.toList 0 vs.toArray w hb (by simp [hsz];omega) h1;unfold storeVar;simp only [Sem.run_bind,xvp hi,Result.andThen_ok];rw [hsz,hsz'];simp only [ne_eq,not_true_eq_false,if_false];simpa [hsz] using hst
theorem xwq (l:List α) (i:Nat) (x:α) (h:i<l.length):l.set i x=l.take i++[x]++l.drop (i+1):=by
 rw [List.set_eq_take_append_cons_drop,if_pos h];simp
theorem v8s (ho:o.op=.store T x y) (hdst:o.dst=none) (hti:mkTI P T=some ti) {s:Nat}
 (hst:zjj I ti x y=some (rd,s,av)):yh6 P o I rd [] [(s,av)]:=by
 have hok:=vnz hti;intro E I' a w hag _ ⟨τ,M,hI⟩ K Q hK;unfold zjj at hst;split at hst
 . cases hst
 rename_i cs hcs;split at hst
 . rename_i hlen
   have common:(∀ t∈orr y,t∈rd)->RdL M w τ (a.eval y).cells.toList cs/\(a.eval y).cells.size=ti.size/\(∀ u∈(a.eval y).cells.toList,u.oneCell'=true)/\∀ t,vxx t cs->live I' t:=fun hy=>by
    have hoy:opd I' y=opd I y:=hag.opd hy;have hs:=hI.opd y;rw [hoy] at hs;have hr:=v3g hcs hs;refine ⟨hr,?_,hr.ones,fun t ht=>?_⟩
    . rw [<-hlen,<-hr.length];simp
    . have:=xni hcs ht
      rw [<-hoy] at this;exact y1e this
   have boxcase:∀(off:Nat) (old:List Cell),(gt I' s).xns=some old->a.eval x=.pointer (some ⟨blk (a.tmps.getD s Go.undef),off,none⟩)->off+ti.size<=old.length->(∀ t∈orr y,t∈rd)->
    av=(gt I' s).zca (old.take off++cs++old.drop (off+ti.size))->o.wp P a w K Q:=fun off old hg hx hfit hy hav=>by
    obtain ⟨hr,hsz,hone,htok⟩:=common hy;obtain ⟨b,vs,Tb,e,hb,hrb⟩:=x08 (hI.gt s) hg;have hvl:=hrb.length
    have hbb:blk (a.tmps.getD s Go.undef)=b:=by rw [e];rfl
    rw [hbb] at hx;have hrun:=y2r hok hb hsz hone (off:=off) (by omega);unfold Oper.wp;simp only [execOp,ho,Instr.storeAt,hx,Instr.sureAddr,Sem.run_bind,Sem.run_pure,Result.andThen_ok,hrun];show K (a.put o.dst Go.undef) _;rw [hdst];refine hK _ _ ⟨τ,M,?_⟩;have hgs:=vxi (av:=gt I' s) rfl (xbh hg).2.2
    have hav':av.xns=some (old.take off++cs++old.drop (off+ti.size))/\av.fits true=true/\av.fits false=false/\av.vy8=true/\av.fresh=(gt I' s).fresh:=by
     rw [hav];generalize gt I' s=g at hg
     cases g<;>first | exact ⟨rfl,rfl,rfl,rfl,rfl⟩ | cases hg
    have hrw:=hI.rewrite (new:=av) hgs (xbh hg).1 hav'.2.2.2.1 (by
     intro b' hf
     cases b' with
     | true=>exact hav'.2.1
     | false=>
      exfalso;generalize gt I' s=g at hg hf
      cases g<;>simp [AV.fits,AV.vfv,AV.xns] at hf hg) hav'.2.2.2.2
     (vs.take off++(a.eval y).cells.toList++vs.drop (off+ti.size)).toArray ?_ ?_
    . rw [hbb] at hrw;exact hrw
    . intro vs1 T1 _;rw [hbb];have hM:∀ o,M b o:=hbb▸(hI.hold s _ hgs (xbh hg).1).1
      have hk:ya3 M M w (w.setRow b (vs.take off++(a.eval y).cells.toList++vs.drop (off+ti.size)).toArray):=fun b' o u hm hc=>⟨hm,by
       rw [cell_setRow_other]
       . exact hc
       . exact fun e'=>hm (by rw [show b'=b from e'];exact hM o)⟩
      have hnew:=(((hrb.take off).append hr).append (hrb.drop (off+ti.size))).keep hk (fun _ _=>rfl);have hex:∃(b_1:Nat) (vs_1:List Value) (T:TypeId),a.tmps.getD s Go.undef=.pointer (some ⟨b_1,0,none⟩)/\(w.setRow b (vs.take off++(a.eval y).cells.toList++vs.drop (off+ti.size)).toArray).heap[b_1]? = some (.cells vs_1.toArray T (0,0))/\
       RdL M (w.setRow b (vs.take off++(a.eval y).cells.toList++vs.drop (off+ti.size)).toArray) τ vs_1 (old.take off++cs++old.drop (off+ti.size)):=⟨b,_,Tb,e,setRow_heap w b _ _ Tb (0,0) hb,hnew⟩
      have hbo:=hav'.1
      cases av<;>first | (cases hbo;exact hex) | cases hbo
    . intro t ht;rw [vmf hav'.1] at ht
      have hold:∀ t,vxx t old->live I' t:=fun t ht=>⟨s,_,hgs,(vmf hg t).2 ht⟩
      rcases yzb ht with ht | ht
      . rcases yzb ht with ht | ht
        . exact hold t (vc9 ht)
        . exact htok t ht
      . exact hold t (v6v ht)
   split at hst
   . rename_i old hx;split at hst
     . rename_i s';split at hst
       . rename_i hfit
         cases hst
         have hg:gt I' s=.box old:=by rw [hag.2 s (by simp)];exact hx
         have hs:=hI.gt s;rw [hg] at hs;obtain ⟨b,vs,Tb,e,hb,hrb⟩:=hs;refine boxcase 0 old (by rw [hg];rfl) ?_ (by omega) (fun t ht=>by simp [ht]) (by rw [hg];simp [AV.zca]);show a.tmps.getD s Go.undef=_;rw [e];rfl
       . cases hst
     . cases hst
   . rename_i old hx;split at hst
     . rename_i s';split at hst
       . rename_i hfit
         cases hst
         have hg:gt I' s=.obx old:=by rw [hag.2 s (by simp)];exact hx
         have hs:=hI.gt s;rw [hg] at hs;obtain ⟨b,vs,Tb,e,hb,hrb⟩:=hs;refine boxcase 0 old (by rw [hg];rfl) ?_ (by omega) (fun t ht=>by simp [ht]) (by rw [hg];simp [AV.zca]);show a.tmps.getD s Go.undef=_;rw [e];rfl
       . cases hst
     . cases hst
   . rename_i s' off hx;split at hst
     . rename_i old hg0;split at hst
       . rename_i hfit
         cases hst;have hgg:gt I' s=gt I s:=hag.2 s (by simp);have hox:opd I' x=opd I x:=hag.opd (fun t ht=>by simp [ht]);have hs:=hI.opd x;rw [hox,hx] at hs;exact boxcase off old (by rw [hgg];exact hg0) hs hfit (fun t ht=>by simp [ht]) (by rw [hgg])
       . cases hst
     . cases hst
   . rename_i s' m i f hx;split at hst
     . rename_i pre c post hg0;split at hst
       . rename_i hm;split at hst
         . rename_i c' hupd
           cases hst;subst hm
           have hg:gt I' s=.arr pre c post:=by rw [hag.2 s (by simp)];exact hg0
           have hox:opd I' x=opd I x:=hag.opd (fun t ht=>by simp [ht]);have hs:=hI.opd x;rw [hox,hx] at hs;have hs:a.eval x=.pointer (some ⟨blk (a.tmps.getD s Go.undef),offV (a.tmps.getD s Go.undef)+i*c.esz+f,none⟩):=hs;obtain ⟨hr,hsz,hone,htok⟩:=common (fun t ht=>by simp [ht]);have hss:=hI.gt s;rw [hg] at hss;obtain ⟨b,Tb,vs,q,cap,e,hb,hrd,hpost,hu,hcap,hcap'⟩:=hss;obtain ⟨hu',hcnt,hesz,hfit,hflat⟩:=Cell.vf9 hu hupd
           have hbb:blk (a.tmps.getD s Go.undef)=b:=by rw [e];rfl
           rw [hbb] at hs
           have hoff:offV (a.tmps.getD s Go.undef)=pre.length:=by rw [e];rfl
           rw [hoff] at hs;have hvl:=hrd.length
           have hbl:(zcr cs).length=cs.length:=by rw [<-hr.bare.length,hr.length]
           have hul:(a.eval y).cells.toList.length=(zcr cs).length:=hr.bare.length
           have hsz':ti.size=(zcr cs).length:=by rw [<-hlen,hbl]
           have hrun:=y2r hok hb hsz hone (off:=pre.length+i*c.esz+f) (by simp;omega);have hnew:(pre++(vs++q)).take (pre.length+i*c.esz+f)++(a.eval y).cells.toList++(pre++(vs++q)).drop (pre.length+i*c.esz+f+ti.size) =
            pre++((vs.take (i*c.esz+f)++(a.eval y).cells.toList++vs.drop (i*c.esz+f+(zcr cs).length))++q):=by
            rw [List.take_append,List.drop_append,List.take_of_length_le (by omega),List.drop_eq_nil_of_le (by omega),hsz'];rw [show pre.length+i*c.esz+f-pre.length=i*c.esz+f by omega,show pre.length+i*c.esz+f+(zcr cs).length-pre.length=i*c.esz+f+(zcr cs).length by omega];rw [List.take_append_of_le_length (by omega),List.drop_append_of_le_length (by omega)];simp
           rw [hnew] at hrun;unfold Oper.wp;simp only [execOp,ho,Instr.storeAt,hs,Instr.sureAddr,Sem.run_bind,Sem.run_pure,Result.andThen_ok,hrun];show K (a.put o.dst Go.undef) _;rw [hdst];refine hK _ _ ⟨τ,M,?_⟩;have hgs:=vxi hg (by simp);have hrw:=hI.rewrite (new:=.arr pre c' post) hgs rfl rfl (by intro b' hf;cases b'<;>simp_all [AV.fits,AV.yk7,AV.vfv]) (by cases post<;>rfl)
            (pre++((vs.take (i*c.esz+f)++(a.eval y).cells.toList++vs.drop (i*c.esz+f+(zcr cs).length))++q)).toArray ?_ (fun t ht=>ht.elim)
           . rw [hbb] at hrw;exact hrw
           . intro vs1 T1 _;rw [hbb];have hM:∀ o,M b o:=hbb▸(hI.hold s _ hgs rfl).1
             have hk:ya3 M M w (w.setRow b (pre++((vs.take (i*c.esz+f)++(a.eval y).cells.toList++vs.drop (i*c.esz+f+(zcr cs).length))++q)).toArray):=fun b' o u hm hc=>⟨hm,by
              rw [cell_setRow_other]
              . exact hc
              . exact fun e'=>hm (by rw [show b'=b from e'];exact hM o)⟩
             refine ⟨b,Tb,vs.take (i*c.esz+f)++(a.eval y).cells.toList++vs.drop (i*c.esz+f+(zcr cs).length),q,cap,by rw [e,hcnt],setRow_heap w b _ _ Tb (0,0) hb,?_,hpost,hu',by rw [hcnt];exact hcap,?_⟩
             . rw [hflat];exact (((hrd.take _).append hr.bare).append (hrd.drop _)).keep hk
             . rw [hesz];simp only [List.length_append,List.length_take,List.length_drop,hul];omega
         . cases hst
       . cases hst
     . cases hst
   . cases hst
 . cases hst
theorem zhd {d:TypeDesc} (h:shOf P d=.struct fs):∃ fl,d=.struct fl/\fs=fl.toList.map (fun f=>(f.offset,P.cellsOf f.type,f.type))/\∀ f∈fl.toList,P.cellsOf f.type≠0:=by
 cases d with
 | struct fl=>
  unfold shOf at h;dsimp only at h;split at h
  . rename_i hc
    cases h;exact ⟨fl,rfl,rfl,fun f hf=>by simpa using (List.all_eq_true.1 hc) f hf⟩
  . cases h
 | slice e=>
  exfalso;revert h;unfold shOf;dsimp only
  split
  . split
    . split<;>simp
    . simp
  . simp
 | _=>simp [shOf] at h
def wii (I:List AV) (ti:TI) (x:Operand) (f:Nat):Option AV:=
 match ti.sh with
 | .struct fs=>match fs[f]? with
  | some (off,_,_)=>match opd I x with
   | .box _=>match x with
    | .tmp t=>some (.ptr t off)
    | _=>none
   | .obx _=>match x with
    | .tmp t=>some (.ptr t off)
    | _=>none
   | .ptr s o=>some (.ptr s (o+off))
   | .pel s m i f=>some (.pel s m i (f+off))
   | .elt cs=>some (.elt (cs.drop off))
   | _=>none
  | none=>none
 | _=>none
theorem zbv {t:TypeId} (h:P.cellsOf t≠0):∃ i,P.info? t=some i/\i.size=P.cellsOf t:=by
 unfold Program.cellsOf at *
 cases hi:P.info? t with
 | none=>simp [hi] at h
 | some i=>exact ⟨i,rfl,by simp⟩
theorem v1c (b off n:Nat):(⟨b,off,none⟩:Addr).add n=⟨b,off+n,none⟩:=by unfold Addr.add;split<;>simp_all
theorem w2u (hti:TIok P S ti) (hs:ti.sh=.struct fs) {sz:Nat} {ft:TypeId} (hf:fs[f]? = some (off,sz,ft)) (w:World) (b o:Nat) :
 (Instr.fieldAt S (.pointer (some ⟨b,o,none⟩)) f).run P w=.ok (.pointer (some ⟨b,o+off,none⟩)) w:=by
 obtain ⟨d,i,z,hd,hi,hz,hsz',hby,hzs,hone,hzc,hsh⟩:=hti.ex;obtain ⟨fl,rfl,rfl,hne⟩:=zhd (hsh.symm.trans hs);simp only [List.getElem?_map,Option.map_eq_some_iff,Prod.mk.injEq] at hf;obtain ⟨fd,hfd,rfl,rfl,rfl⟩:=hf
 have hfd':fl[f]? = some fd:=by simpa using hfd
 have hm:fd∈fl.toList:=List.mem_of_getElem? hfd;obtain ⟨j,hj,hjs⟩:=zbv (hne fd hm)
 have hj0:j.size≠0:=by rw [hjs];exact hne fd hm
 unfold Instr.fieldAt;simp only [Sem.run_bind,voj hd,Result.andThen_ok,hfd',Instr.sureAddr,Sem.run_pure,fieldPlace,xvp hj,hj0,if_false,v1c]
theorem x4u (ho:o.op=.fieldAddr S x f) (hti:mkTI P S=some ti) (hfa:wii I ti x f=some av)
 (h:val I o (orr x) av=some r):yh6 P o I r.1 [] r.2:=by
 obtain ⟨d,hdst,hn,rfl⟩:=xj7 h;have hok:=vnz hti
 have hnh:av.vy8=false/\∀ t,¬av.vjg t:=by
  unfold wii at hfa
  repeat' split at hfa
  all_goals first | (cases hfa;exact ⟨rfl,fun t h=>h⟩) | cases hfa
 refine yh6.val hdst (by simp) hn hnh.1 (fun E τ M I' a w hag hI=>?_);have hop:opd I' x=opd I x:=hag.opd (fun t ht=>by simp [ht]);have hs:=hI.opd x;rw [hop] at hs;unfold wii at hfa;split at hfa
 . rename_i fs hsh;split at hfa
   . rename_i off sz ft hff;have fin:∀(b o':Nat),a.eval x=.pointer (some ⟨b,o',none⟩)->vi6 M w τ a.tmps (.pointer (some ⟨b,o'+off,none⟩)) av->
      (∀(s:Nat) (b:Bool),av.rf=some (s,b)->∃ hv:AV,I'[s]? = some hv/\hv.fits b=true)->
      ∃ v w',(execOp a.eval o).run P w=.ok (.value v) w'/\Below w.heap.size w w'/\vi6 M w' τ a.tmps v av/\(∀ t,av.vjg t->live I' t)/\
      (∀(s:Nat) (b:Bool),av.rf=some (s,b)->∃ hv:AV,I'[s]? = some hv/\hv.fits b=true):=fun b o' hx hsl hrf=>
      ⟨_,w,by simp [execOp,ho,hx,w2u hok hsh hff w b o'],zgs w,hsl,fun t ht=>absurd ht (hnh.2 t),hrf⟩
     split at hfa
     . rename_i cs hx;split at hfa
       . rename_i t
         cases hfa;rw [hx] at hs;obtain ⟨b,vs,Tb,e,hb,hr⟩:=hs;refine fin b 0 e ?_ (fun s b' hr'=>?_)
         . show _=Value.pointer (some ⟨blk (a.eval (.tmp t)),off,none⟩);rw [e];simp [blk]
         . simp only [AV.rf,Option.some.injEq,Prod.mk.injEq] at hr';obtain ⟨rfl,rfl⟩:=hr';exact ⟨_,vxi (hop.trans hx) (by simp),rfl⟩
       . cases hfa
     . rename_i cs hx;split at hfa
       . rename_i t
         cases hfa;rw [hx] at hs;obtain ⟨b,vs,Tb,e,hb,hr⟩:=hs;refine fin b 0 e ?_ (fun s b' hr'=>?_)
         . show _=Value.pointer (some ⟨blk (a.eval (.tmp t)),off,none⟩);rw [e];simp [blk]
         . simp only [AV.rf,Option.some.injEq,Prod.mk.injEq] at hr';obtain ⟨rfl,rfl⟩:=hr';exact ⟨_,vxi (hop.trans hx) (by simp),rfl⟩
       . cases hfa
     . rename_i s o' hx
       cases hfa;rw [hx] at hs;refine fin _ o' hs rfl (fun s' b' hr'=>?_)
       cases x with
       | tmp t=>exact hI.refs t _ s' b' (vxi (hop.trans hx) (by simp)) (by simpa [AV.rf] using hr')
       | const v=>
        exfalso;simp only [opd,wx7] at hx;split at hx
        . split at hx<;>cases hx
        . cases hx
        . cases hx
       | func f=>cases hx
       | global g=>cases hx
     . rename_i s m i f' hx
       cases hfa;rw [hx] at hs;refine fin _ _ hs (by show _=Value.pointer _;rw [Nat.add_assoc]) (fun s' b' hr'=>?_)
       cases x with
       | tmp t=>exact hI.refs t _ s' b' (vxi (hop.trans hx) (by simp)) (by simpa [AV.rf] using hr')
       | const v=>
        exfalso;simp only [opd,wx7] at hx;split at hx
        . split at hx<;>cases hx
        . cases hx
        . cases hx
       | func f=>cases hx
       | global g=>cases hx
     . rename_i cs hx
       cases hfa;rw [hx] at hs;obtain ⟨b,o',vs,e,hc,hr⟩:=hs;refine fin b o' e ⟨b,o'+off,vs.drop off,rfl,fun j u hj=>?_,hr.drop off⟩ (fun s b hr=>by cases hr);rw [List.getElem?_drop] at hj
       have:=hc (off+j) u hj
       rwa [<-Nat.add_assoc] at this
     . cases hfa
   . cases hfa
 . cases hfa
def wo5 (I:List AV) (x:Operand) (n:Nat):Option AV:=
 match opd I x with
 | .tup l=>match l[n]? with
  | some (.one c)=>some (.one c)
  | some (.agg cs)=>some (.agg cs)
  | some .any=>some .any
  | _=>none
 | _=>none
theorem RdB.slot {v:Value} (h:RdB M w v av):vi6 M w τ tm v av/\∀ t,¬av.vjg t:=by
 cases av with
 | one c=>exact ⟨RdT.of h,fun t ht=>by cases c<;>first | exact ht.elim | exact h.z3m⟩
 | agg cs=>obtain ⟨vs,rfl,h⟩:=h;exact ⟨⟨vs,rfl,h.w1a⟩,fun t ht=>h.wo7 ht⟩
 | any=>exact ⟨trivial,fun t ht=>ht⟩
 | undef=>exact ⟨h,fun t ht=>ht⟩
 | elt cs=>exact ⟨h,fun t ht=>ht⟩
 | _=>exact h.elim
theorem yzm {n:Nat} (ho:o.op=.extract x n) (hfa:wo5 I x n=some av)
 (h:val I o (orr x) av=some r):yh6 P o I r.1 [] r.2:=by
 obtain ⟨d,hdst,hn,rfl⟩:=xj7 h
 have hnh:av.vy8=false/\av.rf=none:=by
  unfold wo5 at hfa
  repeat' split at hfa
  all_goals first | (cases hfa;exact ⟨rfl,rfl⟩) | cases hfa
 refine yh6.val hdst (by simp) hn hnh.1 (fun E τ M I' a w hag hI=>?_);have hop:opd I' x=opd I x:=hag.opd (fun t ht=>by simp [ht]);have hs:=hI.opd x;rw [hop] at hs
 have:∃ l,opd I x=.tup l/\l[n]? = some av:=by
  unfold wo5 at hfa;split at hfa
  . rename_i l hl;refine ⟨l,hl,?_⟩
    split at hfa<;>first | (cases hfa;assumption) | cases hfa
  . cases hfa
 obtain ⟨l,hl,hav⟩:=this;rw [hl] at hs;obtain ⟨vs,e,hr⟩:=hs;obtain ⟨v,hv,hrb⟩:=hr.get n av hav;have hsl:=hrb.slot (τ:=τ) (tm:=a.tmps);refine ⟨v,w,?_,zgs w,hsl.1,fun t ht=>absurd ht (hsl.2 t),fun s b hr=>by rw [hnh.2] at hr;cases hr⟩;simp [execOp,ho,e,Instr.extract,hv]
end Go.Slot
